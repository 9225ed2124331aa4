/- A checked evaluator for the program, and what it tells, part 4: no condition. -/
import Derived.Test.YtnjljebicihpaaaGreatDoorMW3
import Derived.Shelf.Strings.IndexAnyAll
import Derived.Shelf.Small.Utf8
import Derived.Laws.RangeAny
import Derived.Laws.Runes
import Derived.Scope
import Derived.Lib.OthersKept
import Derived.Deep.QuietTactic
import Derived.BigQuiet
import Derived.WalkMore
import Derived.Test.YtnjljebicihpaaaGreatDoorProg
import Derived.Shelf.Sort.Plain
import Derived.Shelf.Slices.In.SortNone
import Derived.Shelf.Strconv.Itoa3
set_option linter.all false
set_option linter.unusedVariables false
set_option linter.unusedSimpArgs false
set_option maxHeartbeats 8000000
set_option maxRecDepth 20000
section
namespace Go.Eng
def isPk:AV→Bool
 | .pk _ _=>true
 | _=>false
theorem exL_nil:exL []=[]:=by simp[exL]
theorem exL_pk (n b:Nat)(l:List AV):exL (.pk n b::l)=bytesOf n b++exL l:=by simp[exL]
theorem exL_one {x:AV}(h:isPk x=false)(l:List AV):exL (x::l)=ex x::exL l:=by
 cases x<;>first | (simp[isPk]at h;done) | (simp[exL];done)
theorem exL_cons (x:AV)(l:List AV):exL (x::l)=exL [x]++exL l:=by
 cases x<;>simp[exL]
theorem exL_append: ∀(a b:List AV),exL (a++b)=exL a++exL b
 | [],b=>by simp[exL_nil]
 | x::a,b=>by rw[List.cons_append,exL_cons,exL_append a b,exL_cons x a,List.append_assoc]
theorem bytesOf_zero (b:Nat):bytesOf 0 b=[]:=rfl
theorem bytesOf_succ (n b:Nat):bytesOf (n+1) b= .int .u8 (.ofNat (b % 256))::bytesOf n (b / 256):=rfl
theorem bytesOf_len: ∀(n b:Nat),(bytesOf n b).length=n
 | 0,_=>rfl
 | n+1,b=>by rw[bytesOf_succ,List.length_cons,bytesOf_len]
theorem bytesOf_add: ∀(n m b:Nat),bytesOf (n+m) b=bytesOf n b++bytesOf m (b / 256 ^ n)
 | 0,m,b=>by simp[bytesOf_zero]
 | n+1,m,b=>by
  rw[show n+1+m=(n+m)+1 from by omega,bytesOf_succ,bytesOf_succ,bytesOf_add n m,List.cons_append,Nat.pow_succ,Nat.mul_comm, ← Nat.div_div_eq_div_mul]
theorem bytesOf_mod: ∀(n k b:Nat),n≤k→bytesOf n (b % 256 ^ k)=bytesOf n b
 | 0,_,_,_=>rfl
 | n+1,0,_,h=>by omega
 | n+1,k+1,b,h=>by
  have e1:b % 256 ^ (k+1) % 256=b % 256:=Nat.mod_mod_of_dvd b ⟨256 ^ k,by rw[Nat.pow_succ,Nat.mul_comm]⟩
  have e2:b % 256 ^ (k+1) / 256=b / 256 % 256 ^ k:=by
   rw[Nat.pow_succ,Nat.mul_comm,Nat.mod_mul_right_div_self]
  rw[bytesOf_succ,bytesOf_succ,e1,e2,bytesOf_mod n k _ (by omega)]
theorem bytesOf_take (n k b:Nat)(h:k≤n):(bytesOf n b).take k=bytesOf k b:=by
 obtain⟨m,rfl⟩:=Nat.exists_eq_add_of_le h
 rw[bytesOf_add,List.take_left' (bytesOf_len k b)]
theorem bytesOf_drop (n k b:Nat)(h:k≤n):(bytesOf n b).drop k=bytesOf (n - k) (b / 256 ^ k):=by
 obtain⟨m,rfl⟩:=Nat.exists_eq_add_of_le h
 rw[bytesOf_add,List.drop_left' (bytesOf_len k b),Nat.add_sub_cancel_left]
theorem bytes_take_all {m n:Nat}(b:Nat)(h:m≤n):(bytesOf m b).take n=bytesOf m b:=List.take_of_length_le (by rw[bytesOf_len];exact h)
theorem bytes_drop_all {m n:Nat}(b:Nat)(h:m≤n):(bytesOf m b).drop n=[]:=List.drop_of_length_le (by rw[bytesOf_len];exact h)
theorem bytesOf_get: ∀(n i b:Nat),i<n→(bytesOf n b)[i]? =some (.int .u8 (.ofNat (b / 256 ^ i % 256)))
 | 0,_,_,h=>by omega
 | n+1,0,b,_=>by rw[bytesOf_succ];simp
 | n+1,i+1,b,h=>by
  rw[bytesOf_succ,List.getElem?_cons_succ,bytesOf_get n i _ (by omega),Nat.div_div_eq_div_mul,Nat.pow_succ,Nat.mul_comm 256]
theorem bytesOf_cat (n m b c:Nat):bytesOf (n+m) (b % 256 ^ n+c*256 ^ n)=bytesOf n b++bytesOf m c:=by
 have hp:0<256 ^ n:=Nat.pow_pos (by decide)
 have h1:(b % 256 ^ n+c*256 ^ n) / 256 ^ n=c:=by
  rw[Nat.add_mul_div_right _ _ hp,Nat.div_eq_of_lt (Nat.mod_lt _ hp),Nat.zero_add]
 have h2:(b % 256 ^ n+c*256 ^ n) % 256 ^ n=b % 256 ^ n:=by
  rw[Nat.add_mul_mod_self_right,Nat.mod_mod]
 rw[bytesOf_add,h1, ← bytesOf_mod n n (b % 256 ^ n+c*256 ^ n) (Nat.le_refl _),h2,bytesOf_mod n n b (Nat.le_refl _)]
theorem bytesOf_inj: ∀(n b c:Nat),bytesOf n b=bytesOf n c→b % 256 ^ n=c % 256 ^ n
 | 0,_,_,_=>by simp[Nat.mod_one]
 | n+1,b,c,h=>by
  rw[bytesOf_succ,bytesOf_succ]at h
  simp only[List.cons.injEq,AV.int.injEq,true_and,Int.ofNat.injEq]at h
  have ih:=bytesOf_inj n _ _ h.2
  rw[Nat.pow_succ,Nat.mul_comm,Nat.mod_mul,Nat.mod_mul,h.1,ih]
theorem textOf_bytes: ∀(n b:Nat),b<256 ^ n→textOf (bytesOf n b)=some (n,b)
 | 0,b,h=>by simp at h;subst h;rfl
 | n+1,b,h=>by
  have h1:b / 256<256 ^ n:=by rw[Nat.pow_succ]at h;exact Nat.div_lt_of_lt_mul (by omega)
  have h2:Nat.blt (b % 256) 256=true:=by rw[Nat.blt_eq];exact Nat.mod_lt _ (by decide)
  rw[bytesOf_succ]
  simp only[textOf,h2,cond_true,textOf_bytes n _ h1,fN_eq,Option.some.injEq,Prod.mk.injEq,true_and]
  have:=Nat.div_add_mod b 256;omega
theorem cwd_eq: ∀(l:List AV) (a:Nat),cwd l a=(exL l).length+a
 | [],a=>by simp[cwd,exL_nil]
 | x::l,a=>by
  cases x<;>first
   | (rw[exL_pk,List.length_append,bytesOf_len];simp only[cwd];rw[cwd_eq l];omega)
   | (rw[exL_one rfl,List.length_cons];simp only[cwd];rw[cwd_eq l];omega)
theorem cwd_zero (l:List AV):cwd l 0=(exL l).length:=by rw[cwd_eq];rfl
theorem cnth_zero {x:AV}(hp:isPk x=false)(l:List AV):cnth (x::l) 0=some x:=by
 cases x<;>first | (simp[isPk]at hp;done) | rfl
theorem cnth_succ {x:AV}(hp:isPk x=false)(l:List AV)(n:Nat):cnth (x::l) (n+1)=cnth l n:=by
 cases x<;>first | (simp[isPk]at hp;done) | rfl
theorem csub_zero {x:AV}(hp:isPk x=false)(l:List AV)(n:Nat):csub (x::l) 0 n=ctake (x::l) n:=by
 cases x<;>first | (simp[isPk]at hp;done) | rfl
theorem csub_succ {x:AV}(hp:isPk x=false)(l:List AV)(o n:Nat):csub (x::l) (o+1) n=csub l o n:=by
 cases x<;>first | (simp[isPk]at hp;done) | rfl
theorem cset0_zero {x:AV}(hp:isPk x=false)(l new:List AV):cset0 (x::l) 0 new=ccover (x::l) new:=by
 cases x<;>first | (simp[isPk]at hp;done) | rfl
theorem cset0_succ {x:AV}(hp:isPk x=false)(l:List AV)(o:Nat)(new:List AV):cset0 (x::l) (o+1) new=(match cset0 l o new with | some r=>some (x::r) | none=>none):=by
 cases x<;>first | (simp[isPk]at hp;done) | rfl
theorem cnth_eq: ∀(l:List AV) (n:Nat) (v:AV),cnth l n=some v→nth (exL l) n=some (ex v)
 | [],n,v,h=>by simp[cnth]at h
 | x::l,n,v,h=>by
  rw[nth_eq]
  by_cases hp:isPk x=true
  ·cases x<;>first | (simp[isPk]at hp;done) | skip
   rename_i m b
   simp only[cnth]at h
   rw[cond_eq_ite]at h
   rw[exL_pk]
   split at h
   ·rename_i hc
    rw[Nat.blt_eq]at hc
    rw[fN_eq,pow8]at h
    simp only[Option.some.injEq]at h
    subst h
    rw[List.getElem?_append_left (by rw[bytesOf_len];exact hc),bytesOf_get _ _ _ hc]
    simp[ex]
   ·rename_i hc
    rw[Nat.blt_eq]at hc
    rw[List.getElem?_append_right (by rw[bytesOf_len];omega),bytesOf_len, ← nth_eq]
    exact cnth_eq l _ v h
  ·have hp:isPk x=false:=by simpa using hp
   rw[exL_one hp]
   cases n with
   | zero=>rw[cnth_zero hp]at h;simp only[Option.some.injEq]at h;subst h;simp
   | succ n=>
    rw[cnth_succ hp]at h
    rw[List.getElem?_cons_succ, ← nth_eq]
    exact cnth_eq l n v h
theorem ctake_eq: ∀(l:List AV) (n:Nat) (r:List AV),ctake l n=some r→exL r=(exL l).take n∧n≤(exL l).length
 | [],n,r,h=>by
  simp only[ctake,cond_eq_ite,Nat.beq_eq]at h
  split at h
  ·rename_i e;subst e;simp only[Option.some.injEq]at h;subst h;simp[exL_nil]
  ·simp at h
 | x::l,n,r,h=>by
  unfold ctake at h
  simp only[cond_eq_ite,Nat.beq_eq]at h
  split at h
  ·rename_i e;subst e;simp only[Option.some.injEq]at h;subst h;simp[exL_nil]
  ·rename_i hn
   by_cases hp:isPk x=true
   ·cases x<;>first | (simp[isPk]at hp;done) | skip
    rename_i m b
    simp only[cond_eq_ite,Nat.ble_eq]at h
    rw[exL_pk]
    split at h
    ·rename_i hm
     split at h
     ·rename_i r' hr
      simp only[Option.some.injEq]at h;subst h
      obtain⟨h1,h2⟩:=ctake_eq l _ _ hr
      rw[exL_pk,h1]
      refine⟨?_,by rw[List.length_append,bytesOf_len];omega⟩
      rw[List.take_append,bytesOf_len,bytes_take_all b hm]
     ·simp at h
    ·rename_i hm
     rw[fN_eq]at h
     simp only[Option.some.injEq]at h;subst h
     rw[exL_pk,exL_nil,List.append_nil,pow8,bytesOf_mod _ _ _ (Nat.le_refl _)]
     refine⟨?_,by rw[List.length_append,bytesOf_len];omega⟩
     rw[List.take_append_of_le_length (by rw[bytesOf_len];omega),bytesOf_take _ _ _ (by omega)]
   ·have hp:isPk x=false:=by simpa using hp
    have h':(match ctake l (n - 1)with | some r=>some (x::r) | none=>none)=some r:=by
     cases x<;>first | (simp[isPk]at hp;done) | exact h
    split at h'
    ·rename_i r' hr
     simp only[Option.some.injEq]at h';subst h'
     obtain⟨h1,h2⟩:=ctake_eq l _ _ hr
     rw[exL_one hp,exL_one hp,h1]
     obtain⟨k,rfl⟩:=Nat.exists_eq_succ_of_ne_zero hn
     refine⟨by rw[List.take_succ_cons];rfl, ?_⟩
     rw[List.length_cons];simp only[Nat.succ_eq_add_one,Nat.add_sub_cancel]at h2;omega
    ·simp at h'
theorem csub_eq: ∀(l:List AV) (o n:Nat) (r:List AV),csub l o n=some r→exL r=((exL l).drop o).take n∧(n=0∨o+n≤(exL l).length)
 | [],o,n,r,h=>by
  simp only[csub,cond_eq_ite,Nat.beq_eq]at h
  split at h
  ·rename_i e;subst e;simp only[Option.some.injEq]at h;subst h;simp[exL_nil]
  ·simp at h
 | x::l,o,n,r,h=>by
  by_cases hp:isPk x=true
  ·cases x<;>first | (simp[isPk]at hp;done) | skip
   rename_i m b
   simp only[csub,cond_eq_ite,Nat.ble_eq]at h
   rw[exL_pk]
   split at h
   ·rename_i hm
    obtain⟨h1,h2⟩:=csub_eq l _ _ _ h
    rw[h1,List.drop_append,bytesOf_len,bytes_drop_all b hm,List.nil_append,List.length_append,bytesOf_len]
    exact⟨rfl,by omega⟩
   ·rename_i hm
    rw[fN_eq,fN_eq]at h
    obtain⟨h1,h2⟩:=ctake_eq _ _ _ h
    rw[exL_pk,pow8]at h1
    rw[exL_pk,List.length_append,bytesOf_len]at h2
    rw[h1,List.drop_append_of_le_length (by rw[bytesOf_len];omega),bytesOf_drop _ _ _ (by omega),List.length_append,bytesOf_len]
    exact⟨rfl,by omega⟩
  ·have hp:isPk x=false:=by simpa using hp
   cases o with
   | zero=>
    rw[csub_zero hp]at h
    obtain⟨h1,h2⟩:=ctake_eq _ _ _ h
    rw[h1,List.drop_zero];exact⟨rfl,by omega⟩
   | succ o=>
    rw[csub_succ hp]at h
    obtain⟨h1,h2⟩:=csub_eq l o n r h
    rw[exL_one hp,List.drop_succ_cons,List.length_cons,h1];exact⟨rfl,by omega⟩
theorem byteA_eq {x:AV}{y:Nat}(h:byteA x=some y):x= .int .u8 (.ofNat y)∧y<256:=by
 unfold byteA at h
 split at h
 ·rw[cond_eq_ite]at h
  split at h
  ·rename_i hc;rw[Nat.blt_eq]at hc
   simp only[Option.some.injEq]at h;subst h;exact⟨rfl,hc⟩
  ·simp at h
 ·simp at h
theorem bytesOf_one {y:Nat}(h:y<256):bytesOf 1 y=[.int .u8 (.ofNat y)]:=by
 rw[bytesOf_succ,bytesOf_zero,Nat.mod_eq_of_lt h]
theorem ctext_eq: ∀(l:List AV) (n b:Nat),ctext l=some (n,b)→exL l=bytesOf n b∧b<256 ^ n
 | [],n,b,h=>by simp only[ctext,Option.some.injEq,Prod.mk.injEq]at h;obtain⟨rfl,rfl⟩:=h;simp[exL_nil,bytesOf_zero]
 | x::l,n,b,h=>by
  unfold ctext at h
  split at h
  ·rename_i n0 b0
   split at h
   ·rename_i m c hc
    simp only[fN_eq,pow8,Option.some.injEq,Prod.mk.injEq]at h
    obtain⟨rfl,rfl⟩:=h
    obtain⟨h1,h2⟩:=ctext_eq l m c hc
    rw[exL_pk,h1,bytesOf_cat]
    refine⟨rfl, ?_⟩
    have hp:0<256 ^ n0:=Nat.pow_pos (by decide)
    have h3:b0 % 256 ^ n0<256 ^ n0:=Nat.mod_lt _ hp
    calc b0 % 256 ^ n0+c*256 ^ n0<256 ^ n0+c*256 ^ n0:=by omega
     _=(c+1)*256 ^ n0:=by rw[Nat.add_mul];omega
     _≤256 ^ m*256 ^ n0:=Nat.mul_le_mul_right _ h2
     _=256 ^ (n0+m):=by rw[Nat.pow_add,Nat.mul_comm]
   ·simp at h
  ·rename_i y
   rw[cond_eq_ite]at h
   split at h
   ·rename_i hy
    rw[Nat.blt_eq]at hy
    split at h
    ·rename_i m c hc
     simp only[fN_eq,Option.some.injEq,Prod.mk.injEq]at h
     obtain⟨rfl,rfl⟩:=h
     obtain⟨h1,h2⟩:=ctext_eq l m c hc
     rw[exL_one rfl,h1,bytesOf_succ]
     have e1:(y+256*c) % 256=y:=by omega
     have e2:(y+256*c) / 256=c:=by omega
     rw[e1,e2,Nat.pow_succ]
     exact⟨by simp[ex],by omega⟩
    ·simp at h
   ·simp at h
  ·simp at h
theorem ccover_eq: ∀(l new r:List AV),ccover l new=some r→exL r=exL new++(exL l).drop (exL new).length∧(exL new).length≤(exL l).length
 | l,[],r,h=>by
  have:ccover l []=some l:=by cases l<;>rfl
  rw[this]at h;simp only[Option.some.injEq]at h;subst h;simp[exL_nil]
 | [],y::ys,r,h=>by simp[ccover]at h
 | x::l,y::ys,r,h=>by
  unfold ccover at h
  split at h
  ·rename_i m b
   split at h
   ·rename_i k c
    simp only[cond_eq_ite,Nat.beq_eq]at h
    split at h
    ·rename_i e;subst e
     split at h
     ·rename_i r' hr
      simp only[Option.some.injEq]at h;subst h
      obtain⟨h1,h2⟩:=ccover_eq l ys r' hr
      rw[exL_pk,exL_pk,exL_pk,h1]
      simp only[List.length_append,bytesOf_len,List.append_assoc]
      refine⟨?_,by omega⟩
      rw[List.drop_append,bytesOf_len,bytes_drop_all b (Nat.le_add_right m _),List.nil_append,Nat.add_sub_cancel_left]
     ·simp at h
    ·simp at h
   ·simp at h
  ·rename_i hx
   have hpx:isPk x=false:=by cases x<;>first | rfl | exact absurd rfl (hx _ _)
   split at h
   ·simp at h
   ·rename_i hy
    have hpy:isPk y=false:=by cases y<;>first | rfl | exact absurd rfl (hy _ _)
    split at h
    ·rename_i r' hr
     simp only[Option.some.injEq]at h;subst h
     obtain⟨h1,h2⟩:=ccover_eq l ys r' hr
     rw[exL_one hpy,exL_one hpy,exL_one hpx,h1]
     simp only[List.length_cons,List.drop_succ_cons,List.cons_append]
     exact⟨trivial,by omega⟩
    ·simp at h
theorem cput_eq (m b o k c:Nat)(h:o+k≤m)(hc:c<256 ^ k):bytesOf m (cput m b o k c)=(bytesOf m b).take o++bytesOf k c++(bytesOf m b).drop (o+k):=by
 obtain⟨q,rfl⟩:=Nat.exists_eq_add_of_le h
 have e:c=c % 256 ^ k:=(Nat.mod_eq_of_lt hc).symm
 rw[bytesOf_take _ _ _ (by omega),bytesOf_drop _ _ _ (by omega)]
 unfold cput
 rw[pow8,pow8,pow8,show o+k+q=o+(k+q)from by omega,bytesOf_cat,List.append_assoc]
 congr 1
 rw[e,bytesOf_cat, ← e,show o+(k+q) - (o+k)=q from by omega]
theorem cset0_eq: ∀(l:List AV) (o:Nat) (new r:List AV),cset0 l o new=some r→exL r=(exL l).take o++exL new++(exL l).drop (o+(exL new).length)∧o+(exL new).length≤(exL l).length
 | [],o,new,r,h=>by
  unfold cset0 at h
  split at h
  ·simp only[cond_eq_ite,Nat.beq_eq]at h
   split at h
   ·rename_i e;subst e;simp only[Option.some.injEq]at h;subst h;simp[exL_nil]
   ·simp at h
  ·simp at h
 | x::l,o,new,r,h=>by
  by_cases hp:isPk x=true
  ·cases x<;>first | (simp[isPk]at hp;done) | skip
   rename_i m b
   simp only[cset0,cond_eq_ite,Nat.ble_eq]at h
   split at h
   ·rename_i hm
    split at h
    ·rename_i r' hr
     simp only[Option.some.injEq]at h;subst h
     obtain⟨h1,h2⟩:=cset0_eq l _ _ _ hr
     rw[exL_pk,exL_pk,h1]
     simp only[List.length_append,bytesOf_len]
     refine⟨?_,by omega⟩
     rw[List.take_append,List.drop_append,bytesOf_len,bytes_take_all b hm,bytes_drop_all b (Nat.le_trans hm (Nat.le_add_right o _)),
      show o+(exL new).length - m=o - m+(exL new).length from by omega]
     simp only[List.append_assoc,List.nil_append]
    ·simp at h
   ·rename_i hm
    split at h
    ·rename_i k c hc
     obtain⟨h1,h2⟩:=ctext_eq _ _ _ hc
     split at h
     ·rename_i hk
      rw[fN_eq]at h
      simp only[Option.some.injEq]at h;subst h
      rw[exL_pk,exL_pk,cput_eq _ _ _ _ _ hk h2,h1,bytesOf_len]
      simp only[List.length_append,bytesOf_len]
      refine⟨?_,by omega⟩
      rw[List.take_append_of_le_length (by rw[bytesOf_len];omega),List.drop_append_of_le_length (by rw[bytesOf_len];exact hk)]
      simp only[List.append_assoc]
     ·simp at h
    ·split at h
     ·rename_i e
      rw[Nat.beq_eq]at e;subst e
      obtain⟨h1,h2⟩:=ccover_eq _ _ _ h
      rw[h1];simp only[List.take_zero,List.nil_append,Nat.zero_add];exact⟨trivial,h2⟩
     ·simp at h
  ·have hp:isPk x=false:=by simpa using hp
   cases o with
   | zero=>
    rw[cset0_zero hp]at h
    obtain⟨h1,h2⟩:=ccover_eq _ _ _ h
    rw[h1];simp only[List.take_zero,List.nil_append,Nat.zero_add];exact⟨trivial,h2⟩
   | succ o=>
    rw[cset0_succ hp]at h
    split at h
    ·rename_i r' hr
     simp only[Option.some.injEq]at h;subst h
     obtain⟨h1,h2⟩:=cset0_eq l _ _ _ hr
     rw[exL_one hp,exL_one hp,h1,show o+1+(exL new).length=(o+(exL new).length)+1 from by omega]
     simp only[List.take_succ_cons,List.drop_succ_cons,List.length_cons,List.cons_append]
     exact⟨trivial,by omega⟩
    ·simp at h
theorem cmrg_eq {x:AV}{new r:List AV}(h:cmrg x new=some r):exL r=exL [x]++exL new:=by
 unfold cmrg at h
 split at h
 ·simp only[Option.some.injEq]at h;subst h;simp[exL_nil]
 ·rename_i z r0
  split at h
  ·rename_i n b
   split at h
   ·rename_i m c
    simp only[fN_eq,pow8,Option.some.injEq]at h;subst h
    rw[exL_pk,exL_pk,exL_pk,exL_nil,bytesOf_cat];simp
   ·split at h
    ·rename_i y hy
     obtain⟨rfl,hyb⟩:=byteA_eq hy
     simp only[fN_eq,pow8,Option.some.injEq]at h;subst h
     rw[exL_pk,exL_pk,exL_nil,exL_one rfl,Nat.succ_eq_add_one,bytesOf_cat,bytesOf_one hyb];simp[ex]
    ·simp only[Option.some.injEq]at h;subst h
     rw[exL_cons]
  ·rename_i hx
   split at h
   ·rename_i y0 hy0
    obtain⟨rfl,hy0⟩:=byteA_eq hy0
    split at h
    ·rename_i m c
     simp only[fN_eq,Option.some.injEq]at h;subst h
     rw[exL_pk,exL_pk,exL_one rfl,exL_nil,Nat.succ_eq_add_one,bytesOf_succ]
     have e1:(y0+256*c) % 256=y0:=by omega
     have e2:(y0+256*c) / 256=c:=by omega
     rw[e1,e2];simp[ex]
    ·split at h
     ·rename_i y hy
      obtain⟨rfl,hyb⟩:=byteA_eq hy
      simp only[fN_eq,Option.some.injEq]at h;subst h
      rw[exL_pk,exL_one rfl,exL_one rfl,exL_nil,bytesOf_succ]
      have e1:(y0+256*y) % 256=y0:=by omega
      have e2:(y0+256*y) / 256=y:=by omega
      rw[e1,e2,bytesOf_one hyb];simp[ex]
     ·simp only[Option.some.injEq]at h;subst h
      rw[exL_cons]
   ·simp only[Option.some.injEq]at h;subst h
    rw[exL_cons]
theorem capp_eq: ∀(l new r:List AV),capp l new=some r→exL r=exL l++exL new
 | [],new,r,h=>by simp only[capp,Option.some.injEq]at h;subst h;simp[exL_nil]
 | [x],new,r,h=>cmrg_eq h
 | x::y::l,new,r,h=>by
  have h':(match capp (y::l) new with | some r=>some (x::r) | none=>none)=some r:=h
  split at h'
  ·rename_i r' hr
   simp only[Option.some.injEq]at h';subst h'
   rw[exL_cons,capp_eq _ _ _ hr,exL_cons x (y::l),List.append_assoc]
  ·simp at h'
theorem exL_rep (z:List AV): ∀n,exL (rep n z)=rep n (exL z)
 | 0=>by simp[rep,exL_nil]
 | n+1=>by simp only[rep,exL_append,exL_rep z n]
theorem rep_zero: ∀n,rep n [.int .u8 (.ofNat 0)]=bytesOf n 0
 | 0=>rfl
 | n+1=>by rw[bytesOf_succ];simp only[rep,List.singleton_append,rep_zero n]
theorem crep_eq (n:Nat)(z:List AV):exL (crep n z)=rep n (exL z):=by
 unfold crep
 split
 ·rw[exL_pk,exL_nil,List.append_nil,exL_one rfl,exL_nil]
  simp only[ex];rw[rep_zero]
 ·exact exL_rep z n
theorem exL_bytes: ∀n b,exL (bytesOf n b)=bytesOf n b
 | 0,_=>by simp[bytesOf_zero,exL_nil]
 | n+1,b=>by rw[bytesOf_succ,exL_one rfl,exL_bytes n];simp[ex]
theorem bytes_nopk: ∀(n b:Nat) (x:AV),x∈bytesOf n b→isPk x=false
 | 0,_,_,h=>by simp[bytesOf_zero]at h
 | n+1,b,x,h=>by
  rw[bytesOf_succ]at h
  rcases List.mem_cons.1 h with rfl | h
  ·rfl
  ·exact bytes_nopk n _ x h
theorem isPk_ex (x:AV):isPk (ex x)=false:=by cases x<;>simp[ex,isPk]
theorem exL_nopk: ∀(l:List AV) (x:AV),x∈exL l→isPk x=false
 | [],x,h=>by simp[exL_nil]at h
 | y::l,x,h=>by
  by_cases hp:isPk y=true
  ·cases y<;>first | (simp[isPk]at hp;done) | skip
   rw[exL_pk]at h
   rcases List.mem_append.1 h with h | h
   ·exact bytes_nopk _ _ x h
   ·exact exL_nopk l x h
  ·have hp:isPk y=false:=by simpa using hp
   rw[exL_one hp]at h
   rcases List.mem_cons.1 h with rfl | h
   ·exact isPk_ex y
   ·exact exL_nopk l x h
mutual
theorem ex_ex: ∀(x:AV),ex (ex x)=ex x
 | .agg l=>by simp only[ex,exL_exL l]
 | .tuple l=>by simp only[ex,exM_exM l]
 | .func f a b=>by simp only[ex,exM_exM a,exM_exM b]
 | .iface t v=>by simp only[ex,ex_ex v]
 | .pan v=>by simp only[ex,ex_ex v]
 | .pk n b=>by simp only[ex,exL_bytes]
 | .bool _ | .int _ _ | .str _ _ | .nilPtr | .ptr _ _ | .nilSlice | .slice _ _ _ _ | .emptySl | .nilMap | .map _ | .yieldTo _ | .nilFunc | .nilIface=>by simp only[ex]
theorem exL_exL: ∀(l:List AV),exL (exL l)=exL l
 | []=>by simp only[exL_nil]
 | x::l=>by
  by_cases hp:isPk x=true
  ·cases x<;>first | (simp[isPk]at hp;done) | skip
   rw[exL_pk,exL_append,exL_bytes,exL_exL l]
  ·have hp:isPk x=false:=by simpa using hp
   rw[exL_one hp,exL_one (isPk_ex x),ex_ex x,exL_exL l]
theorem exM_exM: ∀(l:List AV),exM (exM l)=exM l
 | []=>by simp only[exM]
 | x::l=>by simp only[exM,ex_ex x,exM_exM l]
end
theorem cset_eq {l:List AV}{o:Nat}{new r:List AV}(h:cset l o new=some r):exL r=(exL l).take o++exL new++(exL l).drop (o+(exL new).length)∧o+(exL new).length≤(exL l).length:=by
 unfold cset at h
 split at h
 ·rename_i r' hr
  simp only[Option.some.injEq]at h;subst h
  exact cset0_eq _ _ _ _ hr
 ·obtain⟨rfl,h2⟩:=setAt_eq _ _ _ _ h
  refine⟨?_,h2⟩
  rw[exL_append,exL_append,exL_exL]
  have key: ∀(l:List AV),exL l=l→ ∀k,exL (l.take k)=l.take k∧exL (l.drop k)=l.drop k:=by
   intro l
   induction l with
   | nil=>intro _ k;simp[exL_nil]
   | cons x l ih=>
    intro hx k
    have hp:isPk x=false:=exL_nopk (x::l) x (by rw[hx];simp)
    rw[exL_one hp]at hx
    simp only[List.cons.injEq]at hx
    cases k with
    | zero=>simp[exL_nil,exL_one hp,hx.1,hx.2]
    | succ k=>
     obtain⟨i1,i2⟩:=ih hx.2 k
     simp only[List.take_succ_cons,List.drop_succ_cons]
     exact⟨by rw[exL_one hp,hx.1,i1],i2⟩
  rw[(key _ (exL_exL l) o).1,(key _ (exL_exL l) _).2]
theorem isCell_ex {x:AV}(h:isCell x=true)(hp:isPk x=false):isCell (ex x)=true:=by
 cases x<;>simp_all [isCell,ex,isPk]
theorem allCells_bytes: ∀n b,allCells (bytesOf n b)=true
 | 0,_=>rfl
 | n+1,b=>by rw[bytesOf_succ];simp only[allCells,isCell,allCells_bytes n,Bool.and_self]
theorem allCells_app: ∀(a b:List AV),allCells (a++b)=(allCells a&&allCells b)
 | [],b=>by simp[allCells]
 | x::a,b=>by simp only[List.cons_append,allCells,allCells_app a b,Bool.and_assoc]
theorem allCells_ex: ∀ {l:List AV},allCells l=true→allCells (exL l)=true
 | [],_=>by simp[exL_nil,allCells]
 | x::l,h=>by
  simp only[allCells,Bool.and_eq_true]at h
  by_cases hp:isPk x=true
  ·cases x<;>first | (simp[isPk]at hp;done) | skip
   rw[exL_pk,allCells_app,allCells_bytes,allCells_ex h.2];rfl
  ·have hp:isPk x=false:=by simpa using hp
   rw[exL_one hp]
   simp only[allCells,isCell_ex h.1 hp,allCells_ex h.2,Bool.and_self]
theorem cellsA_ex (x:AV):cellsA (ex x)=exL (cellsA x):=by
 cases x<;>simp[ex,cellsA,exL]
theorem pkR_eq: ∀(l:List AV),exL (pkR l)=exL l
 | []=>rfl
 | x::l=>by
  unfold pkR
  split
  ·rename_i y hy
   obtain⟨rfl,hyb⟩:=byteA_eq hy
   have ih:=pkR_eq l
   split
   ·rename_i n b r hr
    rw[hr,exL_pk]at ih
    rw[exL_pk,exL_one rfl, ← ih,Nat.succ_eq_add_one,bytesOf_succ]
    have e1:(y+256*b) % 256=y:=by omega
    have e2:(y+256*b) / 256=b:=by omega
    rw[e1,e2];simp[ex]
   ·rw[exL_pk,exL_one rfl,ih,bytesOf_one hyb];simp[ex]
  ·rw[exL_cons,exL_cons x l,pkR_eq l]
theorem pkS_eq: ∀(l:List AV),exL (pkS l)=exL l
 | []=>rfl
 | x::l=>by
  unfold pkS
  split
  ·rename_i n b
   rw[cond_eq_ite]
   split
   ·rw[fN_eq,fN_eq,exL_pk,exL_pk,pkS_eq l]
   ·rw[exL_append,exL_bytes,exL_pk,pkS_eq l]
  ·rw[exL_cons,exL_cons x l,pkS_eq l]
theorem ex_pkV (x:AV):ex (pkV x)=ex x:=by
 unfold pkV
 split
 ·simp only[ex,pkS_eq,pkR_eq]
 ·rfl
mutual
theorem ofV_pl: ∀(v:Value) (x:AV),ofV v=some x→ex x=x∧isPk x=false
 | .bool _,x,h=>by simp only[ofV,Option.some.injEq]at h;subst h;simp[ex,isPk]
 | .int _ _,x,h=>by simp only[ofV,Option.some.injEq]at h;subst h;simp[ex,isPk]
 | .string _,x,h=>by simp only[ofV,Option.some.injEq]at h;subst h;simp[ex,isPk]
 | .pointer a,x,h=>by cases a<;>simp only[ofV,Option.some.injEq,reduceCtorEq]at h;subst h;simp[ex,isPk]
 | .slice a n c,x,h=>by
  have:x= .nilSlice:=by
   unfold ofV at h
   split at h<;>simp_all
  subst this;simp[ex,isPk]
 | .map a,x,h=>by cases a<;>simp only[ofV,Option.some.injEq,reduceCtorEq]at h;subst h;simp[ex,isPk]
 | .nilFunc,x,h=>by simp only[ofV,Option.some.injEq]at h;subst h;simp[ex,isPk]
 | .nilIface,x,h=>by simp only[ofV,Option.some.injEq]at h;subst h;simp[ex,isPk]
 | .agg a,x,h=>by
  simp only[ofV]at h
  split at h
  ·rename_i l hl
   simp only[Option.some.injEq]at h;subst h
   simp only[ex,isPk,(ofVA_pl a l hl).1];simp
  ·simp at h
 | .tuple a,x,h=>by
  simp only[ofV]at h
  split at h
  ·rename_i l hl
   simp only[Option.some.injEq]at h;subst h
   simp only[ex,isPk,(ofVA_pl a l hl).2];simp
  ·simp at h
 | .float _ _,x,h=>by simp[ofV]at h
 | .complex _ _ _,x,h=>by simp[ofV]at h
 | .chan _,x,h=>by simp[ofV]at h
 | .func _ _ _,x,h=>by simp[ofV]at h
 | .iface _ _,x,h=>by simp[ofV]at h
theorem ofVA_pl: ∀(a:Array Value) (l:List AV),ofVA a=some l→exL l=l∧exM l=l
 | ⟨m⟩,l,h=>ofVL_pl m l h
theorem ofVL_pl: ∀(m:List Value) (l:List AV),ofVL m=some l→exL l=l∧exM l=l
 | [],l,h=>by simp only[ofVL,Option.some.injEq]at h;subst h;simp[exL,exM]
 | v::m,l,h=>by
  simp only[ofVL]at h
  split at h
  ·rename_i x xs hx hxs
   simp only[Option.some.injEq]at h;subst h
   obtain⟨h1,h2⟩:=ofV_pl v x hx
   obtain⟨h3,h4⟩:=ofVL_pl m xs hxs
   refine⟨by rw[exL_one h2,h1,h3],by simp only[exM,h1,h4]⟩
  ·simp at h
end
theorem mV_eq {v:Value}{x:AV}(h:mV (ofV v)=some x):ofV v=some (ex x):=by
 unfold mV at h
 split at h
 ·rename_i y hy
  simp only[Option.some.injEq]at h;subst h
  rw[hy,ex_pkV,(ofV_pl v y hy).1]
 ·simp at h
theorem zeroP_eq {X:Cx}{t:TypeId}{x:AV}(h:zeroP X t=some x):zeroA X t=some (ex x):=by
 unfold zeroP at h
 unfold zeroA at h⊢
 split at h
 ·split at h
  ·exact mV_eq h
  ·simp[mV]at h
 ·simp[mV]at h
end Go.Eng
end
section
namespace Go.Eng
def exE (es:List (AV×AV)):List (AV×AV):=es.map fun x=>(x.1,ex x.2)
def exO:AObj→AObj
 | .cells l e sz g=> .cells (exL l) e sz g
 | .map ks es=> .map ks (exE es)
 | .loop l=> .loop { l with vals:=exM l.vals}
 | .raw x=> .raw x
 | .dead=> .dead
def okO:AObj→Prop
 | .map ks es=> ∀e∈es,keyOk ks e.1=true
 | _=>True
structure HR (H Hx:AH):Prop where
 next:Hx.next=H.next
 get: ∀A,Hx.h.get A=(H.h.get A).map exO
 ok: ∀A o,H.h.get A=some o→okO o
theorem HR.at {H Hx:AH}(h:HR H Hx){A:Nat}{o:AObj}(hA:H.h.get A=some o):Hx.h.get A=some (exO o):=by rw[h.get,hA];rfl
theorem HR.out {H Hx:AH}(h:HR H Hx){A:Nat}(hA:H.h.get A=none):Hx.h.get A=none:=by rw[h.get,hA];rfl
theorem HR.set {H Hx:AH}(h:HR H Hx){A:Nat}{o:AObj}{t:T AObj}(ho:okO o)(hs:T.set 40 H.h A o=some t)(m:Nat): ∃tx,T.set 40 Hx.h A (exO o)=some tx∧HR ⟨t,m⟩ ⟨tx,m⟩:=by
 obtain⟨tx,htx⟩:=Option.isSome_iff_exists.1 (T.set_some 40 Hx.h A (exO o))
 refine⟨tx,htx,rfl,fun B=> ?_,fun B o' hB=> ?_⟩
 ·simp only[T.get_set _ _ _ _ _ htx,T.get_set _ _ _ _ _ hs]
  split
  ·rfl
  ·exact h.get B
 ·simp only[T.get_set _ _ _ _ _ hs]at hB
  split at hB
  ·simp only[Option.some.injEq]at hB;subst hB;exact ho
  ·exact h.ok B o' hB
theorem HR.put {H H' Hx:AH}(h:HR H Hx){A:Nat}{o:AObj}(ho:okO o)(hp:putA H A o=some H'): ∃Hx',putA Hx A (exO o)=some Hx'∧HR H' Hx':=by
 unfold putA at hp
 split at hp
 ·rename_i t ht
  simp only[Option.some.injEq]at hp;subst hp
  obtain⟨tx,h1,h2⟩:=h.set ho ht H.next
  refine⟨⟨tx,H.next⟩, ?_,h2⟩
  simp only[putA,h1,h.next]
 ·simp at hp
def SV (x y:Option AV):Prop:= ∀v,x=some v→y=some (ex v)
def SR (x y:Option (AV×AH)):Prop:= ∀v H,x=some (v,H)→ ∃Hx,y=some (ex v,Hx)∧HR H Hx
def SA (x y:Option (AObj×(Nat→AV))):Prop:= ∀o mk,x=some (o,mk)→okO o∧ ∃mx,y=some (exO o,mx)∧ ∀A,mx A=ex (mk A)
theorem takeN_of: ∀ {n:Nat} {l:List AV},n≤l.length→takeN n l=some (l.take n)
 | 0,l,_=>by cases l<;>rfl
 | n+1,[],h=>by simp at h
 | n+1,x::l,h=>by
  simp only[List.length_cons]at h
  simp only[takeN,takeN_of (n:=n) (l:=l) (by omega),List.take_succ_cons]
theorem subN_of: ∀ {l:List AV} {o n:Nat},(n=0∨o+n≤l.length)→subN l o n=some ((l.drop o).take n)
 | l,0,n,h=>by
  have:subN l 0 n=takeN n l:=by cases l<;>rfl
  rw[this,List.drop_zero]
  exact takeN_of (by rcases h with rfl | h<;>omega)
 | [],o+1,n,h=>by
  have:n=0:=by simp only[List.length_nil]at h;omega
  subst this;rfl
 | x::l,o+1,n,h=>by
  simp only[List.length_cons]at h
  simp only[subN,List.drop_succ_cons]
  exact subN_of (by omega)
theorem over_of: ∀ {l new:List AV},new.length≤l.length→over l new=some (new++l.drop new.length)
 | l,[],_=>by cases l<;>rfl
 | [],y::ys,h=>by simp at h
 | x::l,y::ys,h=>by
  simp only[List.length_cons]at h
  simp only[over,over_of (l:=l) (new:=ys) (by omega),List.length_cons,List.drop_succ_cons,List.cons_append]
theorem setAt_of: ∀ {l:List AV} {o:Nat} {new:List AV},o+new.length≤l.length→setAt l o new=some (l.take o++new++l.drop (o+new.length))
 | l,0,new,h=>by
  have:setAt l 0 new=over l new:=by cases l<;>rfl
  rw[this,over_of (by omega)];simp
 | [],o+1,new,h=>by simp at h
 | x::l,o+1,new,h=>by
  simp only[List.length_cons]at h
  simp only[setAt,setAt_of (l:=l) (o:=o) (new:=new) (by omega),List.take_succ_cons,List.cons_append,
   show o+1+new.length=(o+new.length)+1 from by omega,List.drop_succ_cons]
theorem ctake_s {l r:List AV}{n:Nat}(h:ctake l n=some r):takeN n (exL l)=some (exL r):=by
 obtain⟨h1,h2⟩:=ctake_eq _ _ _ h;rw[takeN_of h2,h1]
theorem csub_s {l r:List AV}{o n:Nat}(h:csub l o n=some r):subN (exL l) o n=some (exL r):=by
 obtain⟨h1,h2⟩:=csub_eq _ _ _ _ h;rw[subN_of h2,h1]
theorem cset_s {l new r:List AV}{o:Nat}(h:cset l o new=some r):setAt (exL l) o (exL new)=some (exL r):=by
 obtain⟨h1,h2⟩:=cset_eq h;rw[setAt_of h2,h1]
theorem ctext_s {l:List AV}{n b:Nat}(h:ctext l=some (n,b)):textOf (exL l)=some (n,b):=by
 obtain⟨h1,h2⟩:=ctext_eq _ _ _ h;rw[h1,textOf_bytes _ _ h2]
theorem lenL_ex (l:List AV):lenL (exL l) 0=cwd l 0:=by rw[lenL_zero,cwd_zero]
theorem lenL_cells (x:AV):lenL (cellsA (ex x)) 0=cwd (cellsA x) 0:=by rw[cellsA_ex,lenL_ex]
section
variable {H Hx:AH}(hR:HR H Hx)
include hR
theorem ld1_s {p v:AV}(h:ld1p p H=some v):ld1 (ex p) Hx=some (ex v):=by
 unfold ld1p at h
 split at h
 ·rename_i A off
  split at h
  ·rename_i l e sz g hA
   simp only[ex,ld1,hR.at hA,exO]
   exact cnth_eq _ _ _ h
  ·simp at h
 ·simp at h
theorem ldN_s {n:Nat}{p v:AV}(h:ldNp n p H=some v):ldN n (ex p) Hx=some (ex v):=by
 unfold ldNp at h
 split at h
 ·rename_i A off
  split at h
  ·rename_i l e sz g hA
   split at h
   ·rename_i c hc
    simp only[Option.some.injEq]at h;subst h
    simp only[ex,ldN,hR.at hA,exO,csub_s hc]
   ·simp at h
  ·simp at h
 ·simp at h
theorem tLoad_s {X:Cx}{t:TypeId}{p v:AV}(h:tLoadp X t p H=some v):tLoad X t (ex p) Hx=some (ex v):=by
 unfold tLoadp at h
 unfold tLoad
 split at h
 ·rename_i d hd
  simp only[hd]
  cases hb:isAggD d with
  | true=>
   rw[hb]at h
   simp only[cond_true]at h⊢
   split at h
   ·rename_i n hn;simp only[hn];exact ldN_s hR h
   ·simp at h
  | false=>
   rw[hb]at h
   simp only[cond_false]at h⊢
   exact ld1_s hR h
 ·simp at h
theorem stN_s {n:Nat}{p x:AV} :SR (stNp n p x H) (stN n (ex p) (ex x) Hx):=by
 intro v H' h
 unfold stNp at h
 split at h
 ·rename_i A off
  split at h
  ·rename_i l e sz g hA
   rw[cond_eq_ite]at h
   split at h
   ·rename_i hc
    simp only[Bool.and_eq_true]at hc
    split at h
    ·rename_i l' hl
     split at h
     ·rename_i H1 hp
      simp only[Option.some.injEq,Prod.mk.injEq]at h
      obtain⟨rfl,rfl⟩:=h
      obtain⟨Hx',h1,h2⟩:=hR.put (o:= .cells l' e sz g) trivial hp
      refine⟨Hx', ?_,h2⟩
      simp only[exO]at h1
      have e1:(lenL (cellsA (ex x)) 0).beq n=true:=by rw[lenL_cells];exact hc.1
      have e2:allCells (cellsA (ex x))=true:=by rw[cellsA_ex];exact allCells_ex hc.2
      have e3:setAt (exL l) off (cellsA (ex x))=some (exL l'):=by rw[cellsA_ex];exact cset_s hl
      have e4:ex (AV.ptr A off)= .ptr A off:=by simp[ex]
      have e5:ex undefA=undefA:=by simp[undefA,ex,exM]
      rw[e4,e5]
      simp only[stN,hR.at hA,exO,e1,e2,Bool.and_self,cond_true,e3,h1]
     ·simp at h
    ·simp at h
   ·simp at h
  ·simp at h
 ·simp at h
theorem cvBS_s {x v:AV}(h:cvBSp x H=some v):cvBS (ex x) Hx=some (ex v):=by
 unfold cvBSp at h
 split at h
 ·simp only[Option.some.injEq]at h;subst h;simp only[ex,cvBS]
 ·rename_i A off len cc
  split at h
  ·rename_i l e sz g hA
   split at h
   ·rename_i c hc
    split at h
    ·rename_i n b ht
     simp only[ex,cvBS,hR.at hA,exO,csub_s hc,ctext_s ht]
     rw[mkS_eq]at h⊢
     simp only[Option.some.injEq]at h;subst h;simp[ex]
    ·simp at h
   ·simp at h
  ·simp at h
 ·simp at h
end
theorem croom_s (l:List AV)(g:Bool)(sz' off cc sz:Nat):roomOf (exL l) g sz' off cc sz=croom l g sz' off cc sz:=by
 unfold roomOf croom;rw[lenL_ex]
theorem natOf_ex (x:AV):natOf (ex x)=natOf x:=by cases x<;>simp[ex,natOf]
theorem natOpt_ex (x:Option AV):natOpt (x.map ex)=natOpt x:=by
 cases x with
 | none=>rfl
 | some x=>simp only[Option.map_some,natOpt,natOf_ex]
def simpleV:AV→Bool
 | .agg _ | .tuple _ | .func _ _ _ | .iface _ _ | .pk _ _ | .pan _=>false
 | _=>true
theorem ex_simple {x:AV}(h:simpleV x=true):ex x=x:=by cases x<;>simp_all [simpleV,ex]
theorem simple_ex {x:AV}(h:simpleV (ex x)=true):ex x=x:=by cases x<;>simp_all [simpleV,ex]
theorem acut_simple {A off len cc sz room:Nat}{lo hi mx:Option Nat}{v:AV}(h:acut A off len cc sz room lo hi mx=some v):ex v=v:=by
 unfold acut at h
 simp only[fN_eq,cond_eq_ite]at h
 repeat' split at h
 all_goals first | (simp at h;done) | (simp only[Option.some.injEq]at h;subst h;simp[ex])
theorem acutS_simple {len bits:Nat}{lo hi:Option Nat}{v:AV}(h:acutS len bits lo hi=some v):ex v=v:=by
 unfold acutS at h
 simp only[mkS_eq,cond_eq_ite]at h
 split at h
 ·simp only[Option.some.injEq]at h;subst h;simp[ex]
 ·simp at h
theorem slStr_s {x:AV}{lo hi:Option AV}{v:AV}(h:slStr x lo hi=some v):slStr (ex x) (lo.map ex) (hi.map ex)=some (ex v):=by
 unfold slStr at h⊢
 rw[natOpt_ex,natOpt_ex]
 split at h
 ·rename_i l hh e1 e2
  try simp only[e1,e2]
  split at h
  ·simp only[ex];rw[h,acutS_simple h]
  ·simp at h
 ·simp at h
theorem slArr_s {n sz:Nat}{x:AV}{lo hi mx:Option AV}{v:AV}(h:slArr n sz x lo hi mx=some v):slArr n sz (ex x) (lo.map ex) (hi.map ex) (mx.map ex)=some (ex v):=by
 unfold slArr at h⊢
 rw[natOpt_ex,natOpt_ex,natOpt_ex]
 split at h
 ·rename_i l hh m e1 e2 e3
  try simp only[e1,e2,e3]
  split at h
  ·simp only[ex]
   rw[cond_eq_ite]at h⊢
   split at h
   ·rename_i hc;simp only[hc,if_true];rw[h,acut_simple h]
   ·simp at h
  ·simp at h
 ·simp at h
theorem slSl_s {H Hx:AH}(hR:HR H Hx){sz:Nat}{x:AV}{lo hi mx:Option AV}{v:AV}(h:slSlp sz x lo hi mx H=some v):slSl sz (ex x) (lo.map ex) (hi.map ex) (mx.map ex) Hx=some (ex v):=by
 unfold slSlp at h
 unfold slSl
 rw[natOpt_ex,natOpt_ex,natOpt_ex]
 split at h
 ·rename_i l hh m e1 e2 e3
  simp only[e1,e2,e3]
  split at h
  ·simp only[ex]
   rw[cond_eq_ite]at h⊢
   split at h
   ·rename_i hc;simp only[hc,if_true];simp only[Option.some.injEq]at h;subst h;simp[ex]
   ·simp at h
  ·rename_i A off len cc
   split at h
   ·rename_i ll e sz' g hA
    simp only[ex,hR.at hA,exO]
    rw[cond_eq_ite]at h⊢
    split at h
    ·rename_i hc;simp only[hc,if_true]
     rw[croom_s,h,acut_simple h]
    ·simp at h
   ·simp at h
  ·split at h
   ·simp only[ex]
    rw[cond_eq_ite]at h⊢
    split at h
    ·rename_i hc;simp only[hc,if_true];simp only[Option.some.injEq]at h;subst h;simp[ex]
    ·simp at h
   ·simp only[ex]
    rw[cond_eq_ite]at h⊢
    split at h
    ·rename_i hc;simp only[hc,if_true];simp only[Option.some.injEq]at h;subst h;simp[ex]
    ·simp at h
  ·simp at h
 ·simp at h
theorem tSlice_s {H Hx:AH}(hR:HR H Hx){X:Cx}{t:TypeId}{x:AV}{lo hi mx:Option AV}{v:AV}(h:tSlicep X t x lo hi mx H=some v):tSlice X t (ex x) (lo.map ex) (hi.map ex) (mx.map ex) Hx=some (ex v):=by
 unfold tSlicep at h
 unfold tSlice
 split at h
 ·rename_i hd
  simp only[hd]
  split at h
  ·simp only[Option.map_none];exact slStr_s h
  ·simp at h
 ·rename_i e hd
  simp only[hd]
  split at h
  ·rename_i sz hs;simp only[hs];exact slSl_s hR h
  ·simp at h
 ·rename_i n e hd
  simp only[hd]
  split at h
  ·rename_i sz hs;simp only[hs];exact slArr_s h
  ·simp at h
 ·rename_i arr hd
  simp only[hd]
  split at h
  ·rename_i n e hd2
   simp only[hd2]
   split at h
   ·rename_i sz hs;simp only[hs];exact slArr_s h
   ·simp at h
  ·simp at h
 ·simp at h
theorem ixAg1_s {n sz:Nat}{x ix v:AV}(h:ixAg1p n sz x ix=some v):ixAg1 n sz (ex x) (ex ix)=some (ex v):=by
 unfold ixAg1p at h
 unfold ixAg1
 rw[natOf_ex]
 split at h
 ·rename_i i hi
  simp only[hi]
  split at h
  ·simp only[ex]
   rw[cond_eq_ite]at h⊢
   split at h
   ·rename_i hc;simp only[hc,if_true];exact cnth_eq _ _ _ h
   ·simp at h
  ·simp at h
 ·simp at h
theorem ixAgN_s {n sz:Nat}{x ix v:AV}(h:ixAgNp n sz x ix=some v):ixAgN n sz (ex x) (ex ix)=some (ex v):=by
 unfold ixAgNp at h
 unfold ixAgN
 rw[natOf_ex]
 split at h
 ·rename_i i hi
  simp only[hi]
  split at h
  ·simp only[ex]
   rw[cond_eq_ite]at h⊢
   split at h
   ·rename_i hc;simp only[hc,if_true]
    split at h
    ·rename_i c hc2
     simp only[Option.some.injEq]at h;subst h
     simp only[csub_s hc2,ex]
    ·simp at h
   ·simp at h
  ·simp at h
 ·simp at h
theorem ixStr_s {x ix v:AV}(h:ixStr x ix=some v):ixStr (ex x) (ex ix)=some (ex v):=by
 unfold ixStr at h⊢
 rw[natOf_ex]
 split at h
 ·rename_i i hi
  try simp only[hi]
  split at h
  ·simp only[ex,fN_eq]at h⊢
   rw[cond_eq_ite]at h⊢
   split at h
   ·rename_i hc;simp only[hc,if_true];simp only[Option.some.injEq]at h;subst h;simp[ex]
   ·simp at h
  ·simp at h
 ·simp at h
theorem tIndex_s {X:Cx}{t:TypeId}{x ix v:AV}(h:tIndexp X t x ix=some v):tIndex X t (ex x) (ex ix)=some (ex v):=by
 unfold tIndexp at h
 unfold tIndex
 split at h
 ·rename_i hd;simp only[hd];exact ixStr_s h
 ·rename_i n e hd
  simp only[hd]
  split at h
  ·rename_i d sz h1 h2
   simp only[h1,h2]
   cases hb:isAggD d with
   | true=>rw[hb]at h;simp only[cond_true]at h⊢;exact ixAgN_s h
   | false=>rw[hb]at h;simp only[cond_false]at h⊢;exact ixAg1_s h
  ·simp at h
 ·simp at h
theorem fd1_s {off:Nat}{x v:AV}(h:fd1p off x=some v):fd1 off (ex x)=some (ex v):=by
 unfold fd1p at h
 split at h
 ·simp only[ex,fd1];exact cnth_eq _ _ _ h
 ·simp at h
theorem fdN_s {off n:Nat}{x v:AV}(h:fdNp off n x=some v):fdN off n (ex x)=some (ex v):=by
 unfold fdNp at h
 split at h
 ·split at h
  ·rename_i c hc
   simp only[Option.some.injEq]at h;subst h
   simp only[ex,fdN,csub_s hc]
  ·simp at h
 ·simp at h
theorem tField_s {X:Cx}{t:TypeId}{x v:AV}{f:Nat}(h:tFieldp X t x f=some v):tField X t (ex x) f=some (ex v):=by
 unfold tFieldp at h
 unfold tField
 split at h
 ·rename_i fs hd
  simp only[hd]
  split at h
  ·rename_i fl hf
   simp only[hf]
   split at h
   ·rename_i d n h1 h2
    simp only[h1,h2]
    cases hb:isAggD d with
    | true=>rw[hb]at h;simp only[cond_true]at h⊢;exact fdN_s h
    | false=>rw[hb]at h;simp only[cond_false]at h⊢;exact fd1_s h
   ·simp at h
  ·simp at h
 ·simp at h
end Go.Eng
end
section
namespace Go.Eng
theorem abits_simple {op:BinOp}{k:IntKind}{a b:Int}{r:AV}(h:abits op k a b=some r):ex r=r:=by
 unfold abits abits.slow at h
 simp only[mkI_eq,fI_eq,cond_eq_ite]at h
 repeat' split at h
 all_goals first | (simp at h;done) | (simp only[Option.some.injEq]at h;subst h;simp[ex])
theorem abinI_simple {op:BinOp}{k k':IntKind}{a b:Int}{r:AV}(h:abinI op k a k' b=some r):ex r=r:=by
 unfold abinI at h
 simp only[mkI_eq,mkB_eq,fI_eq,cond_eq_ite]at h
 repeat' split at h
 all_goals first | (simp at h;done) | (simp only[Option.some.injEq]at h;subst h;simp[ex];done) | exact abits_simple h
theorem abinS_simple {op:BinOp}{l b m c:Nat}{r:AV}(h:abinS op l b m c=some r):ex r=r:=by
 unfold abinS at h
 simp only[mkS_eq,mkB_eq,cond_eq_ite]at h
 repeat' split at h
 all_goals first | (simp at h;done) | (simp only[Option.some.injEq]at h;subst h;simp[ex])
theorem bInt_s {op:BinOp}{x y r:AV}(h:bInt op x y=some r):bInt op (ex x) (ex y)=some (ex r):=by
 unfold bInt at h
 split at h
 ·split at h
  ·simp only[ex,bInt];rw[h,abinI_simple h]
  ·simp at h
 ·simp at h
theorem bStr_s {op:BinOp}{x y r:AV}(h:bStr op x y=some r):bStr op (ex x) (ex y)=some (ex r):=by
 unfold bStr at h
 split at h
 ·split at h
  ·simp only[ex,bStr];rw[h,abinS_simple h]
  ·simp at h
 ·simp at h
theorem bBool_s {op:BinOp}{x y r:AV}(h:bBool op x y=some r):bBool op (ex x) (ex y)=some (ex r):=by
 unfold bBool at h
 split at h
 ·split at h
  ·simp only[ex,bBool]
   cases op<;>simp only[mkB_eq,Option.some.injEq,reduceCtorEq]at h⊢ <;>(subst h;simp[ex])
  ·simp at h
 ·simp at h
theorem cmpO_simple {op:BinOp}{b:Option Bool}{r:AV}(h:cmpO op b=some r):ex r=r:=by
 unfold cmpO at h
 simp only[mkB_eq]at h
 repeat' split at h
 all_goals first | (simp at h;done) | (simp only[Option.some.injEq]at h;subst h;simp[ex])
theorem cmpO_s {op:BinOp}{b c:Option Bool}(hb: ∀x,b=some x→c=some x){r:AV}(h:cmpO op b=some r):cmpO op c=some (ex r):=by
 cases b with
 | none=>simp[cmpO]at h
 | some x=>rw[hb x rfl,h,cmpO_simple h]
theorem eqP_s {x y:AV}{r:Bool}(h:eqP x y=some r):eqP (ex x) (ex y)=some r:=by
 unfold eqP at h
 repeat' split at h
 all_goals first | (simp at h;done) | (simp only[ex,eqP]at h⊢;simp_all)
theorem eqS_s {x y:AV}{r:Bool}(h:eqS x y=some r):eqS (ex x) (ex y)=some r:=by
 unfold eqS at h
 repeat' split at h
 all_goals first | (simp at h;done) | (simp only[ex,eqS]at h⊢;simp_all)
theorem eqM_s {x y:AV}{r:Bool}(h:eqM x y=some r):eqM (ex x) (ex y)=some r:=by
 unfold eqM at h
 repeat' split at h
 all_goals first | (simp at h;done) | (simp only[ex,eqM]at h⊢;simp_all)
theorem eqF_s {x y:AV}{r:Bool}(h:eqF x y=some r):eqF (ex x) (ex y)=some r:=by
 unfold eqF at h
 repeat' split at h
 all_goals first | (simp at h;done) | (simp only[ex,eqF]at h⊢;simp_all)
theorem liveA_s {H Hx:AH}(hR:HR H Hx)(A:Nat):liveA A Hx=liveA A H:=by
 unfold liveA
 rw[hR.get]
 cases H.h.get A with
 | none=>rfl
 | some o=>cases o<;>rfl
theorem eqPL_s {H Hx:AH}(hR:HR H Hx){x y:AV}{r:Bool}(h:eqPL x y H=some r):eqPL (ex x) (ex y) Hx=some r:=by
 unfold eqPL at h
 simp only[cond_eq_ite]at h
 repeat' split at h
 all_goals first | (simp at h;done) | (simp only[ex,eqPL,liveA_s hR,cond_eq_ite]at h⊢;simp_all)
theorem tBinL_s {H Hx:AH}(hR:HR H Hx){X:Cx}{op:BinOp}{t:TypeId}{x y r:AV}(h:tBinL X op t x y H=some r):tBinL X op t (ex x) (ex y) Hx=some (ex r):=by
 unfold tBinL at h⊢
 split at h
 ·rename_i e hd
  try simp only[hd]
  split at h
  ·simp at h
  ·rename_i n hn
   try simp only[hn]
   exact cmpO_s (fun b hb=>eqPL_s hR hb) h
  ·simp at h
 ·simp at h
theorem qsOf_runs: ∀(l:List Nat),qsOf (runsOf l)=l
 | []=>rfl
 | q::l=>by
  have ih:=qsOf_runs l
  unfold runsOf
  split
  ·rename_i p n r hr
   rw[hr]at ih
   rw[cond_eq_ite]
   split
   ·rename_i e;rw[Nat.beq_eq]at e;subst e
    simp only[qsOf,Nat.succ_eq_add_one,List.replicate_succ,List.cons_append]at ih⊢
    rw[ih]
   ·simp only[qsOf,List.replicate_succ,List.replicate_zero,List.cons_append,List.nil_append]at ih⊢
    rw[ih]
  ·rename_i hr
   rw[hr]at ih
   simp only[qsOf]at ih
   subst ih;rfl
theorem rlen_eq: ∀(r:List (Nat×Nat)) (a:Nat),rlen r a=(qsOf r).length+a
 | [],a=>by simp[rlen,qsOf]
 | (q,n)::r,a=>by simp only[rlen,qsOf,rlen_eq r,List.length_append,List.length_replicate];omega
theorem rtake_eq: ∀(rs:List (Nat×Nat)) (n:Nat) (r:List (Nat×Nat)),rtake rs n=some r→qsOf rs=List.replicate n 7++qsOf r
 | [],n,r,h=>by
  simp only[rtake,cond_eq_ite,Nat.beq_eq]at h
  split at h
  ·rename_i e;subst e;simp only[Option.some.injEq]at h;subst h;simp[qsOf]
  ·simp at h
 | (q,k)::rs,n,r,h=>by
  simp only[rtake,cond_eq_ite,Nat.beq_eq,Nat.ble_eq]at h
  split at h
  ·rename_i e;subst e;simp only[Option.some.injEq]at h;subst h;simp
  ·split at h
   ·rename_i e;subst e
    split at h
    ·rename_i hk
     have:=rtake_eq rs _ _ h
     simp only[qsOf,this]
     rw[← List.append_assoc,List.replicate_append_replicate,Nat.add_sub_cancel' hk]
    ·rename_i hk
     rw[fN_eq]at h
     simp only[Option.some.injEq]at h;subst h
     simp only[qsOf]
     rw[← List.append_assoc,List.replicate_append_replicate,Nat.add_sub_cancel' (by omega)]
   ·simp at h
theorem cellEq_byte (a b:Nat):cellEq 7 (.int .u8 (.ofNat a)) (.int .u8 (.ofNat b))=some (decide (a=b)):=by
 have e1:Nat.beq 7 (icode .u8)=true:=rfl
 have e2:keq .u8 .u8=true:=rfl
 simp only[cellEq,e1,e2,Bool.and_self,cond_true,ieq_eq,Option.some.injEq]
 simp only[BEq.beq,decide_eq_decide,Int.ofNat_eq_natCast];omega
theorem cellsEq_bytes: ∀(n b c:Nat) (qs xs ys:List AV) (q:List Nat),cellsEq (List.replicate n 7++q) (bytesOf n b++xs) (bytesOf n c++ys)=if b % 256 ^ n=c % 256 ^ n then cellsEq q xs ys else some false
 | 0,b,c,_,xs,ys,q=>by simp[bytesOf_zero,Nat.mod_one]
 | n+1,b,c,qs,xs,ys,q=>by
  rw[bytesOf_succ,bytesOf_succ,List.replicate_succ]
  simp only[List.cons_append,cellsEq,cellEq_byte]
  have key:b % 256 ^ (n+1)=c % 256 ^ (n+1)↔b % 256=c % 256∧b / 256 % 256 ^ n=c / 256 % 256 ^ n:=by
   rw[Nat.pow_succ,Nat.mul_comm,Nat.mod_mul,Nat.mod_mul]
   have h1:=Nat.mod_lt b (show 256>0 by decide)
   have h2:=Nat.mod_lt c (show 256>0 by decide)
   constructor
   ·intro h;omega
   ·rintro⟨h3,h4⟩;rw[h3,h4]
  by_cases e:b % 256=c % 256
  ·simp only[e,decide_true,cellsEq_bytes n _ _ qs xs ys q]
   simp only[key,e,true_and]
  ·simp only[e,decide_false]
   rw[if_neg (fun h=>e (key.1 h).1)]
theorem cellEq_ex {q:Nat}{x y:AV}{b:Bool}(h:cellEq q x y=some b):ex x=x∧ex y=y:=by
 unfold cellEq at h
 split at h<;>first | (simp[ex];done) | (simp at h)
theorem ceq_s: ∀(xs ys:List AV) (rs:List (Nat×Nat)) (b:Bool),ceq xs ys rs=some b→cellsEq (qsOf rs) (exL xs) (exL ys)=some b
 | [],[],rs,b,h=>by
  unfold ceq at h
  split at h
  ·simp only[exL_nil,qsOf,cellsEq];exact h
  ·simp at h
 | [],_::_,rs,b,h=>by simp[ceq]at h
 | _::_,[],rs,b,h=>by simp[ceq]at h
 | x::xs,y::ys,rs,b,h=>by
  unfold ceq at h
  split at h
  ·rename_i n c
   split at h
   ·rename_i m d
    simp only[cond_eq_ite,Nat.beq_eq,pow8]at h
    split at h
    ·rename_i e;subst e
     split at h
     ·rename_i rs' hr
      rw[exL_pk,exL_pk,rtake_eq _ _ _ hr,cellsEq_bytes n c d [] (exL xs) (exL ys) (qsOf rs')]
      split at h
      ·rename_i e;rw[if_pos e];exact ceq_s xs ys rs' b h
      ·rename_i e;rw[if_neg e];exact h
     ·simp at h
    ·exact h
   ·exact h
  ·rename_i hx
   split at h
   ·exact h
   ·rename_i hy
    have hpx:isPk x=false:=by cases x<;>first | rfl | exact absurd rfl (hx _ _)
    have hpy:isPk y=false:=by cases y<;>first | rfl | exact absurd rfl (hy _ _)
    split at h
    ·rename_i q k r
     split at h
     ·simp at h
     ·rename_i k
      have e1:qsOf ((q,k+1)::r)=q::qsOf (rdec q k r):=by
       cases k with
       | zero=>simp[qsOf,rdec]
       | succ k=>simp only[qsOf,rdec,List.replicate_succ,List.cons_append]
      rw[exL_one hpx,exL_one hpy,e1]
      generalize hc:cellEq q x y=z at h
      cases z with
      | none=>simp at h
      | some z=>
       obtain⟨i1,i2⟩:=cellEq_ex hc
       rw[i1,i2]
       cases z with
       | true=>simp only[cellsEq,hc];exact ceq_s xs ys _ b h
       | false=>simp only[cellsEq,hc];exact h
    ·simp at h
theorem eqA_s {qs:List Nat}{x y:AV}{b:Bool}(h:eqAp (runsOf qs) x y=some b):eqA qs (ex x) (ex y)=some b:=by
 unfold eqAp at h
 split at h
 ·rename_i a
  split at h
  ·rename_i c
   rw[cond_eq_ite]at h
   split at h
   ·rename_i hc
    simp only[Bool.and_eq_true,Nat.beq_eq,rlen_eq,qsOf_runs,Nat.add_zero]at hc
    have:=ceq_s _ _ _ _ h
    rw[qsOf_runs]at this
    have e1:(lenL (exL a) 0).beq (lenL (exL c) 0)=true:=by rw[lenL_ex,lenL_ex,Nat.beq_eq];exact hc.1
    have e2:qs.length.beq (lenL (exL a) 0)=true:=by rw[lenL_ex,Nat.beq_eq];exact hc.2
    simp only[ex,eqA,e1,e2,Bool.and_self,cond_true];exact this
   ·simp at h
  ·simp at h
 ·simp at h
theorem tBin_s {X:Cx}{op:BinOp}{t:TypeId}{x y r:AV}(h:tBinp X op t x y=some r):tBin X op t (ex x) (ex y)=some (ex r):=by
 unfold tBinp at h
 unfold tBin
 split at h
 ·rename_i hd;simp only[hd];exact bInt_s h
 ·rename_i hd;simp only[hd];exact bStr_s h
 ·rename_i hd;simp only[hd];exact bBool_s h
 ·rename_i hd;simp only[hd]
  split at h
  ·simp at h
  ·rename_i hn;simp only[hn];exact cmpO_s (fun _=>eqP_s) h
  ·simp at h
 ·rename_i hd;simp only[hd];exact cmpO_s (fun _=>eqS_s) h
 ·rename_i hd;simp only[hd];exact cmpO_s (fun _=>eqM_s) h
 ·rename_i hd;simp only[hd];exact cmpO_s (fun _=>eqF_s) h
 ·rename_i hd;simp only[hd]
  split at h
  ·rename_i qs hq;simp only[hq];exact cmpO_s (fun _=>eqA_s) h
  ·simp at h
 ·rename_i hd;simp only[hd]
  split at h
  ·rename_i qs hq;simp only[hq];exact cmpO_s (fun _=>eqA_s) h
  ·simp at h
 ·simp at h
theorem aun_s {op:UnOp}{x r:AV}(h:aun op x=some r):aun op (ex x)=some (ex r):=by
 unfold aun at h
 split at h
 ·simp only[ex,aun,mkI_eq]at h⊢;simp only[Option.some.injEq]at h;subst h;simp[ex]
 ·simp only[ex,aun,mkB_eq]at h⊢;simp only[Option.some.injEq]at h;subst h;simp[ex]
 ·simp at h
theorem mn2_s {x y r:AV}(h:mn2 x y=some r):mn2 (ex x) (ex y)=some (ex r):=by
 unfold mn2 at h
 split at h
 ·split at h
  ·simp only[ex,mn2,cond_eq_ite]at h⊢
   split at h<;>(simp only[Option.some.injEq]at h;subst h;simp_all [ex])
  ·simp at h
 ·simp at h
theorem mx2_s {x y r:AV}(h:mx2 x y=some r):mx2 (ex x) (ex y)=some (ex r):=by
 unfold mx2 at h
 split at h
 ·split at h
  ·simp only[ex,mx2,cond_eq_ite]at h⊢
   split at h<;>(simp only[Option.some.injEq]at h;subst h;simp_all [ex])
  ·simp at h
 ·simp at h
theorem pNil_s {x r:AV}(h:pNil x=some r):pNil (ex x)=some (ex r):=by
 unfold pNil at h
 split at h<;>first | (simp only[Option.some.injEq]at h;subst h;simp[ex,pNil];done) | (simp at h)
theorem nth_exM: ∀(l:List AV) (i:Nat) (r:AV),nth l i=some r→nth (exM l) i=some (ex r)
 | [],i,r,h=>by simp[nth]at h
 | x::l,0,r,h=>by simp only[nth,Option.some.injEq]at h;subst h;simp[exM,nth]
 | x::l,i+1,r,h=>by simp only[nth]at h;simp only[exM,nth];exact nth_exM l i r h
theorem pExtract_s {x r:AV}{i:Nat}(h:pExtract x i=some r):pExtract (ex x) i=some (ex r):=by
 unfold pExtract at h
 split at h
 ·simp only[ex,pExtract];exact nth_exM _ _ _ h
 ·simp at h
theorem fAd_s {off:Nat}{x r:AV}(h:fAd off x=some r):fAd off (ex x)=some (ex r):=by
 unfold fAd at h
 split at h
 ·simp only[ex,fAd,fN_eq]at h⊢;simp only[Option.some.injEq]at h;subst h;simp[ex]
 ·simp at h
theorem tFieldAddr_s {X:Cx}{s:TypeId}{x r:AV}{f:Nat}(h:tFieldAddr X s x f=some r):tFieldAddr X s (ex x) f=some (ex r):=by
 unfold tFieldAddr at h⊢
 split at h
 ·rename_i hd;try simp only[hd]
  split at h
  ·rename_i hf;try simp only[hf]
   split at h
   ·simp at h
   ·rename_i hn;try simp only[hn]
    exact fAd_s h
   ·simp at h
  ·simp at h
 ·simp at h
theorem ixArr_s {n sz:Nat}{x ix r:AV}(h:ixArr n sz x ix=some r):ixArr n sz (ex x) (ex ix)=some (ex r):=by
 unfold ixArr at h⊢
 rw[natOf_ex]
 split at h
 ·rename_i i hi;try simp only[hi]
  split at h
  ·simp only[ex,fN_eq,cond_eq_ite]at h⊢
   split at h
   ·rename_i hc;simp only[hc,if_true];simp only[Option.some.injEq]at h;subst h;simp[ex]
   ·simp at h
  ·simp at h
 ·simp at h
theorem ixSl_s {sz:Nat}{x ix r:AV}(h:ixSl sz x ix=some r):ixSl sz (ex x) (ex ix)=some (ex r):=by
 unfold ixSl at h⊢
 rw[natOf_ex]
 split at h
 ·rename_i i hi;try simp only[hi]
  split at h
  ·simp only[ex,fN_eq,cond_eq_ite]at h⊢
   split at h
   ·rename_i hc;simp only[hc,if_true];simp only[Option.some.injEq]at h;subst h;simp[ex]
   ·simp at h
  ·simp at h
 ·simp at h
theorem tIxAddr_s {X:Cx}{t:TypeId}{x ix r:AV}(h:tIxAddr X t x ix=some r):tIxAddr X t (ex x) (ex ix)=some (ex r):=by
 unfold tIxAddr at h⊢
 split at h
 ·rename_i hd;try simp only[hd]
  split at h
  ·rename_i hs;try simp only[hs]
   exact ixArr_s h
  ·simp at h
 ·rename_i hd;try simp only[hd]
  split at h
  ·rename_i hs;try simp only[hs]
   exact ixSl_s h
  ·simp at h
 ·simp at h
theorem s2a_s {n:Nat}{x r:AV}(h:s2a n x=some r):s2a n (ex x)=some (ex r):=by
 unfold s2a at h
 split at h
 ·simp only[ex,s2a,cond_eq_ite]at h⊢
  split at h
  ·rename_i hc;simp only[hc,if_true];simp only[Option.some.injEq]at h;subst h;simp[ex]
  ·simp at h
 ·simp at h
theorem tArr_s {X:Cx}{a:TypeId}{x r:AV}(h:tArr X a x=some r):tArr X a (ex x)=some (ex r):=by
 unfold tArr at h⊢
 split at h
 ·rename_i hd;try simp only[hd]
  exact s2a_s h
 ·simp at h
theorem cvI_s {k:IntKind}{x r:AV}(h:cvI k x=some r):cvI k (ex x)=some (ex r):=by
 unfold cvI at h
 split at h
 ·simp only[ex,cvI,mkI_eq]at h⊢;simp only[Option.some.injEq]at h;subst h;simp[ex]
 ·simp at h
theorem cvSS_s {x r:AV}(h:cvSS x=some r):cvSS (ex x)=some (ex r):=by
 unfold cvSS at h
 split at h
 ·simp only[ex,cvSS]at h⊢;simp only[Option.some.injEq]at h;subst h;simp[ex]
 ·simp at h
theorem tConvP_s {X:Cx}{s d:TypeId}{x r:AV}(h:tConvP X s d x=some r):tConvP X s d (ex x)=some (ex r):=by
 unfold tConvP at h⊢
 split at h
 ·simp at h
 ·rename_i hd;try simp only[hd]
  split at h
  ·rename_i h2;try simp only[h2]
   exact cvI_s h
  ·rename_i h2;try simp only[h2]
   split at h
   ·exact cvSS_s h
   ·simp at h
  ·simp at h
theorem tConvL_s {H Hx:AH}(hR:HR H Hx){X:Cx}{s d:TypeId}{x r:AV}(h:tConvLp X s d x H=some r):tConvL X s d (ex x) Hx=some (ex r):=by
 unfold tConvLp at h
 unfold tConvL
 split at h
 ·rename_i hd;simp only[hd]
  split at h
  ·rename_i h2;simp only[h2]
   split at h
   ·rename_i h3;simp only[h3];exact cvBS_s hR h
   ·simp at h
  ·simp at h
 ·simp at h
theorem lnStr_s {x r:AV}(h:lnStr x=some r):lnStr (ex x)=some (ex r):=by
 unfold lnStr at h
 split at h
 ·simp only[ex,lnStr]at h⊢;simp only[Option.some.injEq]at h;subst h;simp[ex]
 ·simp at h
theorem lnSl_s {x r:AV}(h:lnSl x=some r):lnSl (ex x)=some (ex r):=by
 unfold lnSl at h
 split at h<;>first | (simp at h;done) | (simp only[ex,lnSl]at h⊢;simp only[Option.some.injEq]at h;subst h;simp[ex])
theorem lnMap_s {H Hx:AH}(hR:HR H Hx){x r:AV}(h:lnMap x H=some r):lnMap (ex x) Hx=some (ex r):=by
 unfold lnMap at h
 split at h
 ·simp only[ex,lnMap]at h⊢;simp only[Option.some.injEq]at h;subst h;simp[ex]
 ·split at h
  ·rename_i hA
   simp only[ex,lnMap,hR.at hA,exO,fN_eq,exE,List.length_map]at h⊢
   simp only[Option.some.injEq]at h;subst h;simp[ex]
  ·simp at h
 ·simp at h
theorem tLen_s {H Hx:AH}(hR:HR H Hx){X:Cx}{t:TypeId}{x r:AV}(h:tLen X t x H=some r):tLen X t (ex x) Hx=some (ex r):=by
 unfold tLen at h⊢
 split at h
 ·rename_i hd;try simp only[hd]
  exact lnStr_s h
 ·rename_i hd;try simp only[hd]
  exact lnSl_s h
 ·rename_i hd;try simp only[hd]
  simp only[Option.some.injEq]at h;subst h;simp[ex]
 ·rename_i hd;try simp only[hd]
  exact lnMap_s hR h
 ·simp at h
theorem acap_s {X:Cx}{t:TypeId}{x r:AV}(h:acap X t x=some r):acap X t (ex x)=some (ex r):=by
 unfold acap at h
 split at h
 ·rename_i hd;simp only[ex,acap,hd]at h⊢;simp only[Option.some.injEq]at h;subst h;simp[ex]
 ·rename_i hd
  simp only[ex,acap,hd,fN_eq,cond_eq_ite]at h⊢
  split at h
  ·rename_i hc;simp only[hc,if_true];simp only[Option.some.injEq]at h;subst h;simp[ex]
  ·simp at h
 ·simp at h
theorem pk3_s {c a b c' a' b':Option AV}(hc:SV c c')(ha:SV a a')(hb:SV b b'):SV (pk3 c a b) (pk3 c' a' b'):=by
 intro v h
 unfold pk3 at h
 split at h
 ·rw[hc _ rfl];simp only[ex,pk3];exact ha _ h
 ·rw[hc _ rfl];simp only[ex,pk3];exact hb _ h
 ·simp at h
end Go.Eng
end
section
namespace Go.Eng
theorem ex_undef:ex undefA=undefA:=by simp[undefA,ex,exM]
theorem ex_tup0:ex (.tuple [])= .tuple []:=by simp[ex,exM]
section
variable {H Hx:AH}(hR:HR H Hx)
include hR
theorem csrc_s {sz:Nat}{x:AV}{n:Nat}{c:List AV}(h:csrc sz x H=some (n,c)):srcOf sz (ex x) Hx=some (n,exL c):=by
 unfold csrc at h
 split at h
 ·simp only[Option.some.injEq,Prod.mk.injEq]at h;obtain⟨rfl,rfl⟩:=h;simp[ex,srcOf,exL_nil]
 ·simp only[Option.some.injEq,Prod.mk.injEq]at h;obtain⟨rfl,rfl⟩:=h;simp[ex,srcOf,exL_nil]
 ·split at h
  ·rename_i hA
   split at h
   ·rename_i c' hc
    simp only[Option.some.injEq,Prod.mk.injEq]at h;obtain⟨rfl,rfl⟩:=h
    simp only[ex,srcOf,hR.at hA,exO,csub_s hc]
   ·simp at h
  ·simp at h
 ·rw[cond_eq_ite]at h
  split at h
  ·rename_i hc
   simp only[Option.some.injEq,Prod.mk.injEq]at h;obtain⟨rfl,rfl⟩:=h
   simp only[ex,srcOf,hc,cond_true,exL_pk,exL_nil,List.append_nil]
  ·simp at h
 ·simp at h
theorem newA_s {o:AObj}{A:Nat}{H':AH}(ho:okO o)(h:newA H o=some (A,H')): ∃Hx',newA Hx (exO o)=some (A,Hx')∧HR H' Hx':=by
 obtain⟨t,ht,rfl,rfl,hn⟩:=newA_eq h
 obtain⟨tx,h1,h2⟩:=hR.set ho ht (H.next+1)
 refine⟨⟨tx,H.next+1⟩, ?_,h2⟩
 simp only[newA,newA0,hR.next,hR.out hn,h1]
theorem agrow_s {need e sz:Nat}{c:List AV} :SR (agrow need e sz c H) (agrow need e sz (exL c) Hx):=by
 intro v H' h
 unfold agrow at h
 split at h
 ·rename_i A H1 h1
  obtain⟨Hx',h2,h3⟩:=newA_s hR (o:= .cells c e sz true) trivial h1
  rw[fN_eq]at h
  simp only[Option.some.injEq,Prod.mk.injEq]at h;obtain⟨rfl,rfl⟩:=h
  refine⟨Hx', ?_,h3⟩
  simp only[exO]at h2
  simp only[agrow,h2,fN_eq,ex]
 ·simp at h
theorem cgrow_s {need e sz bytes:Nat}{old:Option (List AV)}{new:List AV}{oldx:Option (List AV)}(ho: ∀o,old=some o→oldx=some (exL o)):SR (cgrow need e sz bytes old new H) (appGrow need e sz bytes oldx (exL new) Hx):=by
 intro v H' h
 unfold cgrow at h
 rw[cond_eq_ite]at h
 split at h
 ·rename_i hr
  split at h
  ·rename_i o
   split at h
   ·rename_i c hc
    obtain⟨Hx',h1,h2⟩:=agrow_s hR _ _ h
    refine⟨Hx', ?_,h2⟩
    simp only[appGrow,hr,cond_true,ho o rfl]
    rw[← capp_eq _ _ _ hc];exact h1
   ·simp at h
  ·simp at h
 ·simp at h
theorem appIn_s {A off len cc n e' sz':Nat}{g:Bool}{l' lx:Option (List AV)}(hl: ∀o,l'=some o→lx=some (exL o)):SR (appIn A off len cc n e' sz' g l' H) (appIn A off len cc n e' sz' g lx Hx):=by
 intro v H' h
 unfold appIn at h
 split at h
 ·rename_i l1
  split at h
  ·rename_i H1 hp
   obtain⟨Hx',h1,h2⟩:=hR.put (o:= .cells l1 e' sz' g) trivial hp
   rw[fN_eq]at h
   simp only[Option.some.injEq,Prod.mk.injEq]at h;obtain⟨rfl,rfl⟩:=h
   simp only[exO]at h1
   refine⟨Hx', ?_,h2⟩
   simp only[appIn,hl l1 rfl,h1,fN_eq,ex]
  ·simp at h
 ·simp at h
theorem capp2_s {e sz bytes n:Nat}{new:List AV}{A off len cc:Nat}{l:List AV}{e' sz':Nat}{g:Bool} :
  SR (capp2 e sz bytes n new A off len cc l e' sz' g H) (app2 e sz bytes n (exL new) A off len cc (exL l) e' sz' g Hx):=by
 intro v H' h
 unfold capp2 at h
 unfold app2
 rw[croom_s,lenL_ex]
 simp only[cond_eq_ite]at h⊢
 split at h
 ·rename_i hc;simp only[hc,if_true]
  exact appIn_s hR (fun o ho=>cset_s ho) _ _ h
 ·rename_i hc;simp only[hc,if_false]
  split at h
  ·rename_i hc;simp only[hc,if_true]
   exact cgrow_s hR (fun o ho=>csub_s ho) _ _ h
  ·rename_i hc;simp only[hc,if_false]
   split at h
   ·rename_i hc;simp only[hc,if_true]
    split at h
    ·rename_i H1 hp
     obtain⟨Hx1,h1,h2⟩:=hR.put (o:= .dead) trivial hp
     simp only[exO]at h1
     simp only[h1]
     exact cgrow_s h2 (fun o ho=>csub_s ho) _ _ h
    ·simp at h
   ·simp at h
theorem capp1_s {e sz bytes n:Nat}{new:List AV}{s:AV} :SR (capp1 e sz bytes n new s H) (app1 e sz bytes n (exL new) (ex s) Hx):=by
 intro v H' h
 unfold capp1 at h
 split at h
 ·simp only[ex,app1,cond_eq_ite]at h⊢
  split at h
  ·rename_i hc;simp only[hc,if_true]
   simp only[Option.some.injEq,Prod.mk.injEq]at h;obtain⟨rfl,rfl⟩:=h
   exact⟨Hx,by simp[ex],hR⟩
  ·rename_i hc;simp only[hc,if_false]
   exact cgrow_s hR (fun o ho=>by simp only[Option.some.injEq]at ho;subst ho;rw[exL_nil]) _ _ h
 ·simp only[ex,app1,cond_eq_ite]at h⊢
  split at h
  ·rename_i hc;simp only[hc,if_true]
   simp only[Option.some.injEq,Prod.mk.injEq]at h;obtain⟨rfl,rfl⟩:=h
   exact⟨Hx,by simp[ex],hR⟩
  ·simp at h
 ·split at h
  ·rename_i hA
   simp only[ex,app1,hR.at hA,exO]
   exact capp2_s hR _ _ h
  ·simp at h
 ·simp at h
theorem apP_s {e sz bytes:Nat}{s x:AV} :SR (apPp e sz bytes s x H) (apP e sz bytes (ex s) (ex x) Hx):=by
 intro v H' h
 unfold apPp at h
 split at h
 ·rename_i n new hs
  rw[cond_eq_ite]at h
  split at h
  ·rename_i hc
   simp only[apP,csrc_s hR hs,allCells_ex hc,cond_true]
   exact capp1_s hR _ _ h
  ·simp at h
 ·simp at h
theorem apZ_s {e sz bytes:Nat}{z:List AV}{s x:AV} :SR (apZp e sz bytes z s x H) (apZ e sz bytes (exL z) (ex s) (ex x) Hx):=by
 intro v H' h
 unfold apZp at h
 split at h
 ·rename_i n
  rw[cond_eq_ite]at h
  split at h
  ·rename_i hc
   simp only[ex,apZ,hc,cond_true]
   rw[← crep_eq]
   exact capp1_s hR _ _ h
  ·simp at h
 ·simp at h
theorem tApp_s {X:Cx}{t u:TypeId}{s x:AV} :SR (tAppp X t u s x H) (tApp X t u (ex s) (ex x) Hx):=by
 intro v H' h
 unfold tAppp at h
 unfold tApp
 split at h
 ·rename_i hd;simp only[hd]
  split at h
  ·rename_i ht;simp only[ht]
   split at h
   ·rename_i hu;simp only[hu]
    rw[cond_eq_ite]at h⊢
    split at h
    ·rename_i hc;simp only[hc,if_true];exact apP_s hR _ _ h
    ·simp at h
   ·rename_i hu;simp only[hu]
    rw[cond_eq_ite]at h⊢
    split at h
    ·rename_i hc;simp only[hc,if_true];exact apP_s hR _ _ h
    ·simp at h
   ·rename_i hu;simp only[hu]
    split at h
    ·rename_i z hz
     simp only[zeroP_eq hz]
     rw[cond_eq_ite]at h⊢
     split at h
     ·rename_i hc
      rw[Bool.and_eq_true]at hc
      have e2:allCells (cellsA (ex z))=true:=by rw[cellsA_ex];exact allCells_ex hc.2
      simp only[hc.1,e2,Bool.and_self,if_true]
      rw[cellsA_ex];exact apZ_s hR _ _ h
     ·simp at h
    ·simp at h
   ·simp at h
  ·simp at h
 ·simp at h
theorem cpy_s {sz:Nat}{dst src:AV} :SR (cpyp sz dst src H) (cpy sz (ex dst) (ex src) Hx):=by
 intro v H' h
 unfold cpyp at h
 split at h
 ·split at h<;>first
   | (simp at h;done)
   | (simp only[Option.some.injEq,Prod.mk.injEq]at h;obtain⟨rfl,rfl⟩:=h;exact⟨Hx,by simp[ex,cpy],hR⟩)
 ·split at h
  ·rename_i n new hs
   split at h
   ·rename_i new' ht
    rw[cond_eq_ite]at h
    split at h
    ·rename_i hc
     split at h
     ·rename_i hA
      split at h
      ·rename_i l' hl
       split at h
       ·rename_i H1 hp
        obtain⟨Hx',h1,h2⟩:=hR.put (o:= .cells l' _ _ _) trivial hp
        rw[fN_eq]at h
        simp only[Option.some.injEq,Prod.mk.injEq]at h;obtain⟨rfl,rfl⟩:=h
        simp only[exO]at h1
        refine⟨Hx', ?_,h2⟩
        simp only[ex,cpy,csrc_s hR hs,ctake_s ht,allCells_ex hc,cond_true,hR.at hA,exO,cset_s hl,h1,fN_eq]
       ·simp at h
      ·simp at h
     ·simp at h
    ·simp at h
   ·simp at h
  ·simp at h
 ·simp at h
theorem tCopy_s {X:Cx}{t:TypeId}{s x:AV} :SR (tCopyp X t s x H) (tCopy X t (ex s) (ex x) Hx):=by
 intro v H' h
 unfold tCopyp at h
 unfold tCopy
 split at h
 ·rename_i hd;simp only[hd]
  split at h
  ·rename_i hs;simp only[hs];exact cpy_s hR _ _ h
  ·simp at h
 ·simp at h
theorem tStore_s {X:Cx}{t:TypeId}{p x:AV} :SR (tStorep X t p x H) (tStore X t (ex p) (ex x) Hx):=by
 intro v H' h
 unfold tStorep at h
 unfold tStore
 split at h
 ·rename_i hs;simp only[hs];exact stN_s hR _ _ h
 ·simp at h
end
theorem kcodes_ex: ∀ {qs:List Nat} {l:List AV},kcodes l qs=true→qs.contains 1=false→exL l=l
 | [],[],_,_=>exL_nil
 | [],_::_,h,_=>by simp[kcodes]at h
 | _::_,[],h,_=>by simp[kcodes]at h
 | q::qs,x::l,h,h1=>by
  simp only[kcodes,Bool.and_eq_true,Nat.beq_eq]at h
  simp only[List.contains_cons,Bool.or_eq_false_iff]at h1
  have hk:kcode x≠1:=fun e=>by rw[e]at h;simp[← h.1]at h1
  have ih:=kcodes_ex h.2 h1.2
  cases x<;>first | (simp[kcode]at hk;done) | (rw[exL_one rfl,ih];simp[ex])
theorem key_ex {ks:List Nat}{k:AV}(h:keyOk ks k=true):ex k=k:=by
 unfold keyOk at h
 split at h
 ·simp at h
 ·rename_i q qs
  rw[cond_eq_ite]at h
  split at h
  ·split at h
   ·rename_i l
    rw[Bool.and_eq_true,Bool.not_eq_true']at h
    simp only[ex];rw[kcodes_ex h.1 h.2]
   ·simp at h
  ·rename_i hq
   split at h
   ·rw[Nat.beq_eq]at h
    have hk:kcode k≠1:=fun e=>by rw[e]at h;subst h;simp at hq
    cases k<;>first | (simp[kcode]at hk;done) | (simp[ex])
   ·simp at h
theorem findA_ex (k:AV): ∀(es:List (AV×AV)),findA k (exE es)=(findA k es).map ex
 | []=>rfl
 | (a,b)::l=>by
  have ih:=findA_ex k l
  simp only[exE,List.map_cons,findA,cond_eq_ite]at ih⊢
  split
  ·rfl
  ·exact ih
theorem setA_ex (k v:AV): ∀(es:List (AV×AV)),setA k (ex v) (exE es)=(setA k v es).map exE
 | []=>rfl
 | (a,b)::l=>by
  have ih:=setA_ex k v l
  simp only[exE,List.map_cons,setA,cond_eq_ite]at ih⊢
  split
  ·simp[exE]
  ·rw[ih]
   cases setA k v l<;>simp[exE]
theorem delA_ex (k:AV): ∀(es:List (AV×AV)),delA k (exE es)=(delA k es).map exE
 | []=>rfl
 | (a,b)::l=>by
  have ih:=delA_ex k l
  simp only[exE,List.map_cons,delA,cond_eq_ite]at ih⊢
  split
  ·simp[exE]
  ·rw[ih]
   cases delA k l<;>simp[exE]
theorem setA_ok {k v:AV}{P:AV→Prop} : ∀ {es es':List (AV×AV)},setA k v es=some es'→(∀e∈es,P e.1)→ ∀e∈es',P e.1
 | [],_,h,_=>by simp[setA]at h
 | (a,b)::l,es',h,hp=>by
  simp only[setA,cond_eq_ite]at h
  split at h
  ·simp only[Option.some.injEq]at h;subst h
   intro e he
   rcases List.mem_cons.1 he with rfl | he
   ·exact hp (a,b) (by simp)
   ·exact hp e (by simp[he])
  ·split at h
   ·rename_i r hr
    simp only[Option.some.injEq]at h;subst h
    intro e he
    rcases List.mem_cons.1 he with rfl | he
    ·exact hp (a,b) (by simp)
    ·exact setA_ok hr (fun e he=>hp e (by simp[he])) e he
   ·simp at h
theorem delA_ok {k:AV}{P:AV→Prop} : ∀ {es es':List (AV×AV)},delA k es=some es'→(∀e∈es,P e.1)→ ∀e∈es',P e.1
 | [],_,h,_=>by simp[delA]at h
 | (a,b)::l,es',h,hp=>by
  simp only[delA,cond_eq_ite]at h
  split at h
  ·simp only[Option.some.injEq]at h;subst h
   intro e he
   exact hp e (by simp[he])
  ·split at h
   ·rename_i r hr
    simp only[Option.some.injEq]at h;subst h
    intro e he
    rcases List.mem_cons.1 he with rfl | he
    ·exact hp (a,b) (by simp)
    ·exact delA_ok hr (fun e he=>hp e (by simp[he])) e he
   ·simp at h
theorem lkR_ex (b c:Bool)(v:AV):ex (lkR b c v)=lkR b c (ex v):=by
 unfold lkR;cases c<;>simp[ex,exM]
theorem lkM_s {H Hx:AH}(hR:HR H Hx){ks:List Nat}{z x k v:AV}{c:Bool}(h:lkM ks z c x k H=some v):lkM ks (ex z) c (ex x) (ex k) Hx=some (ex v):=by
 unfold lkM at h
 rw[cond_eq_ite]at h
 split at h
 ·rename_i hk
  rw[key_ex hk]
  split at h
  ·simp only[Option.some.injEq]at h;subst h
   simp only[ex,lkM,hk,cond_true,lkR_ex]
  ·rename_i A
   split at h
   ·rename_i ks' es hA
    rw[cond_eq_ite]at h
    split at h
    ·rename_i hq
     simp only[ex,lkM,hk,cond_true,hR.at hA,exO,hq,findA_ex]
     split at h
     ·rename_i w hf
      simp only[Option.some.injEq]at h;subst h
      simp only[hf,Option.map_some,lkR_ex]
     ·rename_i hf
      simp only[Option.some.injEq]at h;subst h
      simp only[hf,Option.map_none,lkR_ex]
    ·simp at h
   ·simp at h
  ·simp at h
 ·simp at h
theorem upM_s {H Hx:AH}(hR:HR H Hx){ks:List Nat}{x k v:AV} :SR (upM ks x k v H) (upM ks (ex x) (ex k) (ex v) Hx):=by
 intro u H' h
 unfold upM at h
 rw[cond_eq_ite]at h
 split at h
 ·rename_i hk
  rw[key_ex hk]
  split at h
  ·rename_i A
   split at h
   ·rename_i ks' es hA
    rw[cond_eq_ite]at h
    split at h
    ·rename_i hq
     have hks:=eqNL_eq _ _ hq
     subst hks
     have hok: ∀e∈es,keyOk ks e.1=true:=hR.ok _ _ hA
     simp only[ex,upM,hk,cond_true,hR.at hA,exO,hq,setA_ex]
     split at h
     ·rename_i es' hs
      split at h
      ·rename_i H1 hp
       simp only[Option.some.injEq,Prod.mk.injEq]at h;obtain⟨rfl,rfl⟩:=h
       obtain⟨Hx',h1,h2⟩:=hR.put (o:= .map ks es') (setA_ok (P:=fun k=>keyOk ks k=true) hs hok) hp
       refine⟨Hx', ?_,h2⟩
       simp only[exO]at h1
       simp only[hs,Option.map_some,h1,ex_undef]
      ·simp at h
     ·rename_i hs
      split at h
      ·rename_i H1 hp
       simp only[Option.some.injEq,Prod.mk.injEq]at h;obtain⟨rfl,rfl⟩:=h
       obtain⟨Hx',h1,h2⟩:=hR.put (o:= .map ks (es++[(k,v)])) (by
        intro e he
        rcases List.mem_append.1 he with he | he
        ·exact hok e he
        ·simp only[List.mem_singleton]at he;subst he;exact hk) hp
       refine⟨Hx', ?_,h2⟩
       have e1:exE (es++[(k,v)])=exE es++[(k,ex v)]:=by simp[exE]
       simp only[exO,e1]at h1
       simp only[hs,Option.map_none,h1,ex_undef]
      ·simp at h
    ·simp at h
   ·simp at h
  ·simp at h
 ·simp at h
theorem dlM_s {H Hx:AH}(hR:HR H Hx){ks:List Nat}{x k:AV} :SR (dlM ks x k H) (dlM ks (ex x) (ex k) Hx):=by
 intro u H' h
 unfold dlM at h
 rw[cond_eq_ite]at h
 split at h
 ·rename_i hk
  rw[key_ex hk]
  split at h
  ·simp only[Option.some.injEq,Prod.mk.injEq]at h;obtain⟨rfl,rfl⟩:=h
   exact⟨Hx,by simp only[ex,dlM,hk,cond_true,exM],hR⟩
  ·rename_i A
   split at h
   ·rename_i ks' es hA
    rw[cond_eq_ite]at h
    split at h
    ·rename_i hq
     have hks:=eqNL_eq _ _ hq
     subst hks
     have hok: ∀e∈es,keyOk ks e.1=true:=hR.ok _ _ hA
     simp only[ex,dlM,hk,cond_true,hR.at hA,exO,hq,delA_ex]
     split at h
     ·rename_i es' hs
      split at h
      ·rename_i H1 hp
       simp only[Option.some.injEq,Prod.mk.injEq]at h;obtain⟨rfl,rfl⟩:=h
       obtain⟨Hx',h1,h2⟩:=hR.put (o:= .map ks es') (delA_ok (P:=fun k=>keyOk ks k=true) hs hok) hp
       refine⟨Hx', ?_,h2⟩
       simp only[exO]at h1
       simp only[hs,Option.map_some,h1,ex,exM]
      ·simp at h
     ·rename_i hs
      simp only[Option.some.injEq,Prod.mk.injEq]at h;obtain⟨rfl,rfl⟩:=h
      exact⟨Hx,by simp only[hs,Option.map_none,ex,exM],hR⟩
    ·simp at h
   ·simp at h
  ·simp at h
 ·simp at h
theorem clM_s {H Hx:AH}(hR:HR H Hx){x:AV} :SR (clM x H) (clM (ex x) Hx):=by
 intro u H' h
 unfold clM at h
 split at h
 ·simp only[Option.some.injEq,Prod.mk.injEq]at h;obtain⟨rfl,rfl⟩:=h
  exact⟨Hx,by simp only[ex,clM,exM],hR⟩
 ·rename_i A
  split at h
  ·rename_i ks es hA
   split at h
   ·rename_i H1 hp
    simp only[Option.some.injEq,Prod.mk.injEq]at h;obtain⟨rfl,rfl⟩:=h
    obtain⟨Hx',h1,h2⟩:=hR.put (o:= .map ks []) (by intro e he;simp at he) hp
    refine⟨Hx', ?_,h2⟩
    simp only[exO,exE,List.map_nil]at h1
    simp only[ex,clM,hR.at hA,exO,h1,exM]
   ·simp at h
  ·simp at h
 ·simp at h
theorem tLk_s {H Hx:AH}(hR:HR H Hx){X:Cx}{t:TypeId}{c:Bool}{x k v:AV}(h:tLkp X t c x k H=some v):tLk X t c (ex x) (ex k) Hx=some (ex v):=by
 unfold tLkp at h
 unfold tLk
 split at h
 ·rename_i hd;simp only[hd]
  split at h
  ·rename_i h1 h2;simp only[h1,zeroP_eq h2];exact lkM_s hR h
  ·simp at h
 ·simp at h
theorem tUp_s {H Hx:AH}(hR:HR H Hx){X:Cx}{t:TypeId}{x k v:AV} :SR (tUp X t x k v H) (tUp X t (ex x) (ex k) (ex v) Hx):=by
 intro u H' h
 unfold tUp at h⊢
 split at h
 ·rename_i hd;try simp only[hd]
  split at h
  ·rename_i h1;try simp only[h1]
   exact upM_s hR _ _ h
  ·simp at h
 ·simp at h
theorem tDl_s {H Hx:AH}(hR:HR H Hx){X:Cx}{t:TypeId}{x k:AV} :SR (tDl X t x k H) (tDl X t (ex x) (ex k) Hx):=by
 intro u H' h
 unfold tDl at h⊢
 split at h
 ·rename_i hd;try simp only[hd]
  split at h
  ·rename_i h1;try simp only[h1]
   exact dlM_s hR _ _ h
  ·simp at h
 ·simp at h
theorem clS_s {H Hx:AH}(hR:HR H Hx){z:List AV}{x:AV} :SR (clSp z x H) (clS (exL z) (ex x) Hx):=by
 intro u H' h
 unfold clSp at h
 split at h
 ·simp only[Option.some.injEq,Prod.mk.injEq]at h;obtain⟨rfl,rfl⟩:=h
  exact⟨Hx,by simp only[ex,clS,undefA,exM],hR⟩
 ·rename_i A off n c
  rw[cond_eq_ite]at h
  split at h
  ·rename_i hn
   simp only[Option.some.injEq,Prod.mk.injEq]at h;obtain⟨rfl,rfl⟩:=h
   exact⟨Hx,by simp only[ex,clS,hn,cond_true,undefA,exM],hR⟩
  ·rename_i hn
   rw[cond_eq_ite]at h
   split at h
   ·rename_i hz
    split at h
    ·rename_i l e sz g hA
     split at h
     ·rename_i l' hs
      split at h
      ·rename_i H1 hp
       simp only[Option.some.injEq,Prod.mk.injEq]at h;obtain⟨rfl,rfl⟩:=h
       obtain⟨Hx',h1,h2⟩:=hR.put (o:= .cells l' e sz g) trivial hp
       have hs':=cset_s hs
       rw[crep_eq]at hs'
       simp only[exO]at h1
       have hn':Nat.beq n 0=false:=Bool.eq_false_iff.2 hn
       refine⟨Hx', ?_,h2⟩
       simp only[ex,clS,hn',cond_false,allCells_ex hz,cond_true,hR.at hA,exO,hs',h1,undefA,exM]
      ·simp at h
     ·simp at h
    ·simp at h
   ·simp at h
 ·simp at h
theorem acl_s {H Hx:AH}(hR:HR H Hx){X:Cx}{t:TypeId}{x:AV} :SR (aclp X t x H) (acl X t (ex x) Hx):=by
 intro u H' h
 unfold aclp at h
 unfold acl
 split at h
 ·rename_i hd;simp only[hd]
  exact clM_s hR _ _ h
 ·rename_i hd;simp only[hd]
  split at h
  ·rename_i z hz
   simp only[zeroP_eq hz]
   rw[cellsA_ex]
   exact clS_s hR _ _ h
  ·simp at h
 ·simp at h
def exP (ps:List (Nat×AV)):List (Nat×AV):=ps.map fun p=>(p.1,ex p.2)
theorem cfill_s {place:Nat→Option (Nat×Nat)} : ∀ {ps:List (Nat×AV)} {cells r:List AV},cfill place cells ps=some r→fillA place (exL cells) (exP ps)=some (exL r)
 | [],cells,r,h=>by simp only[cfill,Option.some.injEq]at h;subst h;rfl
 | (i,v)::ps,cells,r,h=>by
  simp only[cfill]at h
  simp only[exP,List.map_cons,fillA]
  split at h
  ·simp at h
  ·rename_i off size hp
   simp only[hp]
   rw[cond_eq_ite]at h⊢
   split at h
   ·rename_i hc
    have e1:(lenL (cellsA (ex v)) 0).beq size=true:=by rw[lenL_cells];exact hc
    simp only[e1,if_true]
    split at h
    ·rename_i c' hs
     rw[cellsA_ex,cset_s hs]
     exact cfill_s h
    ·simp at h
   ·simp at h
theorem tBuild_s {X:Cx}{t:TypeId}{ps psx:Option (List (Nat×AV))}(hp: ∀p,ps=some p→psx=some (exP p)):SV (tBuildp X t ps) (tBuild X t psx):=by
 intro v h
 unfold tBuildp at h
 unfold tBuild
 split at h
 ·rename_i z hz
  simp only[zeroP_eq hz]
  split at h
  ·rename_i parts
   simp only[hp parts rfl]
   split at h
   ·rename_i fs hd;simp only[hd]
    split at h
    ·rename_i pl hpl;simp only[hpl]
     unfold bldSp at h
     split at h
     ·rename_i c hc
      simp only[Option.some.injEq]at h;subst h
      simp only[bldS,cellsA_ex,cfill_s hc,ex]
     ·simp at h
    ·simp at h
   ·rename_i n e hd;simp only[hd]
    split at h
    ·rename_i sz hs;simp only[hs]
     unfold bldAp at h
     split at h
     ·rename_i c hc
      simp only[Option.some.injEq]at h;subst h
      simp only[bldA,cellsA_ex,cfill_s hc,ex]
     ·simp at h
    ·simp at h
   ·simp at h
  ·simp at h
 ·simp at h
theorem bxV_s {e:TypeId}{x:AV} :SA (bxV e x) (bxV e (ex x)):=by
 intro o mk h
 simp only[bxV,Option.some.injEq,Prod.mk.injEq]at h
 obtain⟨rfl,rfl⟩:=h
 exact⟨trivial,fun A=> .ptr A 0,by simp only[bxV,exO,cellsA_ex],fun A=>by simp[ex]⟩
theorem tBuildL_s {X:Cx}{t:TypeId}{len:Nat}{ps psx:Option (List (Nat×AV))}(hp: ∀p,ps=some p→psx=some (exP p)):SA (tBuildLp X t len ps) (tBuildL X t len psx):=by
 intro o mk h
 unfold tBuildLp at h
 unfold tBuildL
 split at h
 ·rename_i e hd;simp only[hd]
  split at h
  ·rename_i parts
   simp only[hp parts rfl]
   split at h
   ·rename_i sz hs;simp only[hs]
    split at h
    ·rename_i z hz;simp only[zeroP_eq hz]
     rw[cond_eq_ite]at h⊢
     split at h
     ·rename_i hc
      rw[lenL_cells]
      simp only[hc,if_true]
      unfold bldLp at h
      split at h
      ·rename_i c hcf
       simp only[Option.some.injEq,Prod.mk.injEq]at h;obtain⟨rfl,rfl⟩:=h
       have:=cfill_s hcf
       rw[exL_rep]at this
       exact⟨trivial,fun A=> .slice A 0 len (2*len),by simp only[bldL,cellsA_ex,this,exO],fun A=>by simp[ex]⟩
      ·simp at h
     ·simp at h
    ·simp at h
   ·simp at h
  ·simp at h
 ·simp at h
theorem tMake_s {X:Cx}{t:TypeId}{l c:AV} :SA (tMakep X t l c) (tMake X t (ex l) (ex c)):=by
 intro o mk h
 unfold tMakep at h
 unfold tMake
 split at h
 ·rename_i e hd;simp only[hd]
  split at h
  ·rename_i ti ht;simp only[ht]
   split at h
   ·rename_i z hz;simp only[zeroP_eq hz]
    rw[cond_eq_ite]at h⊢
    split at h
    ·rename_i hc
     rw[lenL_cells]
     simp only[hc,if_true]
     unfold mkSlp at h
     split at h
     ·rename_i n
      split at h
      ·rename_i m
       rw[cond_eq_ite]at h
       split at h
       ·rename_i hc2
        simp only[Option.some.injEq,Prod.mk.injEq]at h;obtain⟨rfl,rfl⟩:=h
        exact⟨trivial,fun A=> .slice A 0 n (2*m),by simp only[ex,mkSl,hc2,cond_true,exO,crep_eq,cellsA_ex],fun A=>by simp[ex]⟩
       ·simp at h
      ·simp at h
     ·simp at h
    ·simp at h
   ·simp at h
  ·simp at h
 ·simp at h
theorem tConvA_s {X:Cx}{s d:TypeId}{x:AV} :SA (tConvAp X s d x) (tConvA X s d (ex x)):=by
 intro o mk h
 unfold tConvAp at h
 unfold tConvA
 split at h
 ·rename_i hd;simp only[hd]
  split at h
  ·rename_i h2;simp only[h2]
   split at h
   ·rename_i h3;simp only[h3]
    unfold cvSBp at h
    split at h
    ·rename_i l b
     rw[cond_eq_ite]at h
     split at h
     ·rename_i hc
      simp only[Option.some.injEq,Prod.mk.injEq]at h;obtain⟨rfl,rfl⟩:=h
      exact⟨trivial,fun A=> .slice A 0 l 1,by simp only[ex,cvSB,hc,cond_true,exO,exL_pk,exL_nil,List.append_nil],fun A=>by simp[ex]⟩
     ·simp at h
    ·simp at h
   ·simp at h
  ·simp at h
 ·simp at h
theorem tMkM_s {X:Cx}{t:TypeId} :SA (tMkM X t) (tMkM X t):=by
 intro o mk h
 rw[h]
 unfold tMkM at h
 split at h
 ·split at h
  ·simp only[mkM,Option.some.injEq,Prod.mk.injEq]at h;obtain⟨rfl,rfl⟩:=h
   exact⟨by intro e he;simp at he,fun A=> .map A,by simp[exO,exE],fun A=>by simp[ex]⟩
  ·simp at h
 ·simp at h
def isAgp (n:Nat)(v:AV):Bool:=match v with
 | .agg l=>Nat.beq (cwd l 0) n&&allCells l
 | _=>false
theorem isAgp_ok {n:Nat}{v:AV}(h:isAgp n v=true):isAg n (ex v)=true:=by
 unfold isAgp at h
 split at h
 ·rename_i l
  rw[Bool.and_eq_true]at h
  simp only[ex,isAg,lenL_ex,h.1,allCells_ex h.2,Bool.and_self]
 ·simp at h
def MS (mp m:List AV→AH→Option AH):Prop:= ∀vs H H' Hx,mp vs H=some H'→HR H Hx→ ∃Hx',m (exM vs) Hx=some Hx'∧HR H' Hx'
theorem ups_ex (e:List (AV×AV))(x:AV×AV):ups (exE e) (x.1,ex x.2)=exE (ups e x):=by
 unfold ups
 simp only[setA_ex]
 cases setA x.1 x.2 e<;>simp[exE]
theorem upsL_ex: ∀(l e:List (AV×AV)),upsL (exE e) (exE l)=exE (upsL e l)
 | [],e=>rfl
 | x::l,e=>by
  show upsL (ups (exE e) (x.1,ex x.2)) (exE l)=_
  rw[ups_ex,upsL_ex l];rfl
theorem ups_ok {P:AV→Prop}{e:List (AV×AV)}{x:AV×AV}(he: ∀y∈e,P y.1)(hx:P x.1): ∀y∈ups e x,P y.1:=by
 unfold ups
 split
 ·rename_i r hr;exact setA_ok hr he
 ·intro y hy
  rcases List.mem_append.1 hy with hy | hy
  ·exact he y hy
  ·simp only[List.mem_singleton]at hy;subst hy;exact hx
theorem upsL_ok {P:AV→Prop} : ∀(l e:List (AV×AV)),(∀y∈e,P y.1)→(∀y∈l,P y.1)→ ∀y∈upsL e l,P y.1
 | [],_,he,_=>he
 | x::l,e,he,hl=>upsL_ok l _ (ups_ok he (hl x (by simp))) (fun y hy=>hl y (by simp[hy]))
theorem freeN_s {H Hx:AH}(hR:HR H Hx): ∀(n A:Nat),freeN Hx.h A n=freeN H.h A n
 | 0,_=>rfl
 | n+1,A=>by
  simp only[freeN,hR.get,fN_eq,freeN_s hR n]
  cases H.h.get A<;>rfl
theorem upLp_s {H H' Hx:AH}(hR:HR H Hx){kk:List Nat}{nb:Nat}{okp ok:AV→Bool}{M A:Nat}(hk: ∀v,okp v=true→ok (ex v)=true)(h:upLp kk nb okp (.map M) (.map A) H=some H'):
  ∃Hx',upLp kk nb ok (.map M) (.map A) Hx=some Hx'∧HR H' Hx':=by
 unfold upLp at h
 simp only at h
 split at h
 ·rename_i ks es hM
  split at h
  ·rename_i ks' es' hA
   rw[cond_eq_ite]at h
   split at h
   ·rename_i hc
    simp only[Bool.and_eq_true,List.all_eq_true]at hc
    obtain⟨⟨⟨h1,h2⟩,h3⟩,h4⟩:=hc
    have hks:=eqNL_eq _ _ h2
    subst hks
    rw[fN_eq,cond_eq_ite]at h
    split at h
    ·rename_i hc2
     split at h
     ·rename_i H1 hp
      simp only[Option.some.injEq]at h;subst h
      obtain⟨Hx1,i1,i2⟩:=hR.put (o:= .map ks (upsL es' es)) (upsL_ok (P:=fun k=>keyOk ks k=true) es es' (hR.ok _ _ hA) (fun y hy=>(h4 y hy).1)) hp
      refine⟨⟨Hx1.h,H.next+1+nb*es.length⟩, ?_,rfl,i2.get,i2.ok⟩
      have e1:(exE es).all (fun e=>keyOk ks e.1&&ok e.2)=true:=by
       simp only[exE,List.all_eq_true,List.mem_map,Bool.and_eq_true]
       rintro _ ⟨y,hy,rfl⟩
       exact⟨(h4 y hy).1,hk _ (h4 y hy).2⟩
      have e2:(exE es).length=es.length:=by simp[exE]
      simp only[exO]at i1
      simp only[upLp,hR.at hM,hR.at hA,exO,h1,h2,h3,e1,Bool.and_self,cond_true,fN_eq,hR.next,e2,freeN_s hR,hc2,upsL_ex,i1]
     ·simp at h
    ·simp at h
   ·simp at h
  ·simp at h
 ·simp at h
end Go.Eng
end
section
namespace Go.Eng
abbrev FnT:=List AV→AH→Option (AV×AH)
def exX:Ex→Ex
 | .norm vs=> .norm (exM vs)
 | .exit i vs=> .exit i (exM vs)
 | .ret v=> .ret (ex v)
def SS (x y:Rs):Prop:= ∀e H,x=some (e,H)→ ∃Hx,y=some (exX e,Hx)∧HR H Hx
def ES (env envx:Env):Prop:= ∀t,envx t=(env t).map ex
def KS1 (K Kx:AV→AH→Rs):Prop:= ∀v H Hx,HR H Hx→SS (K v H) (Kx (ex v) Hx)
def KSE (K Kx:Env→AH→Rs):Prop:= ∀env envx H Hx,ES env envx→HR H Hx→SS (K env H) (Kx envx Hx)
def KSL (K Kx:List AV→AH→Rs):Prop:= ∀vs H Hx,HR H Hx→SS (K vs H) (Kx (exM vs) Hx)
def SimF (mp m:FnT):Prop:= ∀az H Hx,HR H Hx→SR (mp az H) (m (exM az) Hx)
def LS:List (Nat×FnT)→List (Nat×FnT)→Prop
 | [],[]=>True
 | (i,m)::S,(j,mx)::Sx=>i=j∧SimF m mx∧LS S Sx
 | _,_=>False
structure DS (D Dx:Dyn):Prop where
 fn: ∀g,SimF (D.fn g) (Dx.fn g)
 yld: ∀A az H Hx,HR H Hx→SR (D.yld A az H) (Dx.yld A (exM az) Hx)
theorem SS_none (y:Rs):SS none y:=fun _ _ h=>by simp at h
theorem SR_none (y:Option (AV×AH)):SR none y:=fun _ _ h=>by simp at h
theorem SS_some {e:Ex}{H Hx:AH}(hR:HR H Hx):SS (some (e,H)) (some (exX e,Hx)):=by
 intro e' H' h
 simp only[Option.some.injEq,Prod.mk.injEq]at h;obtain⟨rfl,rfl⟩:=h
 exact⟨Hx,rfl,hR⟩
theorem exM_append: ∀(a b:List AV),exM (a++b)=exM a++exM b
 | [],b=>by simp[exM]
 | x::a,b=>by simp only[List.cons_append,exM,exM_append a b]
theorem bV_s {x y:Option AV}{K Kx:AV→Rs}(h:SV x y)(hK: ∀v,SS (K v) (Kx (ex v))):SS (bV x K) (bV y Kx):=by
 cases x with
 | none=>exact SS_none _
 | some v=>rw[h v rfl];exact hK v
theorem bR_s {x y:Option (AV×AH)}{K Kx:AV→AH→Rs}(h:SR x y)(hK:KS1 K Kx):SS (bR x K) (bR y Kx):=by
 cases x with
 | none=>exact SS_none _
 | some r=>
  obtain⟨v,H⟩:=r
  obtain⟨Hx,h1,h2⟩:=h v H rfl
  rw[h1];exact hK v H Hx h2
theorem noPan_s {x y:Option (AV×AH)}(h:SR x y):SR (noPan x) (noPan y):=by
 intro v H hv
 obtain⟨h1,h2⟩:=noPan_some hv
 obtain⟨Hx,h3,h4⟩:=h v H h1
 refine⟨Hx, ?_,h4⟩
 rw[h3]
 cases v with
 | pan u=>exact absurd rfl (h2 u)
 | _=>simp only[ex,noPan]
theorem bC_s {x y:Option (AV×AH)}{Kp Kpx K Kx:AV→AH→Rs}(h:SR x y)(hP:KS1 Kp Kpx)(hK:KS1 K Kx):SS (bC x Kp K) (bC y Kpx Kx):=by
 cases x with
 | none=>exact SS_none _
 | some r=>
  obtain⟨v,H⟩:=r
  obtain⟨Hx,h1,h2⟩:=h v H rfl
  rw[h1]
  have hv:=hK v H Hx h2
  cases v with
  | pan u=>simp only[bC,ex];exact hP u H Hx h2
  | _=>simp only[ex]at hv;simp only[bC,ex];exact hv
theorem newB_s {H Hx:AH}(hR:HR H Hx){o:AObj}(ho:okO o){K Kx:Nat→AH→Rs}(hK: ∀A H Hx,HR H Hx→SS (K A H) (Kx A Hx)):SS (newB H o K) (newB Hx (exO o) Kx):=by
 unfold newB
 split
 ·rename_i hn
  split
  ·rename_i t ht
   obtain⟨tx,h1,h2⟩:=hR.set ho ht (Nat.succ H.next)
   rw[hR.next]
   simp only[hR.out hn,h1,fN_eq]
   exact hK _ _ _ h2
  ·exact SS_none _
 ·exact SS_none _
theorem bA_s {x y:Option (AObj×(Nat→AV))}{H Hx:AH}(hR:HR H Hx){K Kx:AV→AH→Rs}(h:SA x y)(hK:KS1 K Kx):SS (bA x H K) (bA y Hx Kx):=by
 cases x with
 | none=>exact SS_none _
 | some r=>
  obtain⟨o,mk⟩:=r
  obtain⟨ho,mx,h1,h2⟩:=h o mk rfl
  rw[h1]
  show SS (newB H o fun A H'=>K (mk A) H') (newB Hx (exO o) fun A H'=>Kx (mx A) H')
  exact newB_s hR ho (fun A H Hx hR=>by rw[h2];exact hK _ _ _ hR)
section
variable {env envx:Env}(hE:ES env envx)
include hE
theorem opd_s (x:Operand):SV (opdp env x) (opd envx x):=by
 intro v h
 cases x with
 | tmp t=>simp only[opdp,look]at h;simp only[opd,look];rw[hE t,h];rfl
 | const c=>exact mV_eq h
 | func f=>simp only[opdp,Option.some.injEq]at h;subst h;simp[opd,ex,exM]
 | global _=>simp[opdp]at h
theorem opds_s: ∀(xs:List Operand) (vs:List AV),opdsp env xs=some vs→opds envx xs=some (exM vs)
 | [],vs,h=>by simp only[opdsp,Option.some.injEq]at h;subst h;simp[opds,exM]
 | x::xs,vs,h=>by
  simp only[opdsp]at h
  split at h
  ·rename_i v vs' h1 h2
   simp only[Option.some.injEq]at h;subst h
   simp only[opds,opd_s hE x v h1,opds_s xs vs' h2,exM]
  ·simp at h
theorem parts_s: ∀(xs:List (Nat×Operand)) (vs:List (Nat×AV)),partsp env xs=some vs→partsA envx xs=some (exP vs)
 | [],vs,h=>by simp only[partsp,Option.some.injEq]at h;subst h;simp[partsA,exP]
 | (i,x)::xs,vs,h=>by
  simp only[partsp]at h
  split at h
  ·rename_i v vs' h1 h2
   simp only[Option.some.injEq]at h;subst h
   simp only[partsA,opd_s hE x v h1,parts_s xs vs' h2,exP,List.map_cons]
  ·simp at h
theorem optOf_s (x:Option Operand)(v:Option AV)(h:optOfp env x=some v):optOf envx x=some (v.map ex):=by
 cases x with
 | none=>simp only[optOfp,Option.some.injEq]at h;subst h;rfl
 | some x=>
  simp only[optOfp]at h
  split at h
  ·rename_i b hb
   simp only[Option.some.injEq]at h;subst h
   simp only[optOf,opd_s hE x b hb,Option.map_some]
  ·simp at h
end
theorem q1_v {x y:Option AV}(h:SV x y){f fx:AV→Option AV}(hf: ∀a r,f a=some r→fx (ex a)=some (ex r)):SV (q1 x f) (q1 y fx):=by
 intro v hv
 cases x with
 | none=>simp[q1]at hv
 | some a=>rw[h a rfl];exact hf a v hv
theorem q2_v {x y x' y':Option AV}(h:SV x x')(k:SV y y'){f fx:AV→AV→Option AV}(hf: ∀a b r,f a b=some r→fx (ex a) (ex b)=some (ex r)):SV (q2 x y f) (q2 x' y' fx):=by
 intro v hv
 cases x with
 | none=>simp[q2]at hv
 | some a=>
  cases y with
  | none=>simp[q2]at hv
  | some b=>rw[h a rfl,k b rfl];exact hf a b v hv
theorem q1_r {x y:Option AV}(h:SV x y){f fx:AV→Option (AV×AH)}(hf: ∀a,SR (f a) (fx (ex a))):SR (q1 x f) (q1 y fx):=by
 cases x with
 | none=>exact SR_none _
 | some a=>rw[h a rfl];exact hf a
theorem q2_r {x y x' y':Option AV}(h:SV x x')(k:SV y y'){f fx:AV→AV→Option (AV×AH)}(hf: ∀a b,SR (f a b) (fx (ex a) (ex b))):SR (q2 x y f) (q2 x' y' fx):=by
 cases x with
 | none=>exact SR_none _
 | some a=>
  cases y with
  | none=>exact SR_none _
  | some b=>rw[h a rfl,k b rfl];exact hf a b
theorem q3_r {x y z x' y' z':Option AV}(h:SV x x')(k:SV y y')(l:SV z z'){f fx:AV→AV→AV→Option (AV×AH)}(hf: ∀a b c,SR (f a b c) (fx (ex a) (ex b) (ex c))):SR (q3 x y z f) (q3 x' y' z' fx):=by
 cases x with
 | none=>exact SR_none _
 | some a=>
  cases y with
  | none=>exact SR_none _
  | some b=>
   cases z with
   | none=>exact SR_none _
   | some c=>rw[h a rfl,k b rfl,l c rfl];exact hf a b c
theorem SA_none (y:Option (AObj×(Nat→AV))):SA none y:=fun _ _ h=>by simp at h
theorem q1_a {x y:Option AV}(h:SV x y){f fx:AV→Option (AObj×(Nat→AV))}(hf: ∀a,SA (f a) (fx (ex a))):SA (q1 x f) (q1 y fx):=by
 cases x with
 | none=>exact SA_none _
 | some a=>rw[h a rfl];exact hf a
theorem q2_a {x y x' y':Option AV}(h:SV x x')(k:SV y y'){f fx:AV→AV→Option (AObj×(Nat→AV))}(hf: ∀a b,SA (f a b) (fx (ex a) (ex b))):SA (q2 x y f) (q2 x' y' fx):=by
 cases x with
 | none=>exact SA_none _
 | some a=>
  cases y with
  | none=>exact SA_none _
  | some b=>rw[h a rfl,k b rfl];exact hf a b
theorem callG_s {D Dx:Dyn}(hD:DS D Dx)(g:FuncId): ∀ {S Sx:List (Nat×FnT)},LS S Sx→SimF (callG S D g) (callG Sx Dx g)
 | [],[],_=>hD.fn g
 | [],_::_,h=>by simp[LS]at h
 | _::_,[],h=>by simp[LS]at h
 | (i,m)::S,(j,mx)::Sx,h=>by
  obtain⟨rfl,h1,h2⟩:=h
  intro az H Hx hR
  simp only[callG,cond_eq_ite]
  split
  ·exact h1 az H Hx hR
  ·exact callG_s hD g h2 az H Hx hR
theorem callV_s {D Dx:Dyn}(hD:DS D Dx){S Sx:List (Nat×FnT)}(hS:LS S Sx)(f:AV)(az:List AV){H Hx:AH}(hR:HR H Hx):SR (callV S D f az H) (callV Sx Dx (ex f) (exM az) Hx):=by
 unfold callV
 split
 ·rename_i g first cap
  simp only[ex]
  rw[← exM_append, ← exM_append]
  exact callG_s hD g hS _ _ _ hR
 ·rename_i A
  simp only[ex]
  exact hD.yld A az H Hx hR
 ·exact SR_none _
section
variable {X:Cx}{S Sx:List (Nat×FnT)}{D Dx:Dyn}(hD:DS D Dx)(hS:LS S Sx)
include hD hS
theorem callO_s {env envx:Env}(hE:ES env envx){H Hx:AH}(hR:HR H Hx)(f:Operand)(args:List Operand):SR (callOp ⟨X,S⟩ D env H f args) (callO ⟨X,Sx⟩ Dx envx Hx f args):=by
 unfold callOp callO
 split
 ·rename_i az h1
  rw[opds_s hE _ _ h1]
  simp only
  split
  ·rename_i v h2
   rw[opd_s hE _ _ h2]
   exact noPan_s (callV_s hD hS v az hR)
  ·exact SR_none _
 ·exact SR_none _
theorem callQ_s {env envx:Env}(hE:ES env envx){H Hx:AH}(hR:HR H Hx)(f:Operand)(args:List Operand):SR (callQp ⟨X,S⟩ D env H f args) (callQ ⟨X,Sx⟩ Dx envx Hx f args):=by
 unfold callQp callQ
 split
 ·rename_i az h1
  rw[opds_s hE _ _ h1]
  simp only
  split
  ·rename_i v h2
   rw[opd_s hE _ _ h2]
   exact callV_s hD hS v az hR
  ·exact SR_none _
 ·exact SR_none _
omit hD hS in
theorem tMkR_s {t:TypeId}(a:AV):SA (tMkR X t a) (tMkR X t (ex a)):=by
 cases a with
 | int k n=>exact tMkM_s
 | _=>
  intro o mk h
  unfold tMkR at h
  split at h
  ·split at h<;>simp[mkR]at h
  ·simp at h
theorem opK_s {env envx:Env}(hE:ES env envx){H Hx:AH}(hR:HR H Hx){K Kx:AV→AH→Rs}(hK:KS1 K Kx)(op:Op):SS (opKp ⟨X,S⟩ D env H K op) (opK ⟨X,Sx⟩ Dx envx Hx Kx op):=by
 have hV: ∀v,SS (K v H) (Kx (ex v) Hx):=fun v=>hK v H Hx hR
 unfold opKp
 split
 ·rename_i x
  simp only[opK]
  split
  ·rename_i v hv;rw[opd_s hE _ _ hv];exact hV v
  ·exact SS_none _
 ·rename_i x
  simp only[opK]
  split
  ·rename_i v hv;rw[opd_s hE _ _ hv];exact hV v
  ·exact SS_none _
 ·simp only[opK];exact bV_s (pk3_s (opd_s hE _) (opd_s hE _) (opd_s hE _)) hV
 ·simp only[opK];exact bV_s (tBuild_s (parts_s hE _)) hV
 ·simp only[opK];exact bV_s (q1_v (opd_s hE _) (fun _ _=>pNil_s)) hV
 ·simp only[opK,cond_eq_ite]
  split
  ·exact bV_s (q2_v (opd_s hE _) (opd_s hE _) (fun _ _ _=>tBinL_s hR)) hV
  ·exact bV_s (q2_v (opd_s hE _) (opd_s hE _) (fun _ _ _=>tBin_s)) hV
 ·simp only[opK];exact bV_s (q1_v (opd_s hE _) (fun _ _=>aun_s)) hV
 ·simp only[opK]
  split
  ·rename_i a ha
   rw[opds_s hE _ _ ha]
   simp only
   split
   ·rename_i b hb
    rw[opds_s hE _ _ hb]
    have e1: ∀f,AV.func f (exM a) (exM b)=ex (.func f a b):=fun f=>by simp only[ex]
    simp only[e1]
    exact hV _
   ·exact SS_none _
  ·exact SS_none _
 ·simp only[opK];exact bV_s (q1_v (opd_s hE _) (fun _ _=>tFieldAddr_s)) hV
 ·simp only[opK];exact bV_s (q1_v (opd_s hE _) (fun _ _=>tField_s)) hV
 ·simp only[opK];exact bV_s (q2_v (opd_s hE _) (opd_s hE _) (fun _ _ _=>tIxAddr_s)) hV
 ·simp only[opK];exact bV_s (q2_v (opd_s hE _) (opd_s hE _) (fun _ _ _=>tIndex_s)) hV
 ·simp only[opK];exact bV_s (q1_v (opd_s hE _) (fun _ _=>tArr_s)) hV
 ·simp only[opK];exact bV_s (q1_v (opd_s hE _) (fun _ _=>pExtract_s)) hV
 ·simp only[opK];exact bV_s (q1_v (opd_s hE _) (fun _ _=>tLoad_s hR)) hV
 ·simp only[opK]
  split
  ·rename_i lo hi mx h1 h2 h3
   rw[optOf_s hE _ _ h1,optOf_s hE _ _ h2,optOf_s hE _ _ h3]
   exact bV_s (q1_v (opd_s hE _) (fun _ _=>tSlice_s hR)) hV
  ·exact SS_none _
 ·simp only[opK]
  split
  ·rename_i hc;simp only[hc];exact bV_s (q1_v (opd_s hE _) (fun _ _=>tConvP_s)) hV
  ·rename_i hc;simp only[hc];exact bV_s (q1_v (opd_s hE _) (fun _ _=>tConvL_s hR)) hV
  ·rename_i hc;simp only[hc];exact bA_s hR (q1_a (opd_s hE _) (fun _=>tConvA_s)) hK
  ·exact SS_none _
 ·simp only[opK]
  split
  ·rename_i z hz
   rw[zeroP_eq hz]
   exact bA_s hR bxV_s hK
  ·exact SS_none _
 ·simp only[opK];exact bA_s hR (q1_a (opd_s hE _) (fun _=>bxV_s)) hK
 ·simp only[opK];exact bA_s hR (tBuildL_s (parts_s hE _)) hK
 ·simp only[opK];exact bA_s hR (q2_a (opd_s hE _) (opd_s hE _) (fun _ _=>tMake_s)) hK
 ·simp only[opK];exact bV_s (q2_v (opd_s hE _) (opd_s hE _) (fun _ _ _=>tLk_s hR)) hV
 ·simp only[opK];exact bA_s hR tMkM_s hK
 ·simp only[opK]
  refine bA_s hR (q1_a (opd_s hE _) (fun a=> ?_)) hK
  exact tMkR_s a
 ·simp only[opK];exact bR_s (q3_r (opd_s hE _) (opd_s hE _) (opd_s hE _) (fun _ _ _=>tUp_s hR)) hK
 ·simp only[opK];exact bR_s (q3_r (opd_s hE _) (opd_s hE _) (opd_s hE _) (fun _ _ _=>tUp_s hR)) hK
 ·simp only[opK];exact bR_s (q2_r (opd_s hE _) (opd_s hE _) (fun _ _=>tStore_s hR)) hK
 ·rename_i c
  simp only[opK]
  split
  ·rename_i hc;simp only[hc]
   exact bR_s (callO_s hD hS hE hR _ _) hK
  ·rename_i hc;simp only[hc]
   split
   ·rename_i e1 e2;simp only[e1,e2]
    exact bV_s (q1_v (opd_s hE _) (fun _ _=>tLen_s hR)) hV
   ·exact SS_none _
  ·rename_i hc;simp only[hc]
   split
   ·rename_i e1 e2;simp only[e1,e2]
    exact bV_s (q1_v (opd_s hE _) (fun _ _=>acap_s)) hV
   ·exact SS_none _
  ·rename_i hc;simp only[hc]
   split
   ·rename_i e1 e2;simp only[e1,e2]
    exact bR_s (q2_r (opd_s hE _) (opd_s hE _) (fun _ _=>tApp_s hR)) hK
   ·exact SS_none _
  ·rename_i hc;simp only[hc]
   split
   ·rename_i e1 e2;simp only[e1,e2]
    exact bR_s (q2_r (opd_s hE _) (opd_s hE _) (fun _ _=>tCopy_s hR)) hK
   ·exact SS_none _
  ·rename_i hc;simp only[hc]
   split
   ·rename_i e1;simp only[e1]
    exact bV_s (q2_v (opd_s hE _) (opd_s hE _) (fun _ _ _=>mn2_s)) hV
   ·exact SS_none _
  ·rename_i hc;simp only[hc]
   split
   ·rename_i e1;simp only[e1]
    exact bV_s (q2_v (opd_s hE _) (opd_s hE _) (fun _ _ _=>mx2_s)) hV
   ·exact SS_none _
  ·rename_i hc;simp only[hc]
   split
   ·rename_i e1 e2;simp only[e1,e2]
    exact bR_s (q2_r (opd_s hE _) (opd_s hE _) (fun _ _=>tDl_s hR)) hK
   ·exact SS_none _
  ·rename_i hc;simp only[hc]
   split
   ·rename_i e1 e2;simp only[e1,e2]
    exact bR_s (q1_r (opd_s hE _) (fun _=>acl_s hR)) hK
   ·exact SS_none _
  ·exact SS_none _
 ·exact SS_none _
end
end Go.Eng
end
section
namespace Go.Eng
mutual
theorem aveq_refl: ∀(x:AV),aveq x x=true
 | .bool b=>by cases b<;>simp[aveq]
 | .int k n=>by simp[aveq,keq_eq,ieq_eq]
 | .str _ _=>by simp[aveq]
 | .nilPtr=>by simp[aveq]
 | .ptr _ _=>by simp[aveq]
 | .nilSlice=>by simp[aveq]
 | .slice _ _ _ _=>by simp[aveq]
 | .emptySl=>by simp[aveq]
 | .nilMap=>by simp[aveq]
 | .map _=>by simp[aveq]
 | .func _ a b=>by simp[aveq,aveqL_refl a,aveqL_refl b]
 | .yieldTo _=>by simp[aveq]
 | .nilFunc=>by simp[aveq]
 | .iface _ x=>by simp[aveq,aveq_refl x]
 | .nilIface=>by simp[aveq]
 | .agg a=>by simp[aveq,aveqL_refl a]
 | .tuple a=>by simp[aveq,aveqL_refl a]
 | .pk _ _=>by simp[aveq]
 | .pan x=>by simp[aveq,aveq_refl x]
theorem aveqL_refl: ∀(l:List AV),aveqL l l=true
 | []=>by simp[aveqL]
 | x::l=>by simp[aveqL,aveq_refl x,aveqL_refl l]
end
theorem jn_s {x y:Rs}{K Kx:List AV→AH→Rs}(h:SS x y)(hK:KSL K Kx):SS (jn x K) (jn y Kx):=by
 cases x with
 | none=>exact SS_none _
 | some r=>
  obtain⟨e,H⟩:=r
  obtain⟨Hx,h1,h2⟩:=h e H rfl
  rw[h1]
  cases e with
  | norm vs=>exact hK vs H Hx h2
  | exit i vs=>exact SS_some h2
  | ret v=>exact SS_some h2
theorem jb_s {id:Nat}{x y:Rs}{K Kx:List AV→AH→Rs}(h:SS x y)(hK:KSL K Kx):SS (jb id x K) (jb id y Kx):=by
 cases x with
 | none=>exact SS_none _
 | some r=>
  obtain⟨e,H⟩:=r
  obtain⟨Hx,h1,h2⟩:=h e H rfl
  rw[h1]
  cases e with
  | norm vs=>exact hK vs H Hx h2
  | exit i vs=>
   simp only[jb,exX,cond_eq_ite]
   split
   ·exact hK vs H Hx h2
   ·exact SS_some h2
  | ret v=>exact SS_some h2
theorem loopK_s {b bx:List AV→AH→Rs}(hb:KSL b bx): ∀n,KSL (loopK n b) (loopK n bx)
 | 0=>fun _ _ _ _=>SS_none _
 | n+1=>fun vs H Hx hR=>jn_s (hb vs H Hx hR) (loopK_s hb n)
theorem cnd_s {c:AV}{a b a' b':Rs}(ha:SS a a')(hb:SS b b'):SS (cnd c a b) (cnd (ex c) a' b'):=by
 unfold cnd
 split
 ·simp only[ex];exact ha
 ·simp only[ex];exact hb
 ·exact SS_none _
theorem isW_ex (x:AV)(w:Bool):isW (ex x) w=isW x w:=by cases x<;>simp[ex,isW]
theorem wnt_s {c:AV}{w:Bool}{a b a' b':Rs}(ha:SS a a')(hb:SS b b'):SS (wnt c w a b) (wnt (ex c) w a' b'):=by
 simp only[wnt,isW_ex,cond_eq_ite]
 split
 ·exact ha
 ·exact hb
theorem chk_s {x y:Option AV}{v:AV}{K Kx:Rs}(h:SV x y)(hK:SS K Kx):SS (chk x v K) (chk y (ex v) Kx):=by
 cases x with
 | none=>exact SS_none _
 | some u=>
  rw[h u rfl]
  simp only[chk,cond_eq_ite]
  split
  ·rename_i e
   have:=aveq_eq _ _ e
   subst this
   rw[if_pos (aveq_refl _)];exact hK
  ·exact SS_none _
theorem hd_s {vs:List AV}{K Kx:AV→List AV→Rs}(hK: ∀v l,SS (K v l) (Kx (ex v) (exM l))):SS (hd vs K) (hd (exM vs) Kx):=by
 cases vs with
 | nil=>exact SS_none _
 | cons v l=>exact hK v l
theorem nl_s {vs:List AV}{K Kx:Rs}(hK:SS K Kx):SS (nl vs K) (nl (exM vs) Kx):=by
 cases vs with
 | nil=>exact hK
 | cons v l=>exact SS_none _
theorem ES_0:ES env0 env0:=fun _=>rfl
theorem ES.upd {env envx:Env}(h:ES env envx)(d:Nat)(v:AV):ES (upd env d v) (upd envx d (ex v)):=by
 intro t
 simp only[upd_at]
 split
 ·rfl
 ·exact h t
theorem ES.drop {env envx:Env}(h:ES env envx): ∀L,ES (dropE L env) (dropE L envx)
 | []=>h
 | l::L=>by
  intro t
  simp only[dropE,cond_eq_ite]
  split
  ·rfl
  ·exact ES.drop h L t
theorem pck_s {env envx:Env}(hE:ES env envx): ∀(L:List Nat) {K Kx:List AV→Rs},(∀vs,SS (K vs) (Kx (exM vs)))→SS (pck L env K) (pck L envx Kx)
 | [],K,Kx,hK=>by have:=hK [];simp only[exM]at this;exact this
 | l::L,K,Kx,hK=>by
  simp only[pck]
  rw[hE l]
  cases env l with
  | none=>exact SS_none _
  | some v=>exact pck_s hE L (fun vs=>by have:=hK (v::vs);simp only[exM]at this;exact this)
theorem unp_s {K Kx:Env→Rs}(hK: ∀e e',ES e e'→SS (K e) (Kx e')): ∀(L:List Nat) (vs:List AV) {env envx:Env},ES env envx→SS (unp L vs env K) (unp L (exM vs) envx Kx)
 | [],_,_,_,hE=>hK _ _ hE
 | l::L,vs,_,_,hE=>hd_s fun v vs=>unp_s hK L vs (hE.upd l v)
theorem unpA_s {K Kx:Env→Rs}(hK: ∀e e',ES e e'→SS (K e) (Kx e')): ∀(k i:Nat) (vs:List AV) {env envx:Env},ES env envx→SS (unpA k i vs env K) (unpA k i (exM vs) envx Kx)
 | 0,_,_,_,_,hE=>nl_s (hK _ _ hE)
 | k+1,i,vs,_,_,hE=>hd_s fun v vs=>unpA_s hK k (i+1) vs (hE.upd i v)
theorem unpP_s {nt:Nat}{K Kx:Env→Rs}(hK: ∀e e',ES e e'→SS (K e) (Kx e')): ∀(ps:List Nat) (vs:List AV) {env envx:Env},ES env envx→SS (unpP nt ps vs env K) (unpP nt ps (exM vs) envx Kx)
 | [],_,_,_,hE=>nl_s (hK _ _ hE)
 | p::ps,vs,_,_,hE=>hd_s fun v vs=>by
  simp only[cond_eq_ite]
  split
  ·exact unpP_s hK ps vs (hE.upd p v)
  ·exact SS_none _
theorem setE_s {nt:Nat}{env envx:Env}(hE:ES env envx)(d:Option Tmp)(v:AV){K Kx:Env→Rs}(hK: ∀e e',ES e e'→SS (K e) (Kx e')):SS (setE nt env d v K) (setE nt envx d (ex v) Kx):=by
 cases d with
 | none=>exact hK _ _ hE
 | some d=>
  simp only[setE,cond_eq_ite]
  split
  ·exact hK _ _ (hE.upd d v)
  ·exact SS_none _
def SeenS (s sx:Seen):Prop:=sx.i=s.i∧sx.v=ex s.v∧ ∀H Hx,HR H Hx→SV (s.rd H) (sx.rd Hx)
def SLs:List Seen→List Seen→Prop
 | [],[]=>True
 | s::l,sx::lx=>SeenS s sx∧SLs l lx
 | _,_=>False
theorem SLs.snoc: ∀ {l lx:List Seen},SLs l lx→ ∀ {s sx:Seen},SeenS s sx→SLs (l++[s]) (lx++[sx])
 | [],[],_,_,_,hs=>⟨hs,trivial⟩
 | [],_::_,h,_,_,_=>by simp[SLs]at h
 | _::_,[],h,_,_,_=>by simp[SLs]at h
 | _::_,_::_,h,_,_,hs=>⟨h.1,SLs.snoc h.2 hs⟩
theorem chks_s {mask:Nat}{H Hx:AH}(hR:HR H Hx){K Kx:Rs}(hK:SS K Kx): ∀ {l lx:List Seen},SLs l lx→SS (chks mask H K l) (chks mask Hx Kx lx)
 | [],[],_=>hK
 | [],_::_,h=>by simp[SLs]at h
 | _::_,[],h=>by simp[SLs]at h
 | s::l,sx::lx,h=>by
  obtain⟨⟨h1,h2,h3⟩,h4⟩:=h
  simp only[chks,cond_eq_ite,h1,h2]
  split
  ·exact chks_s hR hK h4
  ·exact chk_s (h3 H Hx hR) (chks_s hR hK h4)
def KS3 (K Kx:List Seen→Env→AH→Rs):Prop:= ∀sn snx env envx H Hx,SLs sn snx→ES env envx→HR H Hx→SS (K sn env H) (Kx snx envx Hx)
section
variable {X:Cx}{S Sx:List (Nat×FnT)}{D Dx:Dyn}(hD:DS D Dx)(hS:LS S Sx)
theorem rdOf_s {env envx:Env}(hE:ES env envx)(o:Op){H Hx:AH}(hR:HR H Hx):SV (rdOfp ⟨X,S⟩ env o H) (rdOf ⟨X,Sx⟩ envx o Hx):=by
 unfold rdOfp
 split
 ·simp only[rdOf];exact q1_v (opd_s hE _) (fun _ _=>tLoad_s hR)
 ·simp only[rdOf];exact q2_v (opd_s hE _) (opd_s hE _) (fun _ _ _=>tLk_s hR)
 ·simp only[rdOf]
  split
  ·rename_i lo hi mx h1 h2 h3
   rw[optOf_s hE _ _ h1,optOf_s hE _ _ h2,optOf_s hE _ _ h3]
   exact q1_v (opd_s hE _) (fun _ _=>tSlice_s hR)
  ·intro v h;simp at h
 ·simp only[rdOf];exact q1_v (opd_s hE _) (fun _ _=>tConvL_s hR)
 ·simp only[rdOf];exact q2_v (opd_s hE _) (opd_s hE _) (fun _ _ _=>tBinL_s hR)
 ·rename_i c
  simp only[rdOf]
  split
  ·rename_i e1 e2;simp only[e1,e2];exact q1_v (opd_s hE _) (fun _ _=>tLen_s hR)
  ·intro v h;simp at h
 ·intro v h;simp at h
theorem seenK_s {ms:List Nat}{env envx:Env}(hE:ES env envx){sn snx:List Seen}(hs:SLs sn snx)(i:Nat)(o:Op)(v:AV){H Hx:AH}(hR:HR H Hx){K Kx:List Seen→Rs}(hK: ∀s sx,SLs s sx→SS (K s) (Kx sx)):
  SS (seenKp ⟨X,S⟩ ms env sn i o v H K) (seenK ⟨X,Sx⟩ ms envx snx i o (ex v) Hx Kx):=by
 simp only[seenKp,seenK,cond_eq_ite]
 split
 ·exact chks_s hR (hK _ _ hs) hs
 ·split
  ·exact hK _ _ (hs.snoc ⟨rfl,rfl,fun H Hx hR=>rdOf_s hE o hR⟩)
  ·exact hK _ _ hs
include hD hS
theorem rowK_s {nt:Nat}{masks:Option (List Nat)}{K Kx:List Seen→Env→AH→Rs}(hK:KS3 K Kx): ∀(row:List (Nat×Oper)),KS3 (rowKp ⟨X,S⟩ D nt masks K row) (rowK ⟨X,Sx⟩ Dx nt masks Kx row)
 | []=>hK
 | (i,o)::rest=>by
  intro sn snx env envx H Hx hs hE hR
  simp only[rowKp,rowK]
  refine opK_s hD hS hE hR ?_ o.op
  intro v H' Hx' hR'
  cases masks with
  | none=>exact setE_s hE o.dst v fun e e' hE'=>rowK_s hK rest _ _ _ _ _ _ hs hE' hR'
  | some ms=>exact seenK_s hE hs i o.op v hR' fun s sx hs'=>setE_s hE o.dst v fun e e' hE'=>rowK_s hK rest _ _ _ _ _ _ hs' hE' hR'
omit hD hS in
theorem ifNil_s {op:BinOp}(a:AV):SV (ifNil op a) (ifNil op (ex a)):=by
 have key: ∀b v,cmpO op (some b)=some v→cmpO op (some b)=some (ex v):=by
  intro b v h
  rcases cmpO_two h with⟨_,rfl⟩ | ⟨_,rfl⟩<;>simpa[ex]using h
 cases a<;>first
  | (intro v h;simp[ifNil]at h;done)
  | (intro v h;simp only[ifNil,ex]at h⊢;exact key _ _ h)
omit hD hS in
theorem mkIf_s {X:Cx}{t:TypeId}(a:AV):SV (mkIf X t a) (mkIf X t (ex a)):=by
 intro v h
 unfold mkIf at h⊢
 rw[cond_eq_ite]at h⊢
 split at h
 ·rename_i hc
  injection h with h;subst h
  rw[if_pos hc];simp[ex]
 ·simp at h
omit hD hS in
theorem tAsr_s {X:Cx}{t:TypeId}{z zx:Option AV}(hz:SV z zx)(a:AV):SV (tAsr X t z a) (tAsr X t zx (ex a)):=by
 intro v h
 unfold tAsr at h
 split at h
 ·rename_i z0
  rw[hz z0 rfl]
  rw[cond_eq_ite]at h
  split at h
  ·rename_i hc
   unfold asrK at h
   split at h
   ·injection h with h;subst h
    simp[tAsr,asrK,ex,exM,hc]
   ·rename_i u v0
    rw[cond_eq_ite]at h
    split at h
    ·rename_i hu
     injection h with h;subst h
     simp[tAsr,asrK,ex,exM,hc,hu]
    ·rename_i hu
     injection h with h;subst h
     simp[tAsr,asrK,ex,exM,hc,hu]
   ·simp at h
  ·simp at h
 ·simp at h
omit hD hS in
theorem pnK_s {x y:Option AV}(h:SV x y){H Hx:AH}(hR:HR H Hx){Kp Kpx:AV→AH→Rs}(hP:KS1 Kp Kpx):SS (pnK x H Kp) (pnK y Hx Kpx):=by
 unfold pnK
 split
 ·rename_i v
  rw[h v rfl]
  cases v with
  | iface t u=>
   have:=hP (.iface t u) H Hx hR
   simp only[ex]at this⊢
   exact this
  | _=>exact SS_none _
 ·exact SS_none _
theorem popK_s {env envx:Env}(hE:ES env envx){H Hx:AH}(hR:HR H Hx){Kp Kpx K Kx:AV→AH→Rs}(hP:KS1 Kp Kpx)(hK:KS1 K Kx)(op:Op):SS (popKp ⟨X,S⟩ D env H Kp K op) (popK ⟨X,Sx⟩ Dx envx Hx Kpx Kx op):=by
 have hV: ∀v,SS (K v H) (Kx (ex v) Hx):=fun v=>hK v H Hx hR
 unfold popKp
 split
 ·rename_i c
  obtain⟨callee,args,types⟩:=c
  cases callee with
  | value f=>simp only[popK];exact bC_s (callQ_s hD hS hE hR f _) hP hK
  | _=>simp only[popK];exact opK_s hD hS hE hR hK _
 ·simp only[popK,cond_eq_ite]
  split
  ·split
   ·exact bV_s (q1_v (opd_s hE _) (fun a=>ifNil_s a)) hV
   ·exact SS_none _
  ·exact opK_s hD hS hE hR hK _
 ·simp only[popK];exact bV_s (q1_v (opd_s hE _) (fun a=>mkIf_s a)) hV
 ·simp only[popK];exact bV_s (q1_v (opd_s hE _) (fun a=>tAsr_s (fun z hz=>zeroP_eq hz) a)) hV
 ·simp only[popK];exact pnK_s (opd_s hE _) hR hP
 ·rename_i h1 h2 h3 h4 h5
  have:popK ⟨X,Sx⟩ Dx envx Hx Kpx Kx op=opK ⟨X,Sx⟩ Dx envx Hx Kx op:=by
   unfold popK;split
   ·exact absurd rfl (h1 _)
   ·exact absurd rfl (h2 _ _ _ _ _)
   ·exact absurd rfl (h3 _ _)
   ·exact absurd rfl (h4 _ _ _)
   ·exact absurd rfl (h5 _)
   ·rfl
  rw[this];exact opK_s hD hS hE hR hK _
def KSP (K Kx:AV→Env→AH→Rs):Prop:= ∀x env envx H Hx,ES env envx→HR H Hx→SS (K x env H) (Kx (ex x) envx Hx)
theorem prowK_s {nt:Nat}{Kp Kpx:AV→Env→AH→Rs}{K Kx:Env→AH→Rs}(hP:KSP Kp Kpx)(hK:KSE K Kx): ∀(row:List Oper),KSE (prowKp ⟨X,S⟩ D nt Kp K row) (prowK ⟨X,Sx⟩ Dx nt Kpx Kx row)
 | []=>hK
 | o::row=>by
  intro env envx H Hx hE hR
  simp only[prowKp,prowK]
  cases hg:o.guard with
  | none=>
   have h1:KS1 (fun v H'=>setE nt env o.dst v fun env'=>prowKp ⟨X,S⟩ D nt Kp K row env' H') (fun v H'=>setE nt envx o.dst v fun env'=>prowK ⟨X,Sx⟩ Dx nt Kpx Kx row env' H'):=fun v H Hx hR=>setE_s hE _ v fun e e' hE=>prowK_s hP hK row _ _ _ _ hE hR
   have h2:KS1 (fun x H'=>Kp x env H') (fun x H'=>Kpx x envx H'):=fun x H Hx hR=>hP x _ _ _ _ hE hR
   exact popK_s hD hS hE hR h2 h1 _
  | some _=>exact SS_none _
omit hD hS in
theorem pan0_s:KSP pan0 pan0:=fun x env envx H Hx _ hR=>by
 have:=SS_some (e:= .ret (.pan x)) hR
 simp only[exX,ex]at this
 exact this
omit hD hS in
theorem skipK_s {masks:Option (List Nat)}{sn snx:List Seen}(hs:SLs sn snx){H Hx:AH}(hR:HR H Hx){K Kx:Rs}(hK:SS K Kx): ∀(run:List (Nat×Oper)),SS (skipK X masks sn H K run) (skipK X masks snx Hx Kx run)
 | []=>hK
 | b::run=>by
  simp only[skipK]
  cases masks with
  | none=>exact skipK_s hs hR hK run
  | some ms=>
   simp only[cond_eq_ite]
   split
   ·exact chks_s hR (skipK_s hs hR hK run) hs
   ·exact skipK_s hs hR hK run
omit hD hS in
theorem exM_undef (out:List Nat):exM (out.map fun _=>undefA)=out.map fun _=>undefA:=by
 induction out with
 | nil=>simp[exM]
 | cons a l ih=>simp only[List.map_cons,exM,ih,ex_undef]
theorem runK_s {nt:Nat}{ops:Array Oper}{masks:Option (List Nat)}{g:AV}{want:Bool}{run:List (Nat×Oper)}{out:List Nat}{sn snx:List Seen}(hs:SLs sn snx){env envx:Env}(hE:ES env envx){H Hx:AH}(hR:HR H Hx){K Kx:Env→AH→Rs}(hK:KSE K Kx):
  SS (runKp ⟨X,S⟩ D nt ops masks g want run out sn env H K) (Eng.runK ⟨X,Sx⟩ Dx nt ops masks (ex g) want run out snx envx Hx Kx):=by
 unfold runKp Eng.runK
 refine jn_s (wnt_s (rowK_s hD hS ?_ run _ _ _ _ _ _ hs hE hR) ?_) ?_
 ·intro _ _ e e' H Hx _ hE hR
  exact pck_s hE out fun vs=>SS_some hR
 ·refine skipK_s hs hR ?_ run
  have:=SS_some (e:= .norm (out.map fun _=>undefA)) hR
  simp only[exX,exM_undef]at this
  exact this
 ·intro vs H Hx hR
  exact unp_s (fun e e' hE=>hK _ _ _ _ hE hR) out vs (hE.drop _)
theorem runW_s {nt:Nat}{masks:Option (List Nat)}{g:AV}{want:Bool}{run:List (Nat×Oper)}{out:List Nat}{sn snx:List Seen}(hs:SLs sn snx){env envx:Env}(hE:ES env envx){H Hx:AH}(hR:HR H Hx){K Kx:List Seen→Env→AH→Rs}(hK:KS3 K Kx):
  SS (runWp ⟨X,S⟩ D nt masks g want run out sn env H K) (runW ⟨X,Sx⟩ Dx nt masks (ex g) want run out snx envx Hx Kx):=by
 unfold runWp runW
 refine wnt_s (rowK_s hD hS hK run _ _ _ _ _ _ hs hE hR) (skipK_s hs hR ?_ run)
 have:=unp_s (K:=fun env=>K sn env H) (Kx:=fun env=>Kx snx env Hx) (fun e e' hE=>hK _ _ _ _ _ _ hs hE hR) out (out.map fun _=>undefA) (hE.drop (dstsOf run))
 rw[exM_undef]at this
 exact this
omit hD hS in
theorem guardV_s {env envx:Env}(hE:ES env envx)(ops:Array Oper)(j:Nat):SV (guardV ops env j) (guardV ops envx j):=by
 intro v h
 unfold guardV at h⊢
 split at h
 ·rename_i p hp
  try simp only[hp]
  split at h
  ·rename_i d hd
   try simp only[hd]
   simp only[look]at h⊢
   rw[hE,h];rfl
  ·simp at h
 ·simp at h
theorem opsK_s {nt:Nat}{ops:Array Oper}{masks:Option (List Nat)}{K Kx:Env→AH→Rs}(hK:KSE K Kx): ∀(fuel:Nat) (l:List (Nat×Oper)),KS3 (opsKp ⟨X,S⟩ D nt ops masks fuel K l) (opsK ⟨X,Sx⟩ Dx nt ops masks fuel Kx l)
 | 0,_=>fun _ _ _ _ _ _ _ _ _=>SS_none _
 | fuel+1,[]=>fun _ _ _ _ _ _ _ hE hR=>hK _ _ _ _ hE hR
 | fuel+1,(i,o)::rest=>by
  intro sn snx env envx H Hx hs hE hR
  have ih:=opsK_s (nt:=nt) (ops:=ops) (masks:=masks) hK fuel
  show SS (match o.guard with
    | none=>rowKp ⟨X,S⟩ D nt masks (fun sn env H=>opsKp ⟨X,S⟩ D nt ops masks fuel K rest sn env H) [(i,o)] sn env H
    | some (j,want)=>match guardV ops env j with
     | none=>none
     | some g=>match spanG o.guard rest with
      | (run,rest)=>bif freeG nt ops j ((i,o)::run)then
        bif runOk X masks ((i,o)::run) rest then
         runKp ⟨X,S⟩ D nt ops masks g want ((i,o)::run) (outOf ops ((i,o)::run) rest) sn env H fun env H=>opsKp ⟨X,S⟩ D nt ops masks fuel K rest sn env H
        else runWp ⟨X,S⟩ D nt masks g want ((i,o)::run) (outOf ops ((i,o)::run) rest) sn env H fun sn env H=>opsKp ⟨X,S⟩ D nt ops masks fuel K rest sn env H
       else none)
   (match o.guard with
    | none=>rowK ⟨X,Sx⟩ Dx nt masks (fun sn env H=>opsK ⟨X,Sx⟩ Dx nt ops masks fuel Kx rest sn env H) [(i,o)] snx envx Hx
    | some (j,want)=>match guardV ops envx j with
     | none=>none
     | some g=>match spanG o.guard rest with
      | (run,rest)=>bif freeG nt ops j ((i,o)::run)then
        bif runOk X masks ((i,o)::run) rest then
         Eng.runK ⟨X,Sx⟩ Dx nt ops masks g want ((i,o)::run) (outOf ops ((i,o)::run) rest) snx envx Hx fun env H=>opsK ⟨X,Sx⟩ Dx nt ops masks fuel Kx rest snx env H
        else runW ⟨X,Sx⟩ Dx nt masks g want ((i,o)::run) (outOf ops ((i,o)::run) rest) snx envx Hx fun sn env H=>opsK ⟨X,Sx⟩ Dx nt ops masks fuel Kx rest sn env H
       else none)
  cases o.guard with
  | none=>exact rowK_s hD hS (ih rest) [(i,o)] _ _ _ _ _ _ hs hE hR
  | some jw=>
   obtain⟨j,want⟩:=jw
   simp only
   cases hg:guardV ops env j with
   | none=>exact SS_none _
   | some g=>
    rw[guardV_s hE ops j g hg]
    simp only[cond_eq_ite]
    split
    ·split
     ·exact runK_s hD hS hs hE hR (fun e e' H Hx hE hR=>ih _ _ _ _ _ _ _ hs hE hR)
     ·exact runW_s hD hS hs hE hR (fun sn snx e e' H Hx hs hE hR=>ih _ _ _ _ _ _ _ hs hE hR)
    ·exact SS_none _
theorem regK_s {nt:Nat}{ops:Array Oper}{draw:Bool}{K Kx:Env→AH→Rs}(hK:KSE K Kx):KSE (regKp ⟨X,S⟩ D nt ops draw K) (regK ⟨X,Sx⟩ Dx nt ops draw Kx):=by
 intro env envx H Hx hE hR
 simp only[regKp,regK,cond_eq_ite]
 split
 ·cases plan X ops with
  | none=>exact SS_none _
  | some p=>
   obtain⟨row,masks⟩:=p
   exact opsK_s hD hS hK _ row _ _ _ _ _ _ (by trivial) hE hR
 ·exact opsK_s hD hS hK _ _ _ _ _ _ _ _ (by trivial) hE hR
end
end Go.Eng
end
section
namespace Go.Eng
inductive HS:Hint→Hint→Prop
 | o:HS .o .o
 | s {a b a' b':Hint} :HS a a'→HS b b'→HS (.s a b) (.s a' b')
 | c {L:List Nat} {a b a' b':Hint} :HS a a'→HS b b'→HS (.c L a b) (.c L a' b')
 | cl {a b a' b':Hint} :HS a a'→HS b b'→HS (.cl a b) (.cl a' b')
 | cr {a b a' b':Hint} :HS a a'→HS b b'→HS (.cr a b) (.cr a' b')
 | b {L:List Nat} {a a':Hint} :HS a a'→HS (.b L a) (.b L a')
 | b0 {a a':Hint} :HS a a'→HS (.b0 a) (.b0 a')
 | l {L:List Nat} {a a':Hint} :HS a a'→HS (.l L a) (.l L a')
 | rf {s:Nat} {L:List Nat} :HS (.rf s L) (.rf s L)
 | pc:HS .pc .pc
 | t {L:List Nat} {mp m:List AV→AH→Option AH} :MS mp m→HS (.t L mp) (.t L m)
def noT:Hint→Bool
 | .o=>true
 | .s a b=>noT a&&noT b
 | .c _ a b=>noT a&&noT b
 | .cl a b=>noT a&&noT b
 | .cr a b=>noT a&&noT b
 | .b _ a=>noT a
 | .b0 a=>noT a
 | .l _ a=>noT a
 | .rf _ _=>true
 | .t _ _=>false
 | .pc=>true
theorem HS_refl: ∀(h:Hint),noT h=true→HS h h
 | .o,_=> .o
 | .s a b,h=>by simp only[noT,Bool.and_eq_true]at h;exact .s (HS_refl a h.1) (HS_refl b h.2)
 | .c _ a b,h=>by simp only[noT,Bool.and_eq_true]at h;exact .c (HS_refl a h.1) (HS_refl b h.2)
 | .cl a b,h=>by simp only[noT,Bool.and_eq_true]at h;exact .cl (HS_refl a h.1) (HS_refl b h.2)
 | .cr a b,h=>by simp only[noT,Bool.and_eq_true]at h;exact .cr (HS_refl a h.1) (HS_refl b h.2)
 | .b _ a,h=>by simp only[noT]at h;exact .b (HS_refl a h)
 | .b0 a,h=>by simp only[noT]at h;exact .b0 (HS_refl a h)
 | .l _ a,h=>by simp only[noT]at h;exact .l (HS_refl a h)
 | .rf _ _,_=> .rf
 | .pc,_=> .pc
 | .t _ _,h=>by simp[noT]at h
theorem resE_s {X:Cx}{env envx:Env}(hE:ES env envx){H Hx:AH}(hR:HR H Hx)(r:ResultVar):SV (resEp X env H r) (resE X envx Hx r):=by
 cases r with
 | tmp t=>intro v h;simp only[resEp]at h;simp only[resE];rw[hE,h];rfl
 | cell a t=>exact q1_v (fun v h=>by rw[hE,h];rfl) (fun _ _=>tLoad_s hR)
theorem retK_s {X:Cx}{env envx:Env}(hE:ES env envx){H Hx:AH}(hR:HR H Hx): ∀(rs:List ResultVar) {K Kx:List AV→Rs},(∀vs,SS (K vs) (Kx (exM vs)))→SS (retKp X rs env H K) (retK X rs envx Hx Kx)
 | [],K,Kx,hK=>by have:=hK [];simp only[exM]at this;exact this
 | r::rs,K,Kx,hK=>bV_s (resE_s hE hR r) fun v=>retK_s hE hR rs fun vs=>by have:=hK (v::vs);simp only[exM]at this;exact this
theorem tupV_ex (vs:List AV):ex (tupV vs)=tupV (exM vs):=by
 cases vs with
 | nil=>simp[tupV,ex,exM]
 | cons a l=>
  cases l with
  | nil=>simp[tupV,exM]
  | cons b l=>simp only[tupV,exM,ex]
theorem retE_s {X:Cx}{env envx:Env}(hE:ES env envx){H Hx:AH}(hR:HR H Hx)(rs:List ResultVar):SS (retEp X rs env H) (retE X rs envx Hx):=
 retK_s hE hR rs fun vs=>by
  have:=SS_some (e:= .ret (tupV vs)) hR
  simp only[exX,tupV_ex]at this
  exact this
theorem tld_s {H Hx:AH}(hR:HR H Hx){x y:Option AH}(h: ∀H',x=some H'→ ∃Hx',y=some Hx'∧HR H' Hx'){K Kx:AH→Rs}(hK: ∀H Hx,HR H Hx→SS (K H) (Kx Hx)):SS (tld x H.next K) (tld y Hx.next Kx):=by
 cases x with
 | none=>exact SS_none _
 | some H'=>
  obtain⟨Hx',h1,h2⟩:=h H' rfl
  rw[h1]
  simp only[tld,cond_eq_ite,hR.next,h2.next]
  split
  ·exact hK _ _ h2
  ·exact SS_none _
theorem exS_s {env envx:Env}(hE:ES env envx){H Hx:AH}(hR:HR H Hx)(id:Nat): ∀(Bk:List (Nat×List Nat)),SS (exS Bk env H id) (exS Bk envx Hx id)
 | []=>SS_none _
 | (i,L)::r=>by
  simp only[exS,cond_eq_ite]
  split
  ·exact pck_s hE L fun vs=>SS_some hR
  ·exact exS_s hE hR id r
theorem HR.loopAt {H Hx:AH}(hR:HR H Hx){A:Nat}{l:ALoop}(hA:H.h.get A=some (.loop l)):Hx.h.get A=some (.loop { l with vals:=exM l.vals}):=hR.at hA
theorem endLp_s {H Hx:AH}(hR:HR H Hx)(A:Nat){K Kx:Option Code→AH→Rs}(hK: ∀j H Hx,HR H Hx→SS (K j H) (Kx j Hx)):SS (endLp A H K) (endLp A Hx Kx):=by
 unfold endLp
 split
 ·rename_i l hA
  rw[hR.loopAt hA]
  simp only
  cases l.state with
  | busy=>exact SS_none _
  | _=>
   simp only
   split
   ·rename_i H' hp
    obtain⟨Hx',h1,h2⟩:=hR.put (o:= .dead) trivial hp
    simp only[exO]at h1
    rw[h1];exact hK _ _ _ h2
   ·exact SS_none _
 ·exact SS_none _
theorem jmpK_s {j:Option Code}{a a' c c':Rs}{b b':Nat→Rs}(ha:SS a a')(hb: ∀i,SS (b i) (b' i))(hc:SS c c'):SS (jmpK j a b c) (jmpK j a' b' c'):=by
 unfold jmpK
 split
 ·exact ha
 ·exact hb _
 ·exact hc
 ·exact SS_none _
section
variable {X:Cx}{S Sx:List (Nat×FnT)}{D Dx:Dyn}(hD:DS D Dx)(hS:LS S Sx)
include hD hS
theorem rfC_s (f:AV)(A:Nat){H Hx:AH}(hR:HR H Hx):SR (rfC S D f A H) (rfC Sx Dx (ex f) A Hx):=by
 unfold rfC
 split
 ·rename_i g first cap
  simp only[ex]
  have:=callG_s hD g hS (first++[.yieldTo A]++cap) H Hx hR
  rw[exM_append,exM_append]at this
  simp only[exM,ex]at this
  exact noPan_s this
 ·exact SR_none _
theorem codeK_s {n nt:Nat}{rs:List ResultVar}{f0:FuncId}{ro:Bool} : ∀(c:Code) {h hx:Hint},HS h hx→ ∀(Bk:List (Nat×List Nat)) {K Kx:Env→AH→Rs},KSE K Kx→KSE (codeKp ⟨X,S⟩ D n nt rs f0 ro c h Bk K) (codeK ⟨X,Sx⟩ Dx n nt rs f0 ro c hx Bk Kx):=by
 intro c
 induction c with
 | skip=>intro h hx hh Bk K Kx hK env envx H Hx hE hR;simp only[codeKp,codeK];exact hK _ _ _ _ hE hR
 | label l=>intro h hx hh Bk K Kx hK env envx H Hx hE hR;simp only[codeKp,codeK];exact hK _ _ _ _ hE hR
 | region id ops draw=>
  intro h hx hh Bk K Kx hK env envx H Hx hE hR
  cases hh with
  | pc=>
   simp only[codeKp,codeK,cond_eq_ite,pregK]
   split
   ·exact SS_none _
   ·exact prowK_s hD hS pan0_s hK _ _ _ _ _ hE hR
  | _=>simp only[codeKp,codeK];exact regK_s hD hS hK _ _ _ _ hE hR
 | seq a b iha ihb=>
  intro h hx hh Bk K Kx hK env envx H Hx hE hR
  cases hh with
  | s h1 h2=>simp only[codeKp,codeK];exact iha h1 Bk (ihb h2 Bk hK) _ _ _ _ hE hR
  | t hm=>
   simp only[codeKp,codeK]
   exact pck_s hE _ fun vs=>tld_s hR (fun H' e=>hm _ _ _ _ e hR) fun H Hx hR=>unp_s (fun e e' hE=>hK _ _ _ _ hE hR) _ vs ES_0
  | _=>simp only[codeKp];exact SS_none _
 | cond c a b iha ihb=>
  intro h hx hh Bk K Kx hK env envx H Hx hE hR
  cases hh with
  | c h1 h2=>
   simp only[codeKp,codeK]
   split
   ·rename_i v hv
    rw[opd_s hE _ _ hv]
    exact jn_s (cnd_s (iha h1 Bk (fun e e' H Hx hE hR=>pck_s hE _ fun vs=>SS_some hR) _ _ _ _ hE hR) (ihb h2 Bk (fun e e' H Hx hE hR=>pck_s hE _ fun vs=>SS_some hR) _ _ _ _ hE hR))
     (fun vs H Hx hR=>unp_s (fun e e' hE=>hK _ _ _ _ hE hR) _ vs ES_0)
   ·exact SS_none _
  | cl h1 h2=>
   simp only[codeKp,codeK]
   split
   ·rename_i v hv
    rw[opd_s hE _ _ hv]
    exact cnd_s (iha h1 Bk (fun _ _ _ _ _ _=>SS_none _) _ _ _ _ hE hR) (ihb h2 Bk hK _ _ _ _ hE hR)
   ·exact SS_none _
  | cr h1 h2=>
   simp only[codeKp,codeK]
   split
   ·rename_i v hv
    rw[opd_s hE _ _ hv]
    exact cnd_s (iha h1 Bk hK _ _ _ _ hE hR) (ihb h2 Bk (fun _ _ _ _ _ _=>SS_none _) _ _ _ _ hE hR)
   ·exact SS_none _
  | _=>simp only[codeKp];exact SS_none _
 | block id b ih=>
  intro h hx hh Bk K Kx hK env envx H Hx hE hR
  cases hh with
  | b h1=>
   simp only[codeKp,codeK]
   exact jb_s (ih h1 _ (fun e e' H Hx hE hR=>pck_s hE _ fun vs=>SS_some hR) _ _ _ _ hE hR) (fun vs H Hx hR=>unp_s (fun e e' hE=>hK _ _ _ _ hE hR) _ vs ES_0)
  | b0 h1=>simp only[codeKp,codeK];exact ih h1 _ hK _ _ _ _ hE hR
  | _=>simp only[codeKp];exact SS_none _
 | loop b ih=>
  intro h hx hh Bk K Kx hK env envx H Hx hE hR
  cases hh with
  | l h1=>
   simp only[codeKp,codeK]
   refine pck_s hE _ fun vs=>loopK_s ?_ n vs H Hx hR
   intro vs H Hx hR
   exact unp_s (fun e e' hE=>ih h1 Bk (fun e e' H Hx hE hR=>pck_s hE _ fun vs=>SS_some hR) _ _ _ _ hE hR) _ vs ES_0
  | _=>simp only[codeKp];exact SS_none _
 | exit id=>
  intro h hx hh Bk K Kx hK env envx H Hx hE hR
  simp only[codeKp,codeK]
  cases liveOf Bk id with
  | none=>exact SS_none _
  | some L=>exact pck_s hE L fun vs=>SS_some hR
 | ret=>intro h hx hh Bk K Kx hK env envx H Hx hE hR;simp only[codeKp,codeK];exact retE_s hE hR rs
 | rangeFunc f ps a b iha ihb=>
  intro h hx hh Bk K Kx hK env envx H Hx hE hR
  cases hh with
  | rf=>
   rename_i s L
   simp only[codeKp,codeK,cond_eq_ite]
   split
   ·exact SS_none _
   ·split
    ·rename_i fv hf
     rw[opd_s hE _ _ hf]
     refine pck_s hE _ fun vs=> ?_
     refine newB_s (o:= .loop ⟨.ready,none,f0,s,L,vs⟩) hR trivial fun A H Hx hR=> ?_
     exact bR_s (rfC_s hD hS fv A hR) fun _ H Hx hR=>endLp_s hR A fun j H Hx hR=>jmpK_s (hK _ _ _ _ hE hR) (fun i=>exS_s hE hR i Bk) (retE_s hE hR rs)
    ·exact SS_none _
  | _=>simp only[codeKp];exact SS_none _
 | _=>intro h hx hh Bk K Kx hK env envx H Hx hE hR;simp only[codeKp];exact SS_none _
omit hD hS in
theorem outR_s {x y:Rs}(h:SS x y):SR (outR x) (outR y):=by
 intro v H hv
 unfold outR at hv
 split at hv
 ·rename_i v' H'
  simp only[Option.some.injEq,Prod.mk.injEq]at hv;obtain⟨rfl,rfl⟩:=hv
  obtain⟨Hx,h1,h2⟩:=h _ _ rfl
  exact⟨Hx,by rw[h1];rfl,h2⟩
 ·simp at hv
theorem funK_s {n:Nat}{f0:FuncId}{fn:Func}{h hx:Hint}(hh:HS h hx):SimF (funKp ⟨X,S⟩ D n f0 fn h) (funK ⟨X,Sx⟩ Dx n f0 fn hx):=by
 intro az H Hx hR
 unfold funKp funK
 cases fn.body with
 | none=>exact SR_none _
 | some body=>
  simp only[cond_eq_ite]
  split
  ·exact outR_s (unpA_s (fun e e' hE=>codeK_s hD hS body hh [] (fun e e' H Hx hE hR=>retE_s hE hR _) _ _ _ _ hE hR) _ _ az ES_0)
  ·exact SR_none _
def SimRc (mp m:AV→FnT):Prop:= ∀rv az H Hx,HR H Hx→SR (mp rv az H) (m (ex rv) (exM az) Hx)
theorem funR_s {n:Nat}{f0:FuncId}{fn:Func}{h hx:Hint}(hh:HS h hx):SimRc (funRp ⟨X,S⟩ D n f0 fn h) (funR ⟨X,Sx⟩ Dx n f0 fn hx):=by
 intro rv az H Hx hR
 unfold funRp
 split
 ·rename_i id ops rest hb
  unfold funR
  simp only[hb]
  generalize ops.toList=ol
  cases ol with
  | nil=>exact SR_none _
  | cons o os=>
   simp only[cond_eq_ite]
   split
   ·refine noPan_s (outR_s (unpA_s (fun e e' hE=> ?_) _ _ az ES_0))
    refine setE_s hE _ rv fun e e' hE=> ?_
    exact prowK_s hD hS pan0_s (fun e e' H Hx hE hR=>codeK_s hD hS rest hh [] (fun e e' H Hx hE hR=>retE_s hE hR _) _ _ _ _ hE hR) os _ _ _ _ hE hR
   ·exact SR_none _
 ·exact SR_none _
omit hD hS in
theorem dfrK_s {g:FuncId}{x y:Option AV}(h:SV x y){K Kx:List AV→Rs}(hK: ∀cs,SS (K cs) (Kx (exM cs))):SS (dfrK g x K) (dfrK g y Kx):=by
 unfold dfrK
 split
 ·rename_i v
  rw[h v rfl]
  cases v with
  | func g' first cap=>
   simp only[ex,cond_eq_ite]
   split
   ·rw[← exM_append];exact hK _
   ·exact SS_none _
  | _=>exact SS_none _
 ·exact SS_none _
theorem dfunK_s {fn:Func}{g:FuncId}{rcp rc:AV→FnT}(hrc:SimRc rcp rc):SimF (dfunKp ⟨X,S⟩ D fn g rcp) (dfunK ⟨X,Sx⟩ Dx fn g rc):=by
 intro az H Hx hR
 unfold dfunKp
 split
 ·rename_i id0 o0 id1 o1 id2 o2 hb
  unfold dfunK
  simp only[hb]
  split
  ·rename_i a d hops
   rw[hops]
   simp only
   split
   ·rename_i fo hdf
    rw[hdf]
    simp only[cond_eq_ite]
    split
    ·refine noPan_s (outR_s (unpA_s (fun e e' hE=> ?_) _ _ az ES_0))
     refine prowK_s hD hS pan0_s (fun e e' H Hx hE hR=> ?_) _ _ _ _ _ hE hR
     refine prowK_s hD hS pan0_s (fun e e' H Hx hE hR=> ?_) _ _ _ _ _ hE hR
     refine dfrK_s (opd_s hE _) fun cs=> ?_
     refine prowK_s hD hS (fun x e e' H Hx hE hR=>bR_s (hrc x cs H Hx hR) fun _ H Hx hR=>retE_s hE hR _) (fun e e' H Hx hE hR=> ?_) _ _ _ _ _ hE hR
     have h1:=hrc .nilIface cs H Hx hR
     simp only[ex]at h1
     exact bR_s h1 fun _ H Hx hR=>retE_s hE hR _
    ·exact SR_none _
   ·exact SR_none _
  ·exact SR_none _
 ·exact SR_none _
def SimR (m mx:Nat→ALoop→List AV→AH→Option (AV×AH)):Prop:= ∀A l az H Hx,HR H Hx→SR (m A l az H) (mx A { l with vals:=exM l.vals} (exM az) Hx)
omit hD hS in
theorem beginK_s {A:Nat}{H Hx:AH}(hR:HR H Hx){K Kx:AH→Rs}(hK: ∀H Hx,HR H Hx→SS (K H) (Kx Hx)):SS (beginK A H K) (beginK A Hx Kx):=by
 unfold beginK
 split
 ·rename_i l hA
  rw[hR.loopAt hA]
  simp only
  cases l.state with
  | ready=>
   simp only
   split
   ·rename_i H' hp
    obtain⟨Hx',h1,h2⟩:=hR.put (o:= .loop { l with state:= .busy}) trivial hp
    simp only[exO]at h1
    rw[h1];exact hK _ _ h2
   ·exact SS_none _
  | _=>exact SS_none _
 ·exact SS_none _
omit hD hS in
theorem endR_s {A:Nat}{j:Option Code}{H Hx:AH}(hR:HR H Hx):SR (endR A j H) (endR A j Hx):=by
 unfold endR
 split
 ·rename_i l hA
  rw[hR.loopAt hA]
  cases j with
  | none=>
   simp only
   split
   ·rename_i H' hp
    obtain⟨Hx',h1,h2⟩:=hR.put (o:= .loop { l with state:= .ready,pending:=none}) trivial hp
    simp only[exO]at h1
    rw[h1]
    intro v H2 e
    simp only[Option.some.injEq,Prod.mk.injEq]at e;obtain⟨rfl,rfl⟩:=e
    exact⟨Hx',by simp[ex],h2⟩
   ·exact SR_none _
  | some j=>
   simp only
   split
   ·rename_i H' hp
    obtain⟨Hx',h1,h2⟩:=hR.put (o:= .loop { l with state:= .done,pending:=some j}) trivial hp
    simp only[exO]at h1
    rw[h1]
    intro v H2 e
    simp only[Option.some.injEq,Prod.mk.injEq]at e;obtain⟨rfl,rfl⟩:=e
    exact⟨Hx',by simp[ex],h2⟩
   ·exact SR_none _
 ·exact SR_none _
omit hD hS in
theorem endQ_s {A:Nat}{x y:Rs}(h:SS x y):SR (endQ A x) (endQ A y):=by
 cases x with
 | none=>exact SR_none _
 | some r=>
  obtain⟨e,H⟩:=r
  obtain⟨Hx,h1,h2⟩:=h e H rfl
  rw[h1]
  cases e with
  | norm vs=>exact endR_s (j:=none) h2
  | exit i vs=>exact endR_s (j:=some (.exit i)) h2
  | ret v=>
   cases v with
   | pan u=>exact SR_none _
   | _=>exact endR_s (j:=some .ret) h2
theorem rndK_s {n:Nat}{f0:FuncId}{s:Nat}{L ids:List Nat}{ha hb hax hbx:Hint}(h1:HS ha hax)(h2:HS hb hbx):SimR (rndKp ⟨X,S⟩ D n f0 s L ids ha hb) (rndK ⟨X,Sx⟩ Dx n f0 s L ids hax hbx):=by
 intro A l az H Hx hR
 unfold rndKp rndK
 cases siteC f0 s with
 | none=>exact SR_none _
 | some q=>
  obtain⟨nt,ps,asg,body⟩:=q
  simp only[rdKp,rdK,cond_eq_ite]
  split
  ·refine endQ_s ?_
   refine unp_s (fun e e' hE=> ?_) L l.vals ES_0
   refine unpP_s (fun e e' hE=> ?_) _ az hE
   refine codeK_s hD hS asg h1 [] (fun e e' H Hx hE hR=> ?_) _ _ _ _ hE hR
   exact beginK_s hR fun H Hx hR=>codeK_s hD hS body h2 _ (fun _ _ H Hx _ hR=>SS_some hR) _ _ _ _ hE hR
  ·exact SR_none _
end
def FP (g:FuncId)(mp:FnT):Prop:= ∃m,FI g m∧SimF mp m
def DP (D:Dyn):Prop:= ∃Dx,DG Dx∧DS D Dx
def SP:List (Nat×FnT)→Prop
 | []=>True
 | (i,m)::S=>FP i m∧SP S
theorem SP.nil:SP []:=trivial
theorem SP.cons {i:Nat}{m:FnT}{S:List (Nat×FnT)}(h:FP i m)(k:SP S):SP ((i,m)::S):=⟨h,k⟩
theorem SP.plain: ∀ {S:List (Nat×FnT)},SP S→ ∃Sx,SOk Sx∧LS S Sx
 | [],_=>⟨[],trivial,trivial⟩
 | (i,m)::S,h=>by
  obtain⟨⟨mx,h1,h2⟩,h3⟩:=h
  obtain⟨Sx,h4,h5⟩:=SP.plain h3
  exact⟨(i,mx)::Sx,⟨h1.fs,h4⟩,rfl,h2,h5⟩
theorem fun_okPT {X:Cx}(hX:Ok PP X){D:Dyn}(hD:DP D){S:List (Nat×FnT)}(hS:SP S){f:FuncId}{fn:Func}(hfn:PP.funcs[f]? =some fn){n:Nat}{h hx:Hint}(hs: ∀body,fn.body=some body→SitesP PP f fn.ntmps body hx)(hh:HS h hx){m:FnT}(he:m=funKp ⟨X,S⟩ D n f fn h):FP f m:=by
 obtain⟨Dx,h1,h2⟩:=hD
 obtain⟨Sx,h3,h4⟩:=hS.plain
 subst he
 exact⟨funK ⟨X,Sx⟩ Dx n f fn hx,fun_okT hX h1 h3 hfn hs rfl,funK_s h2 h4 hh⟩
theorem fun_okP {X:Cx}(hX:Ok PP X){D:Dyn}(hD:DP D){S:List (Nat×FnT)}(hS:SP S){f:FuncId}{fn:Func}(hfn:PP.funcs[f]? =some fn){n:Nat}{h:Hint}(hs:sitesB fn h=true)(hh:noT h=true){m:FnT}(he:m=funKp ⟨X,S⟩ D n f fn h):FP f m:=
 fun_okPT hX hD hS hfn (sitesB_ok hfn hs) (HS_refl h hh) he
def RcP (g:FuncId)(rcp:AV→FnT):Prop:= ∃rc,RcOk PP g rc∧SimRc rcp rc
theorem funR_okP {X:Cx}(hX:Ok PP X){D:Dyn}(hD:DP D){S:List (Nat×FnT)}(hS:SP S){f:FuncId}{fn:Func}(hfn:PP.funcs[f]? =some fn)(hb:fn.body.isSome=true){n:Nat}{h:Hint}(hs:noRF h=true)(hh:noT h=true){rc:AV→FnT}(he:rc=funRp ⟨X,S⟩ D n f fn h):RcP f rc:=by
 obtain⟨Dx,hDx,hDs⟩:=hD
 obtain⟨Sx,hSx,hLs⟩:=hS.plain
 exact⟨_,funR_okD hX hDx hSx hfn hb hs,by rw[he];exact funR_s hDs hLs (HS_refl h hh)⟩
theorem dfun_okP {X:Cx}(hX:Ok PP X){D:Dyn}(hD:DP D){S:List (Nat×FnT)}(hS:SP S){f:FuncId}{fn:Func}(hfn:PP.funcs[f]? =some fn){g:FuncId}{rcp:AV→FnT}(hrc:RcP g rcp){m:FnT}(he:m=dfunKp ⟨X,S⟩ D fn g rcp):FP f m:=by
 obtain⟨Dx,hDx,hDs⟩:=hD
 obtain⟨Sx,hSx,hLs⟩:=hS.plain
 obtain⟨rc,h1,h2⟩:=hrc
 exact⟨_,dfun_ok hX hDx hSx hfn h1,by rw[he];exact dfunK_s hDs hLs h2⟩
def RdP (f s:Nat)(mp:Nat→ALoop→List AV→AH→Option (AV×AH)):Prop:= ∃m,RS f s m∧SimR mp m
theorem noRF_noT: ∀(h:Hint),noRF h=true→noT h=true
 | .o,_=>rfl
 | .s a b,h=>by simp only[noRF,noT,Bool.and_eq_true]at h⊢;exact⟨noRF_noT a h.1,noRF_noT b h.2⟩
 | .c _ a b,h=>by simp only[noRF,noT,Bool.and_eq_true]at h⊢;exact⟨noRF_noT a h.1,noRF_noT b h.2⟩
 | .cl a b,h=>by simp only[noRF,noT,Bool.and_eq_true]at h⊢;exact⟨noRF_noT a h.1,noRF_noT b h.2⟩
 | .cr a b,h=>by simp only[noRF,noT,Bool.and_eq_true]at h⊢;exact⟨noRF_noT a h.1,noRF_noT b h.2⟩
 | .b _ a,h=>by simp only[noRF,noT]at h⊢;exact noRF_noT a h
 | .b0 a,h=>by simp only[noRF,noT]at h⊢;exact noRF_noT a h
 | .l _ a,h=>by simp only[noRF,noT]at h⊢;exact noRF_noT a h
 | .pc,_=>rfl
 | .rf _ _,h=>by simp[noRF]at h
 | .t _ _,h=>by simp[noRF]at h
theorem round_okP {X:Cx}(hX:Ok PP X){D:Dyn}(hD:DP D){S:List (Nat×FnT)}(hS:SP S){f s:Nat}{n:Nat}{L ids:List Nat}{ha hb:Hint}(hs:(noRF ha&&noRF hb)=true){m:Nat→ALoop→List AV→AH→Option (AV×AH)}(he:m=rndKp ⟨X,S⟩ D n f s L ids ha hb):RdP f s m:=by
 obtain⟨Dx,h1,h2⟩:=hD
 obtain⟨Sx,h3,h4⟩:=hS.plain
 subst he
 have hs':=hs
 rw[Bool.and_eq_true]at hs'
 exact⟨rndK ⟨X,Sx⟩ Dx n f s L ids ha hb,round_ok hX h1 h3 hs rfl,rndK_s h2 h4 (HS_refl _ (noRF_noT _ hs'.1)) (HS_refl _ (noRF_noT _ hs'.2))⟩
abbrev RnT:=Nat→ALoop→List AV→AH→Option (AV×AH)
def RPs:List ((Nat×Nat)×RnT)→Prop
 | []=>True
 | ((f,s),m)::t=>RdP f s m∧RPs t
theorem RPs.nil:RPs []:=trivial
theorem RPs.cons {f s:Nat}{m:RnT}{t:List ((Nat×Nat)×RnT)}(h:RdP f s m)(k:RPs t):RPs (((f,s),m)::t):=⟨h,k⟩
def LR:List ((Nat×Nat)×RnT)→List ((Nat×Nat)×RnT)→Prop
 | [],[]=>True
 | (i,m)::S,(j,mx)::Sx=>i=j∧SimR m mx∧LR S Sx
 | _,_=>False
theorem RPs.plain: ∀ {S:List ((Nat×Nat)×RnT)},RPs S→ ∃Sx,ROk Sx∧LR S Sx
 | [],_=>⟨[],trivial,trivial⟩
 | ((f,s),m)::S,h=>by
  obtain⟨⟨mx,h1,h2⟩,h3⟩:=h
  obtain⟨Sx,h4,h5⟩:=RPs.plain h3
  exact⟨((f,s),mx)::Sx,⟨h1,h4⟩,rfl,h2,h5⟩
theorem rdOfT_s {A:Nat}{az:List AV}{H Hx:AH}(hR:HR H Hx){t tx:List ((Nat×Nat)×RnT)}(ht:LR t tx):SR (rdOfT t A az H) (rdOfT tx A (exM az) Hx):=by
 unfold rdOfT
 split
 ·rename_i l hA
  rw[hR.loopAt hA]
  simp only
  have key: ∀(t tx:List ((Nat×Nat)×RnT)),LR t tx→SR (rdOfT.go A az H l t) (rdOfT.go A (exM az) Hx { l with vals:=exM l.vals} tx):=by
   intro t
   induction t with
   | nil=>intro tx h;cases tx<;>first | exact SR_none _ | (simp[LR]at h)
   | cons x t ih=>
    intro tx h
    cases tx with
    | nil=>simp[LR]at h
    | cons y tx=>
     obtain⟨⟨f,s⟩,m⟩:=x
     obtain⟨⟨f',s'⟩,mx⟩:=y
     obtain⟨e,h1,h2⟩:=h
     simp only[Prod.mk.injEq]at e
     obtain⟨rfl,rfl⟩:=e
     simp only[rdOfT.go,cond_eq_ite]
     split
     ·exact h1 A l az H Hx hR
     ·exact ih tx h2
  exact key t tx ht
 ·exact SR_none _
theorem dNone_s:DS dNone dNone:=⟨fun _ _ _ _ _=>SR_none _,fun _ _ _ _ _=>SR_none _⟩
theorem dyOf_okP {tab:Dyn→Nat→List (Nat×FnT)}{tabR:Dyn→Nat→List ((Nat×Nat)×RnT)}(h1: ∀D n,DP D→SP (tab D n))(h2: ∀D n,DP D→RPs (tabR D n)): ∀n,DP (dyOf tab tabR n)
 | 0=>⟨dNone,dNone_ok,dNone_s⟩
 | n+1=>by
  have ih:=dyOf_okP h1 h2 n
  obtain⟨Sx,a1,a2⟩:=(h1 _ n ih).plain
  obtain⟨Rx,b1,b2⟩:=(h2 _ n ih).plain
  exact⟨⟨fun g vs H=>callG Sx dNone g vs H,rdOfT Rx⟩,⟨fun g az H v H' e=>callG_ok dNone_ok a1 g az H v H' e,fun A args H v H' e=>rdOfT_ok b1 e⟩,
   ⟨fun g=>callG_s dNone_s g a2,fun A az H Hx hR=>rdOfT_s hR b2⟩⟩
theorem HR.empty:HR ⟨.leaf,0⟩ ⟨.leaf,0⟩:=⟨rfl,fun A=>by simp[T.get_leaf],fun A o h=>by simp[T.get_leaf]at h⟩
theorem calls_ofP {f:FuncId}{m:FnT}(hm:FP f m)(h:saysT (m [] ⟨.leaf,0⟩)=true){w:World}(ht:Tabs (fun _ _ _ _=>False) w):Calls PP f #[] w fun e w'=>e= .returned (.bool true)∧RowKit.Below w.heap.size w w':=by
 obtain⟨mx,h1,h2⟩:=hm
 refine calls_of h1 ?_ ht
 unfold saysT at h
 split at h
 ·rename_i H' hc
  obtain⟨Hx,e1,_⟩:=h2 [] _ _ HR.empty _ _ hc
  simp only[exM,ex]at e1
  rw[e1];rfl
 ·simp at h
end Go.Eng
end
section
namespace Go.Eng
open Go.Proofs
noncomputable def insC (e:Nat)(vs:List AV)(H:AH):Bool:=match vs with
 | [.slice A off len cc, .int .i64 (.ofNat i), .slice B _ m _]=>match H.h.get A,H.h.get B with
  | some (.cells l e' sz g),some (.cells _ _ _ gB)=>g&& !gB&&Nat.beq off 0&&Nat.beq cc 1&&Nat.beq sz 1&&Nat.beq e' e&&Nat.blt i len&&Nat.blt 0 m&&Nat.beq (cwd l 0) len&&Nat.ble ((len+m)*16) 140737488355328
  | _,_=>false
 | _=>false
def npk:List AV→Bool
 | []=>true
 | x::l=> !isPk x&&npk l
noncomputable def insTp (e:Nat)(vs:List AV)(H:AH):Option (AV×AH):=
 match vs with
 | [.slice A _ len _, .int .i64 (.ofNat i), .slice B o2 m _]=>
  match H.h.get A,H.h.get B with
  | some (.cells l _ _ _),some (.cells lB _ _ _)=>bif allCells l&&npk l then
    match csub lB o2 m with
    | some new=>bif allCells new then
      match putA H A .dead with
      | some H1=>agrow (len+m) e 1 (l.take i++new++l.drop i) H1
      | none=>none
     else none
    | none=>none
   else none
  | _,_=>none
 | _=>none
noncomputable def insKp (m:FnT)(vs:List AV)(H:AH):Option (AV×AH):=bif insC (Tryz.laysInsert_ren.t 9) vs H then insTp (Tryz.laysInsert_ren.t 9) vs H else m vs H
noncomputable def insKx (m:FnT)(vs:List AV)(H:AH):Option (AV×AH):=bif insC (Tryz.laysInsert_ren.t 9) vs H then insT (Tryz.laysInsert_ren.t 9) vs H else m vs H
theorem npk_take: ∀ {l:List AV} (_:npk l=true) (i:Nat),exL (l.take i)=(exL l).take i∧exL (l.drop i)=(exL l).drop i
 | [],_,i=>by simp[exL_nil]
 | x::l,h,i=>by
  simp only[npk,Bool.and_eq_true,Bool.not_eq_true']at h
  cases i with
  | zero=>simp[exL_nil]
  | succ i=>
   obtain⟨h1,h2⟩:=npk_take h.2 i
   rw[List.take_succ_cons,List.drop_succ_cons,exL_one h.1,exL_one h.1,List.take_succ_cons,List.drop_succ_cons,h1,h2]
   exact⟨rfl,rfl⟩
theorem exM_ins {vs:List AV}{A off len cc i B o2 m c2:Nat}(h:exM vs=[.slice A off len cc, .int .i64 (.ofNat i), .slice B o2 m c2]):vs=[.slice A off len cc, .int .i64 (.ofNat i), .slice B o2 m c2]:=by
 match vs,h with
 | [a,b,c],h=>
  simp only[exM,List.cons.injEq,and_true]at h
  obtain⟨h1,h2,h3⟩:=h
  cases a<;>simp[ex]at h1
  cases b<;>simp[ex]at h2
  cases c<;>simp[ex]at h3
  simp_all
 | [],h=>simp[exM]at h
 | [_],h=>simp[exM]at h
 | [_,_],h=>simp[exM]at h
 | _::_::_::_::_,h=>simp[exM]at h
theorem insC_s {e:Nat}(vs:List AV){H Hx:AH}(hR:HR H Hx):insC e (exM vs) Hx=insC e vs H:=by
 cases hb:insC e vs H with
 | true=>
  unfold insC at hb
  split at hb
  ·rename_i A off len cc i B o2 m c2
   split at hb
   ·rename_i l e' sz g lB eB szB gB hA hB
    simp only[exM,ex,insC,hR.at hA,hR.at hB,exO,cwd_zero,exL_exL]
    simp only[cwd_zero]at hb
    exact hb
   ·simp at hb
  ·simp at hb
 | false=>
  cases hx:insC e (exM vs) Hx with
  | false=>rfl
  | true=>
   unfold insC at hx
   split at hx
   ·rename_i A off len cc i B o2 m c2 hvs
    have hv:=exM_ins hvs
    subst hv
    split at hx
    ·rename_i l e' sz g lB eB szB gB hA hB
     rw[hR.get]at hA hB
     cases h1:H.h.get A with
     | none=>rw[h1]at hA;simp at hA
     | some o1=>
      cases h2:H.h.get B with
      | none=>rw[h2]at hB;simp at hB
      | some o2'=>
       rw[h1]at hA;rw[h2]at hB
       simp only[Option.map_some,Option.some.injEq]at hA hB
       cases o1<;>simp[exO]at hA
       cases o2'<;>simp[exO]at hB
       obtain⟨rfl,rfl,rfl,rfl⟩:=hA
       obtain⟨rfl,rfl,rfl,rfl⟩:=hB
       simp only[insC,h1,h2,cwd_zero]at hb
       simp only[cwd_zero,exL_exL]at hx
       rw[hx]at hb;simp at hb
    ·simp at hx
   ·simp at hx
theorem insKp_s {mp m:FnT}(h:SimF mp m):SimF (insKp mp) (insKx m):=by
 intro vs H Hx hR
 unfold insKp insKx
 rw[insC_s vs hR]
 simp only[cond_eq_ite]
 split
 ·rename_i hc
  intro v H' hv
  unfold insTp at hv
  split at hv
  ·rename_i A off len cc i B o2 m' c2
   split at hv
   ·rename_i l e' sz g lB eB szB gB hA hB
    rw[cond_eq_ite]at hv
    split at hv
    ·rename_i hl
     rw[Bool.and_eq_true]at hl
     split at hv
     ·rename_i new hn
      rw[cond_eq_ite]at hv
      split at hv
      ·rename_i hnc
       split at hv
       ·rename_i H1 hp
        obtain⟨Hx1,h1,h2⟩:=hR.put (o:= .dead) trivial hp
        simp only[exO]at h1
        obtain⟨Hx',h3,h4⟩:=agrow_s h2 _ _ hv
        refine⟨Hx', ?_,h4⟩
        rw[exL_append,exL_append,(npk_take hl.2 i).1,(npk_take hl.2 i).2]at h3
        have hc':=insC_s (e:= Tryz.laysInsert_ren.t 9) [.slice A off len cc, .int .i64 (.ofNat i), .slice B o2 m' c2] hR
        rw[hc]at hc'
        simp only[exM,ex,insC,hR.at hA,hR.at hB,exO]at hc'
        have e1:lenL (exL l) 0=cwd (exL l) 0:=by rw[lenL_zero,cwd_zero,exL_exL]
        simp only[exM,ex,insT,hR.at hA,hR.at hB,exO,e1,hc',allCells_ex hl.1,Bool.and_self,cond_true,csub_s hn,allCells_ex hnc,h1]
        exact h3
       ·simp at hv
      ·simp at hv
     ·simp at hv
    ·simp at hv
   ·simp at hv
  ·simp at hv
 ·exact h vs H Hx hR
theorem insKp_ok {f:FuncId}{mp:FnT}(hf:f= Tryz.laysInsert_ren.f 22)(hm:FP f mp):FP f (insKp mp):=by
 obtain⟨m,h1,h2⟩:=hm
 refine⟨insKx m, ?_,insKp_s h2⟩
 have h3:FI f (insK fun _ _=>none):=insK_ok hf (fun _ _ _ _ h=>by simp at h)
 intro az H v H' h
 unfold insKx at h
 rw[cond_eq_ite]at h
 split at h
 ·exact h3 az H v H' h
 ·exact h1 az H v H' h
theorem exM_map {vs:List AV}{M:Nat}(h:exM vs=[.map M]):vs=[.map M]:=by
 match vs,h with
 | [a],h=>
  simp only[exM,List.cons.injEq,and_true]at h
  cases a<;>simp[ex]at h
  subst h;rfl
 | [],h=>simp[exM]at h
 | _::_::_,h=>simp[exM]at h
theorem clnK_s {mp m:FnT}(h:SimF mp m):SimF (clnK mp) (clnK m):=by
 intro vs H Hx hR
 unfold clnK
 split
 ·rename_i M
  simp only[exM,ex]
  split
  ·rename_i ks es hM
   rw[hR.at hM]
   simp only[exO]
   split
   ·rename_i hn
    rw[hR.next,hR.out hn]
    simp only
    split
    ·rename_i t ht
     obtain⟨tx,h1,h2⟩:=hR.set (o:= .map ks es) (hR.ok _ _ hM) ht (Nat.succ H.next)
     simp only[exO]at h1
     rw[h1]
     intro v H' e
     rw[fN_eq]at e
     simp only[Option.some.injEq,Prod.mk.injEq]at e;obtain⟨rfl,rfl⟩:=e
     exact⟨_,by simp only[fN_eq,ex],h2⟩
    ·exact SR_none _
   ·exact SR_none _
  ·exact SR_none _
 ·rename_i hne
  split
  ·rename_i M hM
   exact absurd (exM_map hM) (hne M)
  ·exact h vs H Hx hR
theorem clnK_okP {f:FuncId}{mp:FnT}(hf: ∃fn,PP.funcs[f]? =some fn∧fn.body.isSome=true)
  (hc: ∀(b:Nat) (es:Array MapEntry) (clock:Nat) (w:World),w.heap[b]? =some (.map es clock)→Calls PP f #[.map (some b)] w fun e w'=>e= .returned (.map (some w.heap.size))∧w'=w.alloc (.map es clock))
  (hm:FP f mp):FP f (clnK mp):=by
 obtain⟨m,h1,h2⟩:=hm
 exact⟨clnK m,clnK_ok hf hc h1,clnK_s h2⟩
theorem exM_sum {vs:List AV}{u l b:Nat}(h:exM vs=[.int .u64 (.ofNat u), .str l b]):vs=[.int .u64 (.ofNat u), .str l b]:=by
 match vs,h with
 | [x,y],h=>
  simp only[exM,List.cons.injEq,and_true]at h
  cases x<;>simp[ex]at h
  cases y<;>simp[ex]at h
  simp_all
 | [],h=>simp[exM]at h
 | [_],h=>simp[exM]at h
 | _::_::_::_,h=>simp[exM]at h
theorem sumK_okP {f:FuncId}{F:Nat→FnT}(he:F=sumF 1099511628211)(hF: ∀n,FP f (F n))(n:Nat):FP f (sumK (F n)):=by
 let M:Nat→FnT:=fun n=>Classical.choose (hF n)
 have hM1: ∀n,FI f (M n):=fun n=>(Classical.choose_spec (hF n)).1
 have hM2: ∀n,SimF (F n) (M n):=fun n=>(Classical.choose_spec (hF n)).2
 refine⟨fun vs H=>match vs with
  | [.int .u64 (.ofNat u), .str l b]=>bif Nat.blt l 4611686018427387904&&Nat.blt u 18446744073709551616 then M (l+1) vs H else M n vs H
  | vs=>M n vs H, ?_, ?_⟩
 ·intro az H v H' h
  simp only at h
  split at h
  ·rw[cond_eq_ite]at h
   split at h
   ·exact hM1 _ _ _ _ _ h
   ·exact hM1 _ _ _ _ _ h
  ·exact hM1 _ _ _ _ _ h
 ·intro vs H Hx hR
  unfold sumK
  split
  ·rename_i u l b
   simp only[exM,ex,cond_eq_ite]
   split
   ·rename_i hc
    have hc':=hc
    rw[Bool.and_eq_true,Nat.blt_eq,Nat.blt_eq]at hc
    have:=hM2 (l+1) [.int .u64 (.ofNat u), .str l b] H Hx hR
    rw[he,sumF_eq hc.1 hc.2]at this
    rw[fN_eq]
    simp only[exM,ex]at this
    exact this
   ·have:=hM2 n [.int .u64 (.ofNat u), .str l b] H Hx hR
    simp only[exM,ex]at this
    exact this
  ·rename_i hne
   simp only
   split
   ·rename_i u l b hv
    exact absurd (exM_sum hv) (hne u l b)
   ·exact hM2 n vs H Hx hR
noncomputable def cloK (m:FnT)(vs:List AV)(H:AH):Option (AV×AH):=match vs with
 | []=>some (.bool true,H)
 | vs=>m vs H
theorem Rel.below {R:Ren}{H:AH}{w w':World}(h:Rel R H w)(hb:RowKit.Below w.heap.size w w'):Rel R H w':=
 ⟨h.fn,h.inj,fun A b d c o r ho=>by rw[hb.block b (h.lt _ _ _ _ r).1];exact h.obj A b d c o r ho,fun A b d c r=>⟨Nat.lt_of_lt_of_le (h.lt _ _ _ _ r).1 hb.size,(h.lt _ _ _ _ r).2⟩,h.tb.of fun g a t fz hg hn=>⟨hb.block g (heap_lt hg),hn⟩⟩
theorem cloK_ok {f:FuncId}{mp:FnT}(hf: ∃fn,PP.funcs[f]? =some fn∧fn.body.isSome=true)
  (hc: ∀w:World,Calls PP f #[] w fun e w'=>e= .returned (.bool true)∧RowKit.Below w.heap.size w w') (hm:FP f mp):FP f (cloK mp):=by
 obtain⟨m,h1,h2⟩:=hm
 refine⟨cloK m, ?_, ?_⟩
 ·intro az H v H' h
  unfold cloK at h
  split at h
  ·simp only[Option.some.injEq,Prod.mk.injEq]at h;obtain⟨rfl,rfl⟩:=h
   refine⟨Nat.le_refl _,SimIn.q ⟨hf,fun R zs cs w hv hL=> ?_⟩⟩
   simp only[VRL]at hv
   subst hv
   obtain⟨e,w1,fr',⟨rfl,hb⟩,s1,s2,s3⟩:=hc w cs
   refine⟨R,w1, .bool true,fr',s1,s2,s3,rfl,hL.below hb, ?_⟩
   exact⟨Sub.refl R,fun _ _ _ _ h=> .inl h,fun _ _ _ _ h=> .inl h,Nat.le_refl _,fun _ _ _=>rfl,hb.os,hb.tape,hb.output,hb.size,fun b hb' _=>hb.block b hb'⟩
  ·exact h1 _ _ _ _ h
 ·intro vs H Hx hR
  unfold cloK
  cases vs with
  | nil=>
   intro v H' e
   simp only[Option.some.injEq,Prod.mk.injEq]at e;obtain⟨rfl,rfl⟩:=e
   exact⟨Hx,by simp[exM,ex],hR⟩
  | cons a l=>
   have:=h2 (a::l) H Hx hR
   simp only[exM]at this⊢
   exact this
end Go.Eng
end
section
namespace Go.Proofs
open Go.Shelf Go.RowKit Go.Lib
variable {P:Program}{ρ:Ren}
theorem Below_drewN {B:Nat}{a w:World}(h:Below B a w)(n:Nat):Below B a (w.drewN n):=⟨h.os,h.tape,h.output,h.size,h.block⟩
theorem decode_far (s:ByteArray)(pos:Nat)(h:pos<s.size)(ha:128≤(s[pos]'h).toNat):
  128≤(Utf8.decode s pos).1∧Utf8.valid (Utf8.decode s pos).1=true∧1≤(Utf8.decode s pos).2∧ ∀k,k< (Utf8.decode s pos).2→pos+k<s.size∧128≤(s.get! (pos+k)).toNat:=by
 have hn: ¬(s[pos]'h).toNat<128:=by omega
 have hg:=get_at s pos h
 have hz:128≤(s.get! (pos+0)).toNat:=by rw[hg];exact ha
 have hb: ∀k,(s.get! (pos+k)).toNat<256:=fun k=>(s.get! (pos+k)).toNat_lt
 have h0:=hb 0;have h1:=hb 1;have h2:=hb 2;have h3:=hb 3
 rw[hg]at h0
 have one: ∀k,k<1→pos+k<s.size∧128≤(s.get! (pos+k)).toNat:=fun k hk=>by
  obtain rfl:k=0:=by omega
  exact⟨h,hz⟩
 have cat: ∀k,(decide (pos+k<s.size)&&(s.get! (pos+k)).toNat / 64==2)=true→pos+k<s.size∧128≤(s.get! (pos+k)).toNat:=fun k e=>by
  simp only[Bool.and_eq_true,decide_eq_true_eq,beq_iff_eq]at e
  exact⟨e.1,by omega⟩
 have v1:Utf8.valid (Utf8.runeError:Nat)=true:=by decide
 simp only[Utf8.decode,hg,hn,if_false]
 split
 ·rename_i hc
  simp only[Bool.and_eq_true (a:=_==_)]at hc
  split
  ·refine⟨by omega, ?_,by omega,fun k hk=> ?_⟩
   ·simp[Utf8.valid];omega
   ·rcases(by omega:k=0∨k=1)with rfl | rfl
    ·exact⟨h,hz⟩
    ·exact cat 1 hc.2
  ·exact⟨by decide,v1,Nat.le_refl _,one⟩
 split
 ·rename_i hc
  simp only[Bool.and_eq_true (a:=_&&_)]at hc
  simp only[Bool.and_eq_true (a:=_==_)]at hc
  split
  ·rename_i hv
   simp only[Bool.and_eq_true,decide_eq_true_eq]at hv
   refine⟨by omega,hv.2,by omega,fun k hk=> ?_⟩
   rcases(by omega:k=0∨k=1∨k=2)with rfl | rfl | rfl
   ·exact⟨h,hz⟩
   ·exact cat 1 hc.1.2
   ·exact cat 2 hc.2
  ·exact⟨by decide,v1,Nat.le_refl _,one⟩
 split
 ·rename_i hc
  split
  ·rename_i hv
   simp only[Bool.and_eq_true,decide_eq_true_eq]at hv
   have hc1:=Bool.and_eq_true_iff.1 hc
   have hc2:=Bool.and_eq_true_iff.1 hc1.1
   have hc3:=Bool.and_eq_true_iff.1 hc2.1
   refine⟨by omega,hv.2,by omega,fun k hk=> ?_⟩
   rcases(by omega:k=0∨k=1∨k=2∨k=3)with rfl | rfl | rfl | rfl
   ·exact⟨h,hz⟩
   ·exact cat 1 hc3.2
   ·exact cat 2 hc2.2
   ·exact cat 3 hc1.2
  ·exact⟨by decide,v1,Nat.le_refl _,one⟩
 ·exact⟨by decide,v1,Nat.le_refl _,one⟩
set_option maxRecDepth 1000000 in
theorem Any.IndexRune_far (L:Lays.n152 P ρ)(r:Int)(w:World)(h0:128≤r)(h1:Lib.validRune r=true)(h3:r≠65533):
  Calls P (ρ.f 152) #[.string ⟨#[0,47]⟩, .int .i32 r] w fun e w'=>e= .returned (.int .i64 (-1))∧Below w.heap.size w w':=by
 have mixed:=L.mixed
 have t3:=L.t3;have a3:=L.a3;have z3:=L.z3;have v3:=L.v3
 have t4:=L.t4;have a4:=L.a4;have z4:=L.z4;have v4:=L.v4
 have t5:=L.t5;have a5:=L.a5;have z5:=L.z5;have v5:=L.v5
 have t9:=L.t9;have a9:=L.a9;have z9:=L.z9;have v9:=L.v9
 have t21:=L.t21;have a21:=L.a21;have z21:=L.z21;have v21:=L.v21
 have e137: ∀args w,(callFunc (ρ.f 137) args).run P w= .ok (.enter (ρ.f 137) args) w:=enters_of L.f137 (by kernel_rfl) rfl
 have e119: ∀args w,(callFunc (ρ.f 119) args).run P w= .ok (.enter (ρ.f 119) args) w:=enters_of L.f119 (by kernel_rfl) rfl
 obtain⟨k2,k4,kl⟩:=encode_facts r (by rw[validRune_eq];exact h1) h0
 obtain⟨e,he⟩: ∃e,Utf8.encode r=e:=⟨_,rfl⟩
 rw[he]at k2 k4 kl
 have hcv:=run_convert_int_string (P:=P) (k:= .i32) (n:=r) (src:=ρ.t 21) (dst:=ρ.t 9) (hs:=by rw[t21];rfl) (hd:=t9)
 rw[he]at hcv
 go_enter L.f152,Body.n152_ntmps ρ
 go_wp2_with (first
  | (go_at_fn (ρ.f 119);refine(Any.utf8_ValidRune { L with} _ _).mono ?_;rintro e w' ⟨rfl,hw⟩;rw[hw,h1]))
 refine wp_scope_straight ?_
 go_wp2
 go_loopg [9] 0 (fun _ s9 wx=>s9= .int .i64 ((e.size:Int) - 1)∧wx=w)
 case atStart=>exact⟨rfl,rfl⟩
 case round=>
  obtain⟨rfl,rfl⟩:=hrel
  by_cases h2:e.size=2
  ·obtain⟨a,c,rfl⟩: ∃a c,e=⟨#[a,c]⟩:=by
    rcases e with⟨⟨l⟩⟩
    have hl:l.length=2:=h2
    match l,hl with
    | [a,c],_=>exact⟨a,c,rfl⟩
   have hc:128≤c.toNat:=kl (by show 2 - 1<2;omega)
   have hne:((((⟨#[0,47]⟩:ByteArray)[1]'(by decide)).toNat:Int) != (((⟨#[a,c]⟩:ByteArray)[1]'(by show 1<2;omega)).toNat:Int))=true:=by
    show((47:Int) != (c.toNat:Int))=true
    simp;omega
   go_wp2
   go_step3
   go_wp2
   refine wp_region_quiet_lit mixed (by kernel_rfl) ?_
   repeat(quiet_step (fail))
   refine wpQuiet_nil ?_
   rintro _ ⟨nq,rfl⟩
   have hb:Below wr.heap.size wr (wr.drewN nq):=Below_drewN (Below.refl _ _) _
   generalize wr.drewN nq=wq at hb⊢
   go_wp2
   have hI:=fun(s:ByteArray) (k:Int) (w:World)=>Any.strings_IndexByte (P:=P) (ρ:=ρ) { L with} s k w
   have hw2:IntKind.i64.wrap 2=2:=by decide
   have hw3:(⟨#[0,47]⟩:ByteArray).size=2:=rfl
   refine wp_region_quiet_lit mixed (by kernel_rfl) ?_
   repeat(quiet_step (exact Calls.quiet_of_same (hI _ _ _)))
   refine wpQuiet_nil ?_
   rintro _ ⟨nq,rfl⟩
   replace hb:Below wr.heap.size wr (wq.drewN nq):=Below_drewN hb _
   generalize wq.drewN nq=wq at hb⊢
   have hi0: ∀x,Lib.indexByte [] x= -1:=fun _=>rfl
   simp only[hi0]
   go_wp2
   simp only[Exit.noGoto_ret,Exit.inBlock,Exit.then]
   go_ret
   exact⟨rfl,hb⟩
  ·have hz: ¬((e.size:Int) - 1<2):=by omega
   go_wp2
   go_ret
   exact⟨rfl,Below.refl _ _⟩
set_option maxRecDepth 1000000 in
theorem Any.IndexRune_err (L:Lays.n152 P ρ)(w:World):
  Calls P (ρ.f 152) #[.string ⟨#[0,47]⟩, .int .i32 65533] w fun e w'=>e= .returned (.int .i64 (-1))∧Below w.heap.size w w':=by
 have mixed:=L.mixed
 have t3:=L.t3;have a3:=L.a3;have z3:=L.z3;have v3:=L.v3
 have t4:=L.t4;have a4:=L.a4;have z4:=L.z4;have v4:=L.v4
 have t5:=L.t5;have a5:=L.a5;have z5:=L.z5;have v5:=L.v5
 have t9:=L.t9;have a9:=L.a9;have z9:=L.z9;have v9:=L.v9
 have t21:=L.t21;have a21:=L.a21;have z21:=L.z21;have v21:=L.v21
 obtain⟨c,hc⟩: ∃c:ByteArray,c=⟨#[0,47]⟩:=⟨_,rfl⟩
 have h2:c.size=2:=by rw[hc];rfl
 have hx: ∀(i:Nat) (h:i<c.size),(c[i]'h).toNat<128∧((((c[i]'h).toNat:Nat):Int)==65533)=false:=by
  subst hc
  intro i h
  have:i=0∨i=1:=by
                have:(⟨#[0,47]⟩:ByteArray).size=2:=rfl
                omega
  rcases this with rfl | rfl
  ·exact⟨(by show(0:Nat)<128;omega),rfl⟩
  ·exact⟨(by show(47:Nat)<128;omega),rfl⟩
 rw[← hc]
 clear hc
 go_enter L.f152,Body.n152_ntmps ρ
 go_wp2
 go_loopg [5,6] c.size (fun g _ _ wx=> ∃i:Nat,i+g=c.size∧wx=w.iter c i)
 case atStart=>exact⟨0,by omega,rfl⟩
 case round=>
  obtain⟨i,hig,rfl⟩:=hrel
  cases gk with
  | zero=>
   obtain rfl:i=c.size:=by omega
   have hnx:=fun ty=>run_next_end (P:=P) w c 2 ty (by omega)
   go_wp2
   go_ret
   exact⟨rfl,(Below.refl _ _).alloc (Nat.le_refl _) _⟩
  | succ g=>
   have hi:i<c.size:=by omega
   have hnx:=fun ty=>run_next_ascii (P:=P) w c i ty hi (hx i hi).1
   have hne:=(hx i hi).2
   go_wp2
   go_roundg g
   case measure=>omega
   case rel=>exact⟨i+1,by omega,rfl⟩
set_option maxRecDepth 1000000 in
theorem Any.IndexAny_any8 (L:Lays.n153 P ρ)(s:ByteArray)(w:World)(h8:s.size≤8):
  Calls P (ρ.f 153) #[.string s, .string ⟨#[0,47]⟩] w fun e w'=>e= .returned (.int .i64 (Lib.indexAny s.data.toList [0,47]))∧Below w.heap.size w w':=by
 obtain⟨c,hc⟩: ∃c:ByteArray,c=⟨#[0,47]⟩:=⟨_,rfl⟩
 have hemp:c.toList.isEmpty=false:=by rw[Lib.toList_data,hc];rfl
 have hcs:c.size=2:=by rw[hc];rfl
 have hcl:c.data.toList=[0,47]:=by rw[hc]
 have hfar: ∀(r:Int) (w:World),128≤r→Utf8.valid r=true→Calls P (ρ.f 152) #[.string c, .int .i32 r] w fun e w'=>e= .returned (.int .i64 (-1))∧Below w.heap.size w w':=fun r w h0 h1=>by
  rw[hc]
  by_cases h3:r=65533
  ·rw[h3];exact Any.IndexRune_err { L with} w
  ·exact Any.IndexRune_far { L with} r w h0 ((Go.validRune_eq r).symm.trans h1) h3
 rw[← hc]
 clear hc
 have hn1:((c.size:Int)==1)=false:=beq_eq_false_iff_ne.2 (by omega)
 have h8z:decide ((8:Int)< (s.size:Int))=false:=decide_eq_false (by omega)
 have t3:=L.t3;have a3:=L.a3;have z3:=L.z3;have v3:=L.v3
 have t4:=L.t4;have a4:=L.a4;have z4:=L.z4;have v4:=L.v4
 have t5:=L.t5;have a5:=L.a5;have z5:=L.z5;have v5:=L.v5
 have t9:=L.t9;have a9:=L.a9;have z9:=L.z9;have v9:=L.v9
 have t21:=L.t21;have a21:=L.a21;have z21:=L.z21;have v21:=L.v21
 have e152: ∀args w,(callFunc (ρ.f 152) args).run P w= .ok (.enter (ρ.f 152) args) w:=enters_of L.f152 (by kernel_rfl) rfl
 have e226: ∀args w,(callFunc (ρ.f 226) args).run P w= .ok (.enter (ρ.f 226) args) w:=enters_of L.f226 (by kernel_rfl) rfl
 go_enter L.f153,Body.n153_ntmps ρ
 go_wp2_with (go_at_fn (ρ.f 226);refine(Any.strings_shouldUseASCIISet { L with} _ _).mono ?_;rintro e w' ⟨rfl,hw⟩;rw[hw,h8z])
 go_loopg [9,10] s.size (fun g _ _ wx=> ∃i:Nat,i≤s.size∧s.size≤i+g∧wx.heap[w.heap.size]? =some (.stringIter s i)∧Below w.heap.size w wx∧Lib.NoAny s.data.toList [0,47] i)
 case atStart=>exact⟨0,by omega,by omega,World.iter_heap _ _ _,(Below.refl _ _).alloc (Nat.le_refl _) _,Lib.NoAny.zero _ _⟩
 case round=>
  obtain⟨i,his,hig,hit,hbw,hno⟩:=hrel
  have HN:Aside (Lib.NoAny s.data.toList [0,47] i):=hno
  clear hno
  have hsz:w.heap.size<wr.heap.size:=(Array.getElem?_eq_some_iff.1 hit).1
  by_cases hi:i<s.size
  ·cases gk with
   | zero=>omega
   | succ g=>
    obtain⟨x,hx⟩: ∃x:UInt8,s[i]'hi=x:=⟨_,rfl⟩
    have hxl:s.data.toList[i]? =some x:=by rw[← hx];exact Lib.data_getElem? s i hi
    by_cases hx128:x.toNat<128
    ·have hnx:=fun ty=>Lib.run_next_ascii_at (P:=P) wr w.heap.size s i ty hit hi (by rw[hx];exact hx128)
     rw[hx]at hnx
     have hit2:=Lib.iterAt_heap wr w.heap.size s i (i+1) hit
     have hbw2:=Lib.below_iterAt hbw (Nat.le_refl _) s (i+1)
     generalize wr.iterAt w.heap.size s (i+1)=w2 at hnx hit2 hbw2
     have Hx:Aside (s.data.toList[i]? =some x):=hxl
     clear hxl hx
     have hcon:=Lib.contains_iff_indexByte c.data.toList x
     rw[hcl]at hcon
     have hback:((x.toNat:Int)).toNat.toUInt8=x:=by simp
     cases hin:[0,47].contains x
     ·rw[hin]at hcon
      have hlt: ¬((0:Int)≤Lib.indexByte [0,47] x):=of_decide_eq_false hcon.symm
      clear hcon
      go_wp2_with (go_at_fn (ρ.f 152);refine(Any.strings_IndexRune_ascii { L with} _ _ _ (by omega) (by omega)).mono ?_;rintro e w' ⟨rfl,hw⟩;rw[hw,hback,hcl])
      go_roundg g
      case measure=>omega
      case rel=>exact⟨i+1,by omega,by omega,hit2,hbw2,HN.out.succ Hx.out hin⟩
     ·rw[hin]at hcon
      have hge:(0:Int)≤Lib.indexByte [0,47] x:=of_decide_eq_true hcon.symm
      clear hcon
      go_wp2_with (go_at_fn (ρ.f 152);refine(Any.strings_IndexRune_ascii { L with} _ _ _ (by omega) (by omega)).mono ?_;rintro e w' ⟨rfl,hw⟩;rw[hw,hback,hcl])
      go_ret
      exact⟨by rw[Lib.indexAny_hit HN.out Hx.out hin];rfl,hbw2⟩
    ·have hnx:=fun ty=>Lib.run_next_any_at (P:=P) wr w.heap.size s i ty hit hi
     obtain⟨d1,d2,d3,d4⟩:=decode_far s i hi (by rw[hx];omega)
     generalize Utf8.decode s i=de at hnx d1 d2 d3 d4
     obtain⟨r,k⟩:=de
     simp only at hnx d1 d2 d3 d4
     have hik:i+k≤s.size:=by have:=(d4 (k - 1) (by omega)).1;omega
     have hno2:Lib.NoAny s.data.toList [0,47] (i+k):=fun j b hj hb=>by
      by_cases hji:j<i
      ·exact HN.out j b hji hb
      ·obtain⟨q1,q2⟩:=d4 (j - i) (by omega)
       rw[show i+(j - i)=j by omega]at q1 q2
       have hjb:=Lib.data_getElem? s j q1
       rw[hb,Option.some.injEq]at hjb
       have:=get_at s j q1
       rw[Nat.add_zero]at this
       rw[this, ← hjb]at q2
       simp only[List.contains_cons,List.contains_nil,Bool.or_false,Bool.or_eq_false_iff,beq_eq_false_iff_ne]
       exact⟨fun e=>by rw[e]at q2;exact absurd q2 (by decide),fun e=>by rw[e]at q2;exact absurd q2 (by decide)⟩
     have hit2:=Lib.iterAt_heap wr w.heap.size s i (i+k) hit
     have hbw2:=Lib.below_iterAt hbw (Nat.le_refl _) s (i+k)
     generalize wr.iterAt w.heap.size s (i+k)=w2 at hnx hit2 hbw2
     have Hn:Aside (Lib.NoAny s.data.toList [0,47] (i+k)):=hno2
     clear hno2 d4 hxl hx
     have hs2:w.heap.size<w2.heap.size:=(Array.getElem?_eq_some_iff.1 hit2).1
     have hm1: ¬((0:Int)≤ -1):=by omega
     go_wp2_with (go_at_fn (ρ.f 152);refine(hfar _ _ (by omega) d2).mono ?_;rintro e w' ⟨rfl,hw⟩)
     go_roundg g
     case measure=>omega
     case rel=>exact⟨i+k,by omega,by omega,(hw.block _ hs2).trans hit2,hbw2.trans (hw.mono (by omega)),Hn.out⟩
  ·obtain rfl:i=s.size:=by omega
   have hnx:=fun ty=>Lib.run_next_end_at (P:=P) wr w.heap.size s s.size ty hit (by omega)
   go_wp2
   go_ret
   exact⟨by rw[Lib.indexAny_none (by rw[← Lib.size_eq];exact HN.out)];rfl,hbw⟩
theorem Any.ContainsAny_any (L:Lays.n150 P ρ)(h116:(P.info? (ρ.t 116)).map (fun i=>(i.zero,i.size))=some (some (.agg (Array.replicate 256 (.bool false))),256))(s:ByteArray)(w:World)(hs:s.size<4294967281):
  Calls P (ρ.f 150) #[.string s, .string ⟨#[0,47]⟩] w fun e w'=>e= .returned (.bool (Lib.containsAny s.data.toList [0,47]))∧Below w.heap.size w w':=by
 have c:Calls P (ρ.f 153) #[.string s, .string ⟨#[0,47]⟩] w fun e w'=>e= .returned (.int .i64 (Lib.indexAny s.data.toList [0,47]))∧Below w.heap.size w w':=by
  by_cases h8:s.size≤8
  ·exact Any.IndexAny_any8 { L with} s w h8
  ·refine(Any.strings_IndexAny_long { L with} (zero_of_info h116).1 (zero_of_info h116).2 s ⟨#[0,47]⟩ w (by show 2≤2;omega) (by omega) hs (by show 2< _;omega) ?_).mono fun e w' ⟨h1,h2⟩=>⟨h1, ?_⟩
   ·intro j b hb
    have hm:=List.mem_of_getElem? hb
    change b∈[0,47]at hm
    simp only[List.mem_cons,List.not_mem_nil,or_false]at hm
    rcases hm with rfl | rfl<;>decide
   ·rw[h2]
    exact((Below.refl _ _).alloc (Nat.le_refl _) _).alloc (by simp) _
 have t3:=L.t3;have a3:=L.a3;have z3:=L.z3;have v3:=L.v3
 have t4:=L.t4;have a4:=L.a4;have z4:=L.z4;have v4:=L.v4
 have t9:=L.t9;have a9:=L.a9;have z9:=L.z9;have v9:=L.v9
 have e153: ∀args w,(callFunc (ρ.f 153) args).run P w= .ok (.enter (ρ.f 153) args) w:=enters_of L.f153 (by kernel_rfl) rfl
 go_enter L.f150,Body.n150_ntmps ρ
 go_wp2_with (go_at_fn (ρ.f 153);refine c.mono ?_;rintro e w' ⟨rfl,hw⟩)
 go_ret
 exact⟨rfl,hw⟩
end Go.Proofs
end
section
namespace Go.Proofs
open Go.Shelf
def Tryz.laysAny_ren:Go.Shelf.Ren:=⟨fun | 150=>587 | 153=>619 | 152=>640 | 226=>641 | 227=>628 | 228=>642 | 137=>650 | 119=>651 | 224=>652 | 225=>653 | 217=>658 | 266=>660 | n=>n,fun | 9=>9 | 4=>4 | 3=>3 | 5=>5 | 21=>21 | 117=>756 | 116=>755 | 0=>0 | 46=>303 | 124=>759 | n=>n,fun | n=>n⟩
theorem Tryz.laysAny:Go.Proofs.Lays.n150 Tryz.prog Tryz.laysAny_ren:= {
 mixed:=by kernel_rfl
 f119:=Tryz.func651.trans (congrArg some (by kernel_rfl))
 f137:=Tryz.func650.trans (congrArg some (by kernel_rfl))
 f150:=Tryz.func587.trans (congrArg some (by kernel_rfl))
 f152:=Tryz.func640.trans (congrArg some (by kernel_rfl))
 f153:=Tryz.func619.trans (congrArg some (by kernel_rfl))
 f217:=Tryz.func658.trans (congrArg some (by kernel_rfl))
 f224:=Tryz.func652.trans (congrArg some (by kernel_rfl))
 f225:=Tryz.func653.trans (congrArg some (by kernel_rfl))
 f226:=Tryz.func641.trans (congrArg some (by kernel_rfl))
 f227:=Tryz.func628.trans (congrArg some (by kernel_rfl))
 f228:=Tryz.func642.trans (congrArg some (by kernel_rfl))
 f266:=Tryz.func660.trans (congrArg some (by kernel_rfl))
 t0:=Tryz.underlying0
 a0:=Tryz.isAgg0
 z0:=Tryz.sizeOf0
 v0:=Tryz.zeroValue0
 t3:=Tryz.underlying3
 a3:=Tryz.isAgg3
 z3:=Tryz.sizeOf3
 v3:=Tryz.zeroValue3
 t4:=Tryz.underlying4
 a4:=Tryz.isAgg4
 z4:=Tryz.sizeOf4
 v4:=Tryz.zeroValue4
 t5:=Tryz.underlying5
 a5:=Tryz.isAgg5
 z5:=Tryz.sizeOf5
 v5:=Tryz.zeroValue5
 t9:=Tryz.underlying9
 a9:=Tryz.isAgg9
 z9:=Tryz.sizeOf9
 v9:=Tryz.zeroValue9
 t21:=Tryz.underlying21
 a21:=Tryz.isAgg21
 z21:=Tryz.sizeOf21
 v21:=Tryz.zeroValue21
 t46:=Tryz.underlying303
 a46:=Tryz.isAgg303
 z46:=Tryz.sizeOf303
 v46:=Tryz.zeroValue303
 t116:=Tryz.underlying755
 a116:=Tryz.isAgg755
 z116:=Tryz.sizeOf755
 t117:=Tryz.underlying756
 a117:=Tryz.isAgg756
 z117:=Tryz.sizeOf756
 v117:=Tryz.zeroValue756
 t124:=Tryz.underlying759
 a124:=Tryz.isAgg759
 z124:=Tryz.sizeOf759
 v124:=Tryz.zeroValue759}
end Go.Proofs
end
section
namespace Go.Eng
open Go.Proofs
def hasK:Nat→Nat→Bool
 | 0,_=>false
 | n+1,b=>bif Nat.beq (b % 256) 0 then true else bif Nat.beq (b % 256) 47 then true else hasK n (b / 256)
theorem hasK_pack: ∀l:List UInt8,hasK l.length (pack l)=l.any fun b=>b==0||b==47
 | []=>rfl
 | b::l=>by
  have hb:=b.toNat_lt
  have e1:pack (b::l) % 256=b.toNat:=by simp only[pack];omega
  have e2:pack (b::l) / 256=pack l:=by simp only[pack];omega
  have f: ∀(k:UInt8),Nat.beq b.toNat k.toNat=(b==k):=fun k=>by
   rw[Bool.eq_iff_iff,Nat.beq_eq,beq_iff_eq,UInt8.toNat_inj]
  have f0:Nat.beq b.toNat 0=(b==0):=f 0
  have f1:Nat.beq b.toNat 47=(b==47):=f 47
  rw[List.length_cons,hasK,e1,e2,hasK_pack l,f0,f1,List.any_cons]
  cases b==0<;>cases b==47<;>rfl
theorem any_of: ∀l:List UInt8,Lib.containsAny l [0,47]=l.any fun b=>b==0||b==47
 | []=>rfl
 | b::l=>by
  have ih:=any_of l
  have hg:=Lib.indexAny_ge [0,47] l
  rw[List.any_cons, ← ih,Lib.containsAny,Lib.containsAny,Lib.indexAny]
  have hc:[0,47].contains b=(b==0||b==47):=by rw[Bool.eq_iff_iff];simp
  rw[hc]
  cases h:(b==0||b==47)with
  | true=>simp
  | false=>
   simp only[Bool.false_eq_true,if_false,Bool.false_or]
   split
   ·rename_i h1
    rw[beq_iff_eq]at h1
    rw[h1]
   ·rename_i h1
    rw[beq_iff_eq]at h1
    rw[decide_eq_true (by omega),decide_eq_true (by omega)]
noncomputable def canyK (m:List AV→AH→Option (AV×AH))(vs:List AV)(H:AH):Option (AV×AH):=match vs with
 | [.str n b, .str 2 c]=>bif Nat.blt n 4294967281&&Nat.beq c 12032 then some (.bool (hasK n b),H)else m vs H
 | vs=>m vs H
theorem canyK_ok {f:FuncId}{m:List AV→AH→Option (AV×AH)}(hf:f= Tryz.laysAny_ren.f 150)(hm:FI f m):FI f (canyK m):=by
 intro az H v H' h
 unfold canyK at h
 split at h
 ·rename_i n b c
  rw[cond_eq_ite]at h
  split at h
  ·rename_i hc
   simp only[Bool.and_eq_true,Nat.blt_eq,Nat.beq_eq]at hc
   obtain⟨hn,rfl⟩:=hc
   simp only[Option.some.injEq,Prod.mk.injEq]at h
   obtain⟨rfl,rfl⟩:=h
   refine⟨Nat.le_refl _,SimIn.q ⟨⟨_,hf▸ Tryz.laysAny.f150,rfl⟩,fun R zs cs w hv hL=> ?_⟩⟩
   obtain⟨z1,zs1,rfl,⟨s,rfl,hs1,hs2⟩,hv⟩:=hv
   obtain⟨z2,zs2,rfl,⟨t,rfl,ht1,ht2⟩,hv⟩:=hv
   simp only[VRL]at hv
   subst hv
   obtain rfl:t=⟨#[0,47]⟩:=by
    have hl:t.data.toList=[0,47]:=pack_inj _ _ (by rw[← Lib.size_eq];exact ht1) (by rw[ht2];rfl)
    rcases t with⟨⟨l⟩⟩
    change l=[0,47]at hl
    rw[hl]
   have c:=Any.ContainsAny_any Tryz.laysAny (by kernel_rfl) s w (by rw[hs1];exact hn)
   rw[← hf]at c
   obtain⟨e,w1,fr',⟨rfl,hb⟩,s1,s2,s3⟩:=c cs
   have hval:Lib.containsAny s.data.toList [0,47]=hasK n b:=by
    rw[any_of, ← hasK_pack,hs2, ← hs1,Lib.size_eq]
   rw[hval]at s3
   refine⟨R,w1, .bool (hasK n b),fr',s1,s2,s3,rfl,hL.below hb, ?_⟩
   exact⟨Sub.refl R,fun _ _ _ _ h=> .inl h,fun _ _ _ _ h=> .inl h,Nat.le_refl _,fun _ _ _=>rfl,hb.os,hb.tape,hb.output,hb.size,fun b hb' _=>hb.block b hb'⟩
  ·exact hm _ _ _ _ h
 ·exact hm _ _ _ _ h
theorem exM_any {vs:List AV}{n b m c:Nat}(h:exM vs=[.str n b, .str m c]):vs=[.str n b, .str m c]:=by
 match vs,h with
 | [x,y],h=>
  simp only[exM,List.cons.injEq,and_true]at h
  cases x<;>simp[ex]at h
  cases y<;>simp[ex]at h
  simp_all
 | [],h=>simp[exM]at h
 | [_],h=>simp[exM]at h
 | _::_::_::_,h=>simp[exM]at h
theorem canyK_s {mp m:FnT}(h:SimF mp m):SimF (canyK mp) (canyK m):=by
 intro vs H Hx hR
 unfold canyK
 split
 ·rename_i n b c
  simp only[exM,ex,cond_eq_ite]
  split
  ·intro v H' e
   simp only[Option.some.injEq,Prod.mk.injEq]at e;obtain⟨rfl,rfl⟩:=e
   exact⟨Hx,by simp[ex],hR⟩
  ·have:=h [.str n b, .str 2 c] H Hx hR
   simp only[exM,ex]at this
   exact this
 ·rename_i hne
  split
  ·rename_i n b c hv
   exact absurd (exM_any hv) (hne n b c)
  ·exact h vs H Hx hR
theorem canyK_okP {f:FuncId}{mp:FnT}(hf:f= Tryz.laysAny_ren.f 150)(hm:FP f mp):FP f (canyK mp):=by
 obtain⟨m,h1,h2⟩:=hm
 exact⟨canyK m,canyK_ok hf h1,canyK_s h2⟩
end Go.Eng
end
section
namespace Go.Eng
theorem Rel.less {R:Ren}{H H':AH}{w:World}(h:Rel R H w)(hs: ∀A o,H'.h.get A=some o→H.h.get A=some o)(hn:H.next=H'.next):Rel R H' w:=
 ⟨h.fn,fun A A' b d c d' c' r r' l l'=>h.inj A A' b d c d' c' r r' (l.imp fun o ho=>⟨hs _ _ ho.1,ho.2⟩) (l'.imp fun o ho=>⟨hs _ _ ho.1,ho.2⟩),fun A b d c o r ho=>h.obj A b d c o r (hs _ _ ho),fun A b d c r=>hn▸h.lt A b d c r,h.tb⟩
section
variable {P:Program}{X:Cx}(hX:Ok P X)
include hX in
theorem fun_of_sim {f:FuncId}{fn:Func}{body:Code}(hfn:P.funcs[f]? =some fn)(hbody:fn.body=some body)(hle:fn.params.size+fn.nfree≤fn.ntmps){args:List AV}{H H':AH}{v:AV}(hlen:args.length=fn.params.size+fn.nfree)
  (hsim:SimI P fn.ntmps f false (.code body) (fun t=>args[t]?) H (fun env' H''=> ∃H3,retE X fn.results.toList env' H''=some (.ret v,H3)∧H'.next=H3.next∧ ∀A,H'.h.get A=H3.h.get A) (fun _ _ _=>False)
   (fun env' H''=> ∃H3,retE X fn.results.toList env' H''=some (.ret v,H3)∧H'.next=H3.next∧ ∀A,H'.h.get A=H3.h.get A) (fun _ _=>False)):SimIn P f args H v H':=by
 refine⟨⟨fn,hfn,by simp[hbody]⟩,fun R az cs w hv hL=> ?_⟩
 have hlk: ∀t,look (fun t=>args[t]?) t=if 0≤t∧t<0+(fn.params.size+fn.nfree)then args[t - 0]? else look env0 t:=by
  intro t
  by_cases h:t<fn.params.size+fn.nfree
  ·rw[if_pos (by omega)];rfl
  ·rw[if_neg (by omega)]
   simp only[look,env0]
   exact List.getElem?_eq_none (by omega)
 have hE:=enter_env (P:=P) (kd:= .normal) hfn hle hlen hv hlk
 have htd:(Frame.enter P f ⟨az⟩ .normal).todo= .code body::[]:=by simp[Frame.enter,hfn,hbody]
 obtain⟨R1,w1,t1,td1,ds1,env1,H2,s1,e1,l1,x1,n1,m1,o1⟩:=hsim w.heap.size R (Frame.enter P f ⟨az⟩ .normal) [] cs w rfl (fun _=>⟨rfl,rfl⟩) htd hE hL (Marks.nil _ _ _) (Nat.le_refl _)
 have hfin: ∃fr':Frame,Steps P (lone (Frame.enter P f ⟨az⟩ .normal) cs w) (lone fr' cs w1)∧fr'.fn=f∧fr'.mode= .returning∧fr'.defers=ds1∧fr'.kind= .normal∧fr'.tmps=t1∧ ∃H3,retE X fn.results.toList env1 H2=some (.ret v,H3)∧H'.next=H3.next∧ ∀A,H'.h.get A=H3.h.get A:=by
  rcases o1 with⟨rfl,b2⟩ | ⟨id,k',b1,b2,b3⟩ | ⟨k',rfl,b2⟩ | ⟨x,z,_,_,b3⟩
  ·exact⟨_,s1.trans (.one (st_end (fr:= { Frame.enter P f ⟨az⟩ .normal with tmps:=t1,todo:=[],defers:=ds1}) rfl rfl rfl)),rfl,rfl,rfl,rfl,rfl,b2⟩
  ·exact b3.elim
  ·exact⟨_,s1.trans (.one (st_ret (fr:= { Frame.enter P f ⟨az⟩ .normal with tmps:=t1,todo:= .code .ret::k',defers:=ds1}) rfl rfl rfl)),rfl,rfl,rfl,rfl,rfl,b2⟩
  ·exact b3.elim
 obtain⟨fr',hs,f1,f2,f3,f4,f5,H3,hret,hn3,hg3⟩:=hfin
 obtain⟨w2,u1,u2,u3⟩:=unwind_marks (P:=P) (cs:=cs) ds1 fr' w1 R1 H2 (by simp[f2]) f3 m1 l1 x1
 obtain⟨rfl,z,z1,z2⟩:=ret_going (B:=⟨X,[]⟩) hX hfn u2 e1 hret
 refine⟨R1,w2,z, { fr' with defers:=[] },hs.trans u1,f1,⟨f2,rfl,f4,fn,by rw[f1];exact hfn,by rw[f5];exact z1⟩,z2,u2.less (fun A o h=>by rw[← hg3];exact h) hn3.symm, ?_⟩
 exact⟨u3.sub,u3.new,u3.newA,by rw[hn3];exact u3.next,fun A hA hR=>by rw[hg3];exact u3.keepA A hA hR,u3.os,u3.tape,u3.output,u3.size,u3.keep⟩
end
def SlS (N:Nat)(e:TypeId)(Hk:AH)(l:List AV)(sl:AV):Prop:=
 Hk.next=N+1+2*l.length∧((l=[]∧sl= .nilSlice)∨(l≠[]∧sl= .slice (N+2*l.length) 0 l.length 1∧Hk.h.get (N+2*l.length)=some (.cells l e 1 true)))
theorem sub_all (l:List AV):subN l 0 l.length=some l:=by
 cases l with
 | nil=>rfl
 | cons a l=>exact takeN_all (a::l)
theorem newA_free {H:AH}(o:AObj)(h:H.h.get H.next=none): ∃t,T.set 40 H.h H.next o=some t∧newA H o=some (H.next,⟨t,H.next+1⟩):=by
 obtain⟨t,ht⟩:=Option.isSome_iff_exists.1 (T.set_some 40 H.h H.next o)
 exact⟨t,ht,by simp only[newA,h,newA0,ht]⟩
theorem app_push {N:Nat}{e:TypeId}{Hk:AH}{l:List AV}{sl:AV}(hs:SlS N e Hk l sl){n:Int}(h1:Hk.h.get Hk.next=none)(h2:Hk.h.get (Hk.next+1)=none)(hr:l.length<1000000)(K:AV→AH→Rs):
  ∃H3 sl',(bA (bldL e 1 1 [.int .i64 (.ofNat 0)] [(0, .int .i64 n)]) Hk fun x H=>bR (apP e 1 8 sl x H) K)=K sl' H3∧SlS N e H3 (l++[.int .i64 n]) sl'∧
   (∀C,C<N+1→H3.h.get C=Hk.h.get C)∧(∀C,H3.next≤C→H3.h.get C=Hk.h.get C):=by
 obtain⟨hn,hsl⟩:=hs
 have hb:bldL e 1 1 [.int .i64 (.ofNat 0)] [(0, .int .i64 n)]=some (.cells [.int .i64 n] e 1 false,fun A=> .slice A 0 1 2):=rfl
 obtain⟨t1,ht1,hnew⟩:=newB_free (.cells [.int .i64 n] e 1 false) h1
 have g1:=T.get_set _ _ _ _ _ ht1
 simp only[hb,bA,hnew]
 have hsrc:srcOf 1 (.slice Hk.next 0 1 2) ⟨t1,Hk.next+1⟩=some (1,[.int .i64 n]):=by
  simp only[srcOf,g1,if_true];rfl
 have hall:allCells [AV.int .i64 n]=true:=rfl
 have hroomy: ∀k,k≤1000000→roomy k 8=true:=by
  intro k hk
  simp only[roomy,Bool.and_eq_true,Nat.ble_eq,Nat.blt_eq]
  omega
 rcases hsl with⟨rfl,rfl⟩ | ⟨hne,rfl,hg⟩
 ·
  simp only[List.length_nil,Nat.mul_zero,Nat.add_zero]at hn
  have hfree2:(⟨t1,Hk.next+1⟩:AH).h.get (⟨t1,Hk.next+1⟩:AH).next=none:=by
   show t1.get (Hk.next+1)=none
   rw[g1,if_neg (by omega)];exact h2
  obtain⟨t2,ht2,hnew2⟩:=newA_free (.cells ([]++[.int .i64 n]) e 1 true) hfree2
  have g2:=T.get_set _ _ _ _ _ ht2
  have happ:apP e 1 8 .nilSlice (.slice Hk.next 0 1 2) ⟨t1,Hk.next+1⟩=some (.slice (Hk.next+1) 0 1 1,⟨t2,Hk.next+1+1⟩):=by
   simp only[apP,hsrc,hall,cond_true,app1]
   have:Nat.beq 1 0=false:=rfl
   simp only[this,cond_false,appGrow,hroomy 1 (by omega),cond_true,agrow,hnew2,fN_eq]
  refine⟨⟨t2,Hk.next+1+1⟩, .slice (Hk.next+1) 0 1 1,by simp only[happ,bR],⟨?_, .inr ⟨by simp, ?_, ?_⟩⟩,fun C hC=> ?_,fun C hC=> ?_⟩
  ·simp only[List.nil_append,List.length_singleton];omega
  ·simp only[List.nil_append,List.length_singleton,hn]
  ·simp only[List.nil_append,List.length_singleton]
   show t2.get (N+2*1)=_
   rw[g2,if_pos (by show N+2*1=Hk.next+1;omega)];rfl
  ·show t2.get C=_
   rw[g2,if_neg (by show ¬C=Hk.next+1;omega),g1,if_neg (by omega)]
  ·have hC':Hk.next+1+1≤C:=hC
   show t2.get C=_
   rw[g2,if_neg (by show ¬C=Hk.next+1;omega),g1,if_neg (by omega)]
 ·
  have hl0:0<l.length:=List.length_pos_iff.2 hne
  have hA1:t1.get (N+2*l.length)=some (.cells l e 1 true):=by rw[g1,if_neg (by omega)];exact hg
  obtain⟨t2,ht2⟩:=Option.isSome_iff_exists.1 (T.set_some 40 t1 (N+2*l.length) .dead)
  have g2:=T.get_set _ _ _ _ _ ht2
  have hfree2:(⟨t2,Hk.next+1⟩:AH).h.get (⟨t2,Hk.next+1⟩:AH).next=none:=by
   show t2.get (Hk.next+1)=none
   rw[g2,if_neg (by omega),g1,if_neg (by omega)];exact h2
  obtain⟨t3,ht3,hnew3⟩:=newA_free (.cells (l++[.int .i64 n]) e 1 true) hfree2
  have g3:=T.get_set _ _ _ _ _ ht3
  have hroom:roomOf l true 1 0 1 1=l.length:=by
   unfold roomOf
   have h1:Nat.beq (1 % 2) 0=false:=rfl
   have h2:(true&&Nat.beq 1 1&&Nat.beq 0 (1 / 2*1))=true:=rfl
   simp only[h1,cond_false,h2,cond_true,lenL_eq,Nat.add_zero,Nat.sub_zero,Nat.div_one]
  have happ:apP e 1 8 (.slice (N+2*l.length) 0 l.length 1) (.slice Hk.next 0 1 2) ⟨t1,Hk.next+1⟩=some (.slice (Hk.next+1) 0 (l.length+1) 1,⟨t3,Hk.next+1+1⟩):=by
   simp only[apP,hsrc,hall,cond_true,app1,hA1,app2,hroom]
   have b1:Nat.ble (l.length+1) l.length=false:=by rw[Bool.eq_false_iff];simp
   have b2:Nat.beq (1 % 2) 0=false:=rfl
   have b3:(true&&Nat.beq (0+l.length*1) (lenL l 0)&&Nat.beq e e&&Nat.beq 1 1&&Nat.beq 0 (1 / 2*1))=true:=by
    simp only[lenL_eq,Nat.zero_add,Nat.mul_one,Nat.add_zero,Nat.beq_refl];rfl
   simp only[b1,cond_false,b2,b3,cond_true,putA,ht2]
   simp only[Nat.mul_one,sub_all,cond_true,appGrow,hroomy (l.length+1) (by omega),agrow,hnew3,fN_eq]
  refine⟨⟨t3,Hk.next+1+1⟩, .slice (Hk.next+1) 0 (l.length+1) 1,by simp only[happ,bR],⟨?_, .inr ⟨by simp, ?_, ?_⟩⟩,fun C hC=> ?_,fun C hC=> ?_⟩
  ·simp only[List.length_append,List.length_singleton];omega
  ·simp only[List.length_append,List.length_singleton]
   rw[show N+2*(l.length+1)=Hk.next+1 from by omega]
  ·show t3.get _=_
   rw[g3,if_pos (by simp only[List.length_append,List.length_singleton];omega)]
  ·show t3.get C=_
   rw[g3,if_neg (by show ¬C=Hk.next+1;omega),g2,if_neg (by omega),g1,if_neg (by omega)]
  ·have hC':Hk.next+1+1≤C:=hC
   show t3.get C=_
   rw[g3,if_neg (by show ¬C=Hk.next+1;omega),g2,if_neg (by omega),g1,if_neg (by omega)]
def OutS (H:AH)(e:TypeId)(l:List AV)(sl:AV)(H':AH):Prop:=
 H'.next=H.next+1+2*l.length∧((l=[]∧sl= .nilSlice∧ ∀A,H'.h.get A=H.h.get A)∨
  (l≠[]∧sl= .slice (H.next+2*l.length) 0 l.length 1∧ ∀A,H'.h.get A=if A=H.next+2*l.length then some (.cells l e 1 true)else H.h.get A))
theorem fil_plan {q:ML}{B:Tb}{D:Dyn}{n nt:Nat}{hb:Hint}{L:List Nat}{a b:AV}{H:AH}{M:Nat}{ks:List Nat}{es:List (AV×AV)}{e:TypeId}{p:AV→Bool}
  (hpre:q.preK B D nt L [a,b, .nilSlice] H=some (.norm (.map M::[a,b, .nilSlice]),H)) (hM:H.h.get M=some (.map ks es)) (hMn:M<H.next) (hfree:freeN H.h H.next (2*es.length+2)=true) (hroom:H.next+1<2 ^ 40) (hlen:es.length<1000000)
  (hkeys: ∀x∈es,∃n,x.1= .int .i64 n)
  (hround: ∀k v sl Hk,(k,v)∈es→(∀C,C<H.next→C≠M→Hk.h.get C=H.h.get C)→q.roundK B D n nt hb L H.next [a,b,sl] k v Hk=
   bif p v then(bA (bldL e 1 1 [.int .i64 (.ofNat 0)] [(0,k)]) Hk fun x H'=>bR (apP e 1 8 sl x H') fun y H'=>some (.norm [.ptr H.next 0,a,b,y],H'))else some (.norm [.ptr H.next 0,a,b,sl],Hk)):
  Nonempty (q.PlanV B D n nt hb L [a,b, .nilSlice] H (fun vs' H'=> ∃l sl,vs'=[a,b,sl]∧l.Perm ((es.filter fun x=>p x.2).map (·.1))∧OutS H e l sl H')):=by
 have hfr:=freeN_ok hfree
 refine⟨{
  M:=M
  ks:=ks
  es:=es
  inv:=fun vis vs' Hk=> ∃sl,vs'=[a,b,sl]∧SlS H.next e Hk ((vis.filter fun x=>p x.2).map (·.1)) sl∧(∀C,C<H.next→C≠M→Hk.h.get C=H.h.get C)∧(∀C,Hk.next≤C→Hk.h.get C=H.h.get C)
  pre:=hpre
  room:=hroom
  map:=hM
  start:= ?_
  step:= ?_
  raw:= ?_
  fin:= ?_}⟩
 ·intro x y t1 t2 h1 h2
  have g1:=T.get_set _ _ _ _ _ h1
  have g2:=T.get_set _ _ _ _ _ h2
  refine⟨.nilSlice,rfl,⟨rfl, .inl ⟨rfl,rfl⟩⟩,fun C hC hCM=> ?_,fun C hC=> ?_⟩
  ·show t2.get C=_
   rw[g2,if_neg (by omega),g1,if_neg hCM]
  ·have hC':H.next+1≤C:=hC
   show t2.get C=_
   rw[g2,if_neg (by omega),g1,if_neg (by omega)]
 ·rintro vis k v rest vs' Hk ⟨sl,rfl,hs,h1,h2⟩ hperm
  have hin:(k,v)∈es:=hperm.subset (by simp)
  obtain⟨nn,hk⟩:=hkeys _ hin
  simp only at hk;subst hk
  have hvl:vis.length+1≤es.length:=by
   have:=hperm.length_eq
   simp at this;omega
  have hfl:((vis.filter fun x=>p x.2).map (·.1)).length≤vis.length:=by
   rw[List.length_map];exact List.length_filter_le _ _
  have hnx:=hs.1
  rw[hround _ _ _ _ hin h1]
  cases hp:p v with
  | false=>
   refine⟨_,Hk,rfl,rfl,rfl,sl,rfl, ?_,h1,h2⟩
   rw[List.filter_append,List.map_append]
   simpa[hp]using hs
  | true=>
   simp only[cond_true]
   have f1:Hk.h.get Hk.next=none:=by rw[h2 _ (Nat.le_refl _)];exact hfr _ (by omega) (by omega)
   have f2:Hk.h.get (Hk.next+1)=none:=by rw[h2 _ (by omega)];exact hfr _ (by omega) (by omega)
   obtain⟨H3,sl',hk,hs',g1,g2⟩:=app_push hs (n:=nn) f1 f2 (by omega) (fun y H'=>some (.norm [.ptr H.next 0,a,b,y],H'))
   have hn3:=hs'.1
   simp only[List.length_append,List.length_singleton]at hn3
   refine⟨[a,b,sl'],H3,hk,g1 _ (by omega),g1 _ (by omega),sl',rfl, ?_,fun C hC hCM=> ?_,fun C hC=> ?_⟩
   ·rw[List.filter_append,List.map_append]
    simpa[hp]using hs'
   ·rw[g1 _ (by omega)];exact h1 C hC hCM
   ·rw[g2 _ hC];exact h2 C (by omega)
 ·rintro vis vs' Hk y t' ⟨sl,rfl,hs,h1,h2⟩ hset
  have g:=T.get_set _ _ _ _ _ hset
  have hnx:=hs.1
  refine⟨sl,rfl,⟨hs.1, ?_⟩,fun C hC hCM=> ?_,fun C hC=> ?_⟩
  ·rcases hs.2 with h | ⟨hne,h3,h4⟩
   ·exact .inl h
   ·have:=List.length_pos_iff.2 hne
    refine .inr ⟨hne,h3, ?_⟩
    show t'.get _=_
    rw[g,if_neg (by omega)];exact h4
  ·show t'.get C=_
   rw[g,if_neg (by omega)];exact h1 C hC hCM
  ·have hC':Hk.next≤C:=hC
   show t'.get C=_
   rw[g,if_neg (by omega)];exact h2 C hC
 ·rintro vis vs' Hk t1 t2 ⟨sl,rfl,hs,h1,h2⟩ hperm hs1 hs2 R0 w0 R w hR0 _ _ _ hR
  have g1:=T.get_set _ _ _ _ _ hs1
  have g2:=T.get_set _ _ _ _ _ hs2
  have hpm:((vis.filter fun x=>p x.2).map (·.1)).Perm ((es.filter fun x=>p x.2).map (·.1)):=(hperm.filter _).map _
  generalize hl:(vis.filter fun x=>p x.2).map (·.1)=l at hs hpm
  have hnx:=hs.1
  have hll:l.length≤es.length:=by
   have:=hpm.length_eq
   rw[this,List.length_map];exact List.length_filter_le _ _
  have old: ∀A o,A≠H.next+2*l.length∨l=[]→H.h.get A=some o→t2.get A=some o:=by
   intro A o hA ho
   by_cases hAN:A<H.next
   ·rw[g2,if_neg (by omega),g1]
    by_cases hAM:A=M
    ·rw[if_pos hAM];rw[hAM,hM]at ho;exact ho
    ·rw[if_neg hAM,h1 A hAN hAM];exact ho
   ·have hA2:H.next+(2*es.length+2)≤A:=by
     rcases Nat.lt_or_ge A (H.next+(2*es.length+2))with h | h
     ·rw[hfr A (by omega) h]at ho;simp at ho
     ·exact h
    rw[g2,if_neg (by omega),g1,if_neg (by omega),h2 A (by omega)];exact ho
  rcases hs.2 with⟨h3,h4⟩ | ⟨hne,h3,h4⟩
  ·refine⟨⟨H.h,Hk.next⟩,hR.less (fun A o h=>old A o (.inr h3) h) rfl,rfl,fun A _ _=>rfl,l,sl,rfl,hpm,hnx, .inl ⟨h3,h4,fun A=>rfl⟩⟩
  ·obtain⟨t3,ht3⟩:=Option.isSome_iff_exists.1 (T.set_some 40 H.h (H.next+2*l.length) (.cells l e 1 true))
   have g3:=T.get_set _ _ _ _ _ ht3
   have hl0:=List.length_pos_iff.2 hne
   refine⟨⟨t3,Hk.next⟩,hR.less (fun A o h=> ?_) rfl,rfl,fun A hA _=> ?_,l,sl,rfl,hpm,hnx, .inr ⟨hne,h3,fun A=>g3 A⟩⟩
   ·have h':t3.get A=some o:=h
    rw[g3]at h'
    show t2.get A=some o
    split at h'
    ·rename_i hA
     rw[hA,g2,if_neg (by omega),g1,if_neg (by omega),h4];exact h'
    ·rename_i hA;exact old A o (.inl hA) h'
   ·show t3.get A=_
    rw[g3,if_neg (by omega)]
end Go.Eng
end
section
namespace Go.Proofs
open Go.Shelf
def Tryz.laysSort_ren:Go.Shelf.Ren:=⟨fun | 189=>348 | 125=>223 | 257=>406 | 128=>284 | 129=>285 | 294=>478 | 295=>479 | 296=>480 | 297=>481 | 298=>482 | 299=>483 | 216=>484 | 300=>485 | 301=>486 | 328=>549 | 329=>328 | 330=>329 | 331=>550 | 332=>551 | 215=>552 | 343=>599 | n=>n,fun | 28=>35 | 3=>3 | 46=>303 | 0=>0 | 51=>273 | 53=>32 | 4=>4 | 183=>418 | 182=>417 | 131=>209 | 5=>5 | 9=>9 | 218=>471 | 222=>362 | 228=>527 | 229=>528 | n=>n,fun | n=>n⟩
theorem Tryz.laysSort:Go.Proofs.Lays.n189 Tryz.prog Tryz.laysSort_ren:= {
 mixed:=by kernel_rfl
 f125:=Tryz.func223.trans (congrArg some (by kernel_rfl))
 f128:=Tryz.func284.trans (congrArg some (by kernel_rfl))
 f129:=Tryz.func285.trans (congrArg some (by kernel_rfl))
 f189:=Tryz.func348.trans (congrArg some (by kernel_rfl))
 f215:=Tryz.func552.trans (congrArg some (by kernel_rfl))
 f216:=Tryz.func484.trans (congrArg some (by kernel_rfl))
 f257:=Tryz.func406.trans (congrArg some (by kernel_rfl))
 f294:=Tryz.func478.trans (congrArg some (by kernel_rfl))
 f295:=Tryz.func479.trans (congrArg some (by kernel_rfl))
 f296:=Tryz.func480.trans (congrArg some (by kernel_rfl))
 f297:=Tryz.func481.trans (congrArg some (by kernel_rfl))
 f298:=Tryz.func482.trans (congrArg some (by kernel_rfl))
 f299:=Tryz.func483.trans (congrArg some (by kernel_rfl))
 f300:=Tryz.func485.trans (congrArg some (by kernel_rfl))
 f301:=Tryz.func486.trans (congrArg some (by kernel_rfl))
 f328:=Tryz.func549.trans (congrArg some (by kernel_rfl))
 f329:=Tryz.func328.trans (congrArg some (by kernel_rfl))
 f330:=Tryz.func329.trans (congrArg some (by kernel_rfl))
 f331:=Tryz.func550.trans (congrArg some (by kernel_rfl))
 f332:=Tryz.func551.trans (congrArg some (by kernel_rfl))
 f343:=Tryz.func599.trans (congrArg some (by kernel_rfl))
 t0:=Tryz.underlying0
 a0:=Tryz.isAgg0
 z0:=Tryz.sizeOf0
 v0:=Tryz.zeroValue0
 t3:=Tryz.underlying3
 a3:=Tryz.isAgg3
 z3:=Tryz.sizeOf3
 v3:=Tryz.zeroValue3
 t4:=Tryz.underlying4
 a4:=Tryz.isAgg4
 z4:=Tryz.sizeOf4
 v4:=Tryz.zeroValue4
 t5:=Tryz.underlying5
 a5:=Tryz.isAgg5
 z5:=Tryz.sizeOf5
 v5:=Tryz.zeroValue5
 t9:=Tryz.underlying9
 a9:=Tryz.isAgg9
 z9:=Tryz.sizeOf9
 v9:=Tryz.zeroValue9
 t28:=Tryz.underlying35
 a28:=Tryz.isAgg35
 z28:=Tryz.sizeOf35
 v28:=Tryz.zeroValue35
 t46:=Tryz.underlying303
 a46:=Tryz.isAgg303
 z46:=Tryz.sizeOf303
 v46:=Tryz.zeroValue303
 t51:=Tryz.underlying273
 a51:=Tryz.isAgg273
 z51:=Tryz.sizeOf273
 v51:=Tryz.zeroValue273
 t53:=Tryz.underlying32
 a53:=Tryz.isAgg32
 z53:=Tryz.sizeOf32
 v53:=Tryz.zeroValue32
 t131:=Tryz.underlying209
 a131:=Tryz.isAgg209
 z131:=Tryz.sizeOf209
 v131:=Tryz.zeroValue209
 t182:=Tryz.underlying417
 a182:=Tryz.isAgg417
 z182:=Tryz.sizeOf417
 v182:=Tryz.zeroValue417
 t183:=Tryz.underlying418
 a183:=Tryz.isAgg418
 z183:=Tryz.sizeOf418
 v183:=Tryz.zeroValue418
 t218:=Tryz.underlying471
 a218:=Tryz.isAgg471
 z218:=Tryz.sizeOf471
 v218:=Tryz.zeroValue471
 t222:=Tryz.underlying362
 a222:=Tryz.isAgg362
 z222:=Tryz.sizeOf362
 v222:=Tryz.zeroValue362
 t228:=Tryz.underlying527
 a228:=Tryz.isAgg527
 z228:=Tryz.sizeOf527
 v228:=Tryz.zeroValue527
 t229:=Tryz.underlying528
 a229:=Tryz.isAgg528
 z229:=Tryz.sizeOf528
 v229:=Tryz.zeroValue528}
end Go.Proofs
end
section
namespace Go.Eng
open Go.Proofs Go.Sort
def intsOf:List AV→Option (List Int)
 | []=>some []
 | x::l=>match x with
  | .int .i64 n=>match intsOf l with | some r=>some (n::r) | none=>none
  | _=>none
theorem intsOf_some: ∀ {l:List AV} {zs:List Int},intsOf l=some zs→l=zs.map (.int .i64)
 | [],zs,h=>by simp only[intsOf,Option.some.injEq]at h;subst h;rfl
 | x::l,zs,h=>by
  simp only[intsOf]at h
  split at h
  ·split at h
   ·rename_i r hr
    simp only[Option.some.injEq]at h;subst h
    rw[intsOf_some hr];rfl
   ·simp at h
  ·simp at h
theorem intsOf_map: ∀zs:List Int,intsOf (zs.map (.int .i64))=some zs
 | []=>rfl
 | z::zs=>by simp only[List.map_cons,intsOf,intsOf_map zs]
theorem VRL_ints {R:Ren} : ∀ {zs:List Int} {l:List Value},VRL R (zs.map (.int .i64)) l→l=zs.map (.int .i64)
 | [],l,h=>by simpa[VRL]using h
 | z::zs,l,h=>by
  obtain⟨x,xs,rfl,h1,h2⟩:=h
  simp only[VR]at h1;subst h1
  rw[VRL_ints h2];rfl
theorem VRL_ints_mk {R:Ren} : ∀(zs:List Int),VRL R (zs.map (.int .i64)) (zs.map (.int .i64))
 | []=>rfl
 | z::zs=>⟨_,_,rfl,rfl,VRL_ints_mk zs⟩
def sortZ (zs:List Int):List Int:=zs.mergeSort fun x y=>decide (x≤y)
noncomputable def sortK (vs:List AV)(H:AH):Option (AV×AH):=match vs with
 | [.nilSlice]=>some (.tuple [],H)
 | [.slice A off len _]=>match H.h.get A with
  | some (.cells l e sz g)=>match intsOf l with
   | some zs=>bif Nat.beq off 0&&Nat.beq len l.length&&Nat.blt len 4611686018427387904 then
     match putA H A (.cells ((sortZ zs).map (.int .i64)) e sz g)with
     | some H'=>some (.tuple [],H')
     | none=>none
    else none
   | none=>none
  | _=>none
 | _=>none
theorem sort_row {arr:Array Value}{pre spare:List Value}{zs ss:List Int}(h:arr.toList=pre++(zs.map (.int .i64)++spare))(hl:ss.length=zs.length):
  (putCells (Value.int .i64) pre.length ss.toArray arr).toList=pre++(ss.map (.int .i64)++spare):=by
 apply List.ext_getElem?
 intro j
 have hg:(putCells (Value.int .i64) pre.length ss.toArray arr).toList[j]? =arr.toList[j]?.map fun x=>if pre.length≤j∧j<pre.length+ss.length then Value.int .i64 (ss.toArray)[j - pre.length]! else x:=by
  unfold putCells
  simp
 rw[hg,h]
 by_cases h1:j<pre.length
 ·rw[List.getElem?_append_left h1,List.getElem?_append_left h1]
  cases hp:pre[j]? with
  | none=>rfl
  | some x=>simp only[Option.map_some];rw[if_neg (by omega)]
 ·rw[List.getElem?_append_right (l₁:=pre) (by omega),List.getElem?_append_right (l₁:=pre) (by omega)]
  by_cases h2:j - pre.length<zs.length
  ·rw[List.getElem?_append_left (l₁:=zs.map _) (by simpa using h2),List.getElem?_append_left (l₁:=ss.map _) (by simpa[hl]using h2)]
   have h3:j - pre.length<ss.length:=by omega
   rw[List.getElem?_map,List.getElem?_map,List.getElem?_eq_getElem h2,List.getElem?_eq_getElem h3]
   simp only[Option.map_some]
   rw[if_pos (by omega)]
   simp[h3]
  ·rw[List.getElem?_append_right (l₁:=zs.map _) (by simpa using h2),List.getElem?_append_right (l₁:=ss.map _) (by simpa[hl]using h2)]
   simp only[List.length_map,hl]
   cases hs:spare[j - pre.length - zs.length]? with
   | none=>rfl
   | some x=>simp only[Option.map_some];rw[if_neg (by omega)]
theorem sortK_ok {f:FuncId}(hf:f= Tryz.laysSort_ren.f 189):FI f sortK:=by
 apply FI.of
 intro az H v H' h
 subst hf
 have hfn: ∃fn,PP.funcs[Tryz.laysSort_ren.f 189]? =some fn∧fn.body.isSome=true:=⟨_, Tryz.laysSort.f189,rfl⟩
 unfold sortK at h
 split at h
 ·simp only[Option.some.injEq,Prod.mk.injEq]at h
  obtain⟨rfl,rfl⟩:=h
  refine⟨Nat.le_refl _,hfn,fun R zs cs w hv hL=> ?_⟩
  obtain⟨z,zs',rfl,hz,hn⟩:=hv
  simp only[VRL]at hn
  simp only[VR]at hz
  subst hn hz
  obtain⟨e,w1,fr',⟨rfl,rfl⟩,s1,s2,s3⟩:=Any.slices_Sort_int_none Tryz.laysSort none 0 w cs
  exact⟨R,w1,_,fr',s1,s2,s3,⟨[],rfl,rfl⟩,hL,Ext.refl R H w1⟩
 ·rename_i A off len cc
  split at h
  ·rename_i l e sz g hA
   split at h
   ·rename_i zs hzs
    rw[cond_eq_ite]at h
    split at h
    ·rename_i hc
     simp only[Bool.and_eq_true,Nat.beq_eq,Nat.blt_eq]at hc
     obtain⟨⟨rfl,hlen⟩,hlt⟩:=hc
     have hl:=intsOf_some hzs
     subst hl
     simp only[List.length_map]at hlen
     subst hlen
     split at h
     ·rename_i H1 hput
      simp only[Option.some.injEq,Prod.mk.injEq]at h
      obtain⟨rfl,rfl⟩:=h
      obtain⟨t',ht',rfl⟩:=putA_eq hput
      refine⟨Nat.le_refl _,hfn,fun R zs' cs w hv hL=> ?_⟩
      obtain⟨z,zs2,rfl,hz,hn⟩:=hv
      simp only[VRL]at hn
      subst hn
      obtain⟨b,d,c,hR,rfl⟩:=hz
      obtain⟨arr,fz,pre,l',spare,h1,h2,h3,h4,h5,h6,h7,sp,h8⟩:=hL.obj _ _ _ _ _ hR hA
      have hl':=VRL_ints h4
      subst hl'
      have hb:b<w.heap.size:=(hL.lt _ _ _ _ hR).1
      have hsz:arr.size=pre.length+(zs.length+spare.length):=by
       rw[← Array.length_toList,h2];simp
      have hH:Holds (Value.int .i64) w b (d+0) zs.toArray:=by
       intro j hj
       have hj':j<zs.length:=by simpa using hj
       constructor
       ·unfold World.cell?
        simp only[h1]
        have:arr[d+0+j]? =arr.toList[d+0+j]? :=by simp
        rw[if_neg (by simp),this,h2,List.getElem?_append_right (by omega),List.getElem?_append_left (by simp;omega),List.getElem?_map,show d+0+j - pre.length=j from by omega,List.getElem?_eq_getElem hj']
        simp[hj']
       ·unfold World.frozen?
        simp only[h1]
        have:=h7 (d+0+j) (by omega)
        by_cases ha:fz.1≤d+0+j
        ·by_cases hbb:d+0+j<fz.2
         ·exact absurd ⟨ha,hbb⟩ this
         ·simp[hbb];omega
        ·simp;intro;omega
      obtain⟨e1,w1,fr',⟨rfl,n,os,rfl⟩,s1,s2,s3⟩:=Any.slices_Sort_int Tryz.laysSort b (d+0) (decap cc c) zs w hH hb hlt cs
      have hss:(sortZ zs).length=zs.length:=List.length_mergeSort zs
      let x:Obj:= .cells (putCells (Value.int .i64) (d+0) (sortZ zs).toArray arr) e fz
      have hrow:(putCells (Value.int .i64) (d+0) (sortZ zs).toArray arr).toList=pre++((sortZ zs).map (.int .i64)++spare):=by
       have:=sort_row h2 hss
       rw[show d+0=pre.length from by omega];exact this
      have hasz:(putCells (Value.int .i64) (d+0) (sortZ zs).toArray arr).size=arr.size:=by unfold putCells;simp
      have l1:Rel R ⟨t',H.next⟩ (wput w b x):=hL.put hR ⟨_,hA,trivial⟩ ht' ⟨_,fz,pre,(sortZ zs).map (.int .i64),spare,rfl,hrow,h3,VRL_ints_mk _,h5,
       fun hg=>by have:=h6 hg;simp only[List.length_map]at this⊢;rw[hss];exact this,fun i hi=>h7 i (by rw[← hasz];exact hi),sp,h8⟩
      have x1:Ext R H w R ⟨t',H.next⟩ (wput w b x):=Ext.put hR ht'
      have hbel:RowKit.Below (wput w b x).heap.size (wput w b x) (grow (putRow (Value.int .i64) (Sort.ahead w n) b (d+0) (zs.mergeSort fun x y=>decide (x≤y)).toArray) os):=by
       refine⟨rfl,rfl,rfl, ?_,fun k hk=> ?_⟩
       ·rw[wput_size]
        simp only[grow,putRow,mapBlock,Sort.ahead,Array.size_append,Array.size_modify];omega
       ·rw[wput_size]at hk
        simp only[grow,putRow,mapBlock,Sort.ahead]
        rw[Array.getElem?_append_left (by simpa using hk),Array.getElem?_modify]
        by_cases hkb:b=k
        ·subst hkb
         rw[if_pos rfl,h1,wput_same _ _ _ hb];rfl
        ·rw[if_neg hkb,wput_other _ _ _ _ (fun e=>hkb e.symm)]
      refine⟨R,_,_,fr',s1,s2,s3,⟨[],rfl,rfl⟩,l1.below hbel, ?_⟩
      exact x1.trans ⟨Sub.refl R,fun _ _ _ _ h=> .inl h,fun _ _ _ _ h=> .inl h,Nat.le_refl _,fun _ _ _=>rfl,hbel.os,hbel.tape,hbel.output,hbel.size,fun k hk _=>hbel.block k hk⟩
     ·simp at h
    ·simp at h
   ·simp at h
  ·simp at h
 ·simp at h
def insN (x:Nat):List Nat→List Nat
 | []=>[x]
 | y::l=>bif Nat.ble x y then x::y::l else y::insN x l
def srtN:List Nat→List Nat
 | []=>[]
 | x::l=>insN x (srtN l)
theorem insN_perm (x:Nat): ∀l:List Nat,(insN x l).Perm (x::l)
 | []=> .refl _
 | y::l=>by
  simp only[insN,cond_eq_ite]
  split
  ·exact .refl _
  ·exact((insN_perm x l).cons y).trans (.swap x y l)
theorem srtN_perm: ∀l:List Nat,(srtN l).Perm l
 | []=> .refl _
 | x::l=>(insN_perm x (srtN l)).trans ((srtN_perm l).cons x)
theorem insN_srt (x:Nat): ∀l:List Nat,l.Pairwise (· ≤ ·)→(insN x l).Pairwise (· ≤ ·)
 | [],_=>by simp[insN]
 | y::l,h=>by
  simp only[insN,cond_eq_ite,Nat.ble_eq]
  rw[List.pairwise_cons]at h
  split
  ·rename_i hxy
   exact List.pairwise_cons.2 ⟨fun z hz=>by rcases List.mem_cons.1 hz with rfl | hz;exact hxy;exact Nat.le_trans hxy (h.1 z hz),List.pairwise_cons.2 h⟩
  ·rename_i hxy
   refine List.pairwise_cons.2 ⟨fun z hz=> ?_,insN_srt x l h.2⟩
   rcases List.mem_cons.1 ((insN_perm x l).subset hz)with rfl | hz
   ·omega
   ·exact h.1 z hz
theorem srtN_srt: ∀l:List Nat,(srtN l).Pairwise (· ≤ ·)
 | []=>List.Pairwise.nil
 | x::l=>insN_srt x _ (srtN_srt l)
theorem sortZ_eq {zs:List Int}{ks:List Nat}(h:zs.Perm (ks.map Int.ofNat)):sortZ zs=(srtN ks).map Int.ofNat:=by
 refine List.Perm.eq_of_pairwise (le:=fun a b=>a≤b) (fun a b _ _ h1 h2=>Int.le_antisymm h1 h2) ?_ ?_ ?_
 ·have:=List.pairwise_mergeSort (le:=fun x y:Int=>decide (x≤y)) (fun a b c h1 h2=>by simp at*;omega) (fun a b=>by simp;omega) zs
  exact this.imp fun h=>by simpa using h
 ·rw[List.pairwise_map]
  exact(srtN_srt ks).imp fun h=>by simpa using h
 ·exact(List.mergeSort_perm zs _).trans (h.trans ((srtN_perm ks).map Int.ofNat).symm)
end Go.Eng
end
section
namespace Go.Eng
open Go.Proofs
section
variable {P:Program}{nt:Nat}{f0:FuncId}{ro:Bool}
theorem SimI.seq {a b:Code}{env:Env}{H:AH}{mid post:Env→AH→Prop}{exits:Nat→Env→AH→Prop}{rets:Env→AH→Prop}{pans:AV→AH→Prop}
  (h:SimI P nt f0 ro (.code a) env H mid exits rets pans) (g: ∀env1 H1,mid env1 H1→SimI P nt f0 ro (.code b) env1 H1 post exits rets pans):SimI P nt f0 ro (.code (.seq a b)) env H post exits rets pans:=by
 intro lo R fr k cs w hm hro ht hE hL hM hlo
 refine SimI.step (st_seq hm ht) rfl ?_
 exact SimI.then [.code b] (fun id k=>rfl) h (fun env1 H1 hmid lo R fr k cs w hm hro ht hE hL hM hlo=>g env1 H1 hmid lo R fr k cs w hm hro ht hE hL hM hlo) lo R { fr with todo:= .code a:: .code b::k} k cs w hm hro rfl hE hL hM hlo
theorem SimI.le {it:Item}{e env:Env}{H:AH}{post:Env→AH→Prop}{exits:Nat→Env→AH→Prop}{rets:Env→AH→Prop}{pans:AV→AH→Prop}(h:SimI P nt f0 ro it e H post exits rets pans)(hl:Le e env):SimI P nt f0 ro it env H post exits rets pans:=
 fun lo R fr k cs w hm hro ht hE hL hM hlo=>h lo R fr k cs w hm hro ht (hE.le hl) hL hM hlo
end
section
variable {P:Program}{B:Tb}{D:Dyn}(hX:Ok P B.X)(hr:Good P (rOf B D))(hQ:GoodQ P B D)
include hX hr hQ in
theorem maploop_in {q:ML}{f:FuncId}{fn:Func}(hfn:P.funcs[f]? =some fn){i0 i1:Nat}{o0 o1:Array Oper}{c7:Code}(hbody:fn.body=some (.seq (.region i0 o0 false) (.seq (.region i1 o1 false) (.seq q.code c7))))(hle:fn.params.size+fn.nfree≤fn.ntmps)
  (hq:q.Fits fn.ntmps) {L:List Nat} (hLd: ∀l∈q.it::L,l≠q.nx∧l≠q.ok∧l≠q.en) (hit: ∀l∈L,l≠q.it) {hb:Hint} (hsb:SitesP P 0 fn.ntmps q.body hb) {n:Nat} {kt vt:TypeId} (hty:B.X.und q.t=some (.map kt vt))
  {args:List AV} (hlen:args.length=fn.params.size+fn.nfree) {vs0:List AV} {H H':AH} {v:AV} {post:List AV→AH→Prop}
  (hhead:regK B D fn.ntmps o0 false (fun e H=>regK B D fn.ntmps o1 false (fun e H=>pck L e fun vs=>some (.norm vs,H)) e H) (fun t=>args[t]?) H=some (.norm vs0,H))
  (pl:q.PlanV B D n fn.ntmps hb L vs0 H post) {h7:Hint} (hs7:SitesP P f fn.ntmps c7 h7) (hv: ∀u,v≠ .pan u)
  (htail: ∀vs' H1,post vs' H1→ ∃H3,(unp L vs' env0 fun e=>codeK B D n fn.ntmps fn.results.toList f false c7 h7 [] (fun _ _=>none) e H1)=some (.ret v,H3)∧H'.next=H3.next∧ ∀A,H'.h.get A=H3.h.get A):SimIn P f args H v H':=by
 refine fun_of_sim hX hfn hbody hle hlen ?_
 refine SimI.seq (regK_ok hX hr hhead f false _ _ _) fun env1 H1 h1=> ?_
 refine SimI.seq (regK_ok hX hr h1 f false _ _ _) fun env2 H2 h2=> ?_
 obtain⟨vs,hp,h3⟩:=pck_some h2
 simp only[Option.some.injEq,Prod.mk.injEq,Ex.norm.injEq]at h3
 obtain⟨rfl,rfl⟩:=h3
 refine SimI.seq ((mapLoop_core hX hr hQ hq hLd hit hsb hty pl false hp).mono (fun _ _ h=>h) (fun _ _ _ h=>h.elim) (fun _ _ h=>h.elim) (fun _ _ h=>h.elim)) fun env3 H3 h4=> ?_
 obtain⟨vs',hp',hpost⟩:=h4
 obtain⟨H4,ht,hn,hg⟩:=htail vs' H3 hpost
 obtain⟨e,he,hle'⟩:=unp_le ht hp'
 refine SimI.le ((codeK_ok hX hr hQ c7 h7 [] _ e H3 _ hs7 he).mono (fun _ _ h=>by simp at h) (fun id e' H'' h=> ?_) (fun e' H'' h=>⟨H4,h,hn,hg⟩) (fun x H'' h=> ?_)) hle'
 ·obtain⟨L',vs',h1,_⟩:=h
  simp[liveOf]at h1
 ·simp only[QP,Prod.mk.injEq,Ex.ret.injEq]at h
  exact absurd h.1 (hv x)
end
noncomputable def hsK (t v:AV):Option Bool:=match bInt .shr v t with
 | some a=>match bInt .and a (.int .u8 (.ofNat 1))with
  | some b=>match bInt .eql b (.int .u8 (.ofNat 1))with
   | some (.bool r)=>some r
   | _=>none
  | none=>none
 | none=>none
noncomputable def hsB (t v:AV):Bool:=match hsK t v with | some true=>true | _=>false
noncomputable def fltK (t:AV):List (AV×AV)→Option (List Nat)
 | []=>some []
 | x::l=>match x with
  | (.int .i64 (.ofNat k), .int .u8 n)=>match hsK t (.int .u8 n)with
   | some r=>match fltK t l with
    | some ks=>some (bif r then k::ks else ks)
    | none=>none
   | none=>none
  | _=>none
theorem fltK_some {t:AV} : ∀ {l:List (AV×AV)} {ks:List Nat},fltK t l=some ks→(∀x∈l,(∃k,x.1= .int .i64 (.ofNat k))∧(∃n,x.2= .int .u8 n)∧hsK t x.2=some (hsB t x.2))∧(l.filter fun x=>hsB t x.2).map (·.1)=ks.map fun k=> .int .i64 (.ofNat k)
 | [],ks,h=>by simp only[fltK,Option.some.injEq]at h;subst h;exact⟨by simp,rfl⟩
 | x::l,ks,h=>by
  simp only[fltK]at h
  split at h
  ·rename_i k n
   split at h
   ·rename_i r hr
    split at h
    ·rename_i ks' hks
     simp only[Option.some.injEq]at h
     obtain⟨h1,h2⟩:=fltK_some hks
     have hb:hsB t (.int .u8 n)=r:=by unfold hsB;rw[hr];cases r<;>rfl
     refine⟨fun y hy=> ?_, ?_⟩
     ·rcases List.mem_cons.1 hy with rfl | hy
      ·exact⟨⟨k,rfl⟩,⟨n,rfl⟩,by simp only[hb];exact hr⟩
      ·exact h1 y hy
     ·cases r with
      | true=>rw[List.filter_cons_of_pos (by simpa using hb)];subst h;simp[h2]
      | false=>rw[List.filter_cons_of_neg (by simp[hb])];subst h;simpa using h2
    ·simp at h
   ·simp at h
  ·simp at h
def intK (k:Nat):AV:= .int .i64 (.ofNat k)
noncomputable def thoseK (g e:Nat)(vs:List AV)(H:AH):Option (AV×AH):=match vs with
 | [.ptr A o, .func g' [] [.ptr C 0]]=>match ld1 (.ptr A o) H with
  | some (.map M)=>match H.h.get M with
   | some (.map ks es)=>match ld1 (.ptr C 0) H with
    | some t=>match fltK t es with
     | some l=>bif Nat.beq g' g&&Nat.blt M H.next&&Nat.blt C H.next&&Nat.blt H.next 1000000000&&Nat.blt es.length 1000000&&freeN H.h H.next (2*es.length+2)then
       match l with
       | []=>fN (H.next+1) fun n=>some (.nilSlice,⟨H.h,n⟩)
       | l=>fN l.length fun k=>fN (H.next+2*k) fun A=>match T.set 40 H.h A (.cells ((srtN l).map intK) e 1 true)with
        | some t=>fN (Nat.succ A) fun n=>some (.slice A 0 k 1,⟨t,n⟩)
        | none=>none
      else none
     | none=>none
    | none=>none
   | _=>none
  | _=>none
 | _=>none
end Go.Eng
end
section
namespace Go.Eng
open Go.Proofs
theorem perm_ints {l:List AV}{ks:List Nat}(h:l.Perm (ks.map fun k=> .int .i64 (.ofNat k))): ∃zs:List Int,l=zs.map (.int .i64)∧zs.Perm (ks.map Int.ofNat):=by
 let toI:AV→Int:=fun x=>match x with | .int _ n=>n | _=>0
 refine⟨l.map toI, ?_, ?_⟩
 ·rw[List.map_map]
  have: ∀x∈l,(AV.int .i64∘toI) x=x:=by
   intro x hx
   obtain⟨k,_,rfl⟩:=List.mem_map.1 (h.subset hx)
   rfl
  exact(List.map_id' l▸(List.map_congr_left this).symm:l=l.map _)
 ·have:=h.map toI
  rw[List.map_map]at this
  exact this
section
variable {X:Cx}(hX:Ok PP X)
include hX in
theorem those_ok {S:List (Nat×(List AV→AH→Option (AV×AH)))}(hS:SOk S){q:ML}{f g e:Nat}{pg:List AV→AH→Option (AV×AH)}{fn:Func}(hfn:PP.funcs[f]? =some fn){i0 i1:Nat}{o0 o1:Array Oper}{c7:Code}(hbody:fn.body=some (.seq (.region i0 o0 false) (.seq (.region i1 o1 false) (.seq q.code c7))))(hle:fn.params.size+fn.nfree≤fn.ntmps)
  (hq:q.Fits fn.ntmps) {L:List Nat} (hLd: ∀l∈q.it::L,l≠q.nx∧l≠q.ok∧l≠q.en) (hit: ∀l∈L,l≠q.it) {hb:Hint} (hsb:noRF hb=true) {n:Nat} {kt vt:TypeId} (hty:X.und q.t=some (.map kt vt)) (hpar:fn.params.size+fn.nfree=2)
  (hhead: ∀a b H,regK ⟨X,S⟩ dNone fn.ntmps o0 false (fun e H=>regK ⟨X,S⟩ dNone fn.ntmps o1 false (fun e H=>pck L e fun vs=>some (.norm vs,H)) e H) (fun t=>[a,b][t]?) H=some (.norm [a,b, .nilSlice],H))
  (hpre: ∀A o b M H,ld1 (.ptr A o) H=some (.map M)→q.preK ⟨X,S⟩ dNone fn.ntmps L [.ptr A o,b, .nilSlice] H=some (.norm (.map M::[.ptr A o,b, .nilSlice]),H))
  (hrd: ∀I a b sl k v Hk r,callV S dNone b [v] Hk=some (.bool r,Hk)→q.roundK ⟨X,S⟩ dNone n fn.ntmps hb L I [a,b,sl] k v Hk=
   bif r then(bA (bldL e 1 1 [.int .i64 (.ofNat 0)] [(0,k)]) Hk fun x H'=>bR (apP e 1 8 sl x H') fun y H'=>some (.norm [.ptr I 0,a,b,y],H'))else some (.norm [.ptr I 0,a,b,sl],Hk))
  (hpg: ∀v t C H r,ld1 (.ptr C 0) H=some t→hsK t v=some r→pg [v, .ptr C 0] H=some (.bool r,H)) (hcg: ∀vs H,callG S dNone g vs H=pg vs H) {h7:Hint} (hs7:noRF h7=true)
  (htl: ∀a b sl H,(unp L [a,b,sl] env0 fun e=>codeK ⟨X,S⟩ dNone n fn.ntmps fn.results.toList f false c7 h7 [] (fun _ _=>none) e H)=bR (noPan (sortK [sl] H)) fun _ H=>some (.ret sl,H)):FI f (thoseK g e):=by
 apply FI.of
 intro az H v H' h
 unfold thoseK at h
 split at h
 ·rename_i A o g' C
  split at h
  ·rename_i M hld
   split at h
   ·rename_i ks es hM
    split at h
    ·rename_i t ht
     split at h
     ·rename_i l hl
      rw[cond_eq_ite]at h
      split at h
      ·rename_i hc
       simp only[Bool.and_eq_true,Nat.beq_eq,Nat.blt_eq]at hc
       obtain⟨⟨⟨⟨⟨rfl,hMn⟩,hCn⟩,hNn⟩,hes⟩,hfree⟩:=hc
       obtain⟨f1,f2⟩:=fltK_some hl
       have hCM:C≠M:=by
        intro e
        obtain⟨l0,e0,sz0,g0,h1,_⟩:=ld1_some ht
        rw[e,hM]at h1;simp at h1
       obtain⟨pl⟩:=fil_plan (q:=q) (B:=⟨X,S⟩) (D:=dNone) (n:=n) (nt:=fn.ntmps) (hb:=hb) (L:=L) (a:= .ptr A o) (b:= .func g' [] [.ptr C 0]) (p:=hsB t) (e:=e) (hpre A o _ M H hld) hM hMn hfree (by omega) hes
        (fun x hx=>by obtain⟨⟨k,hk⟩,_⟩:=f1 x hx;exact⟨_,hk⟩)
        (fun k v sl Hk hkv hag=>by
         obtain⟨_,_,hh⟩:=f1 _ hkv
         have hld':ld1 (.ptr C 0) Hk=some t:=by
          have:=hag C hCn hCM
          unfold ld1 at ht⊢
          simp only[this]at ht⊢
          exact ht
         refine hrd _ _ _ _ _ _ _ _ ?_
         show callG S dNone g' ([]++[v]++[.ptr C 0]) Hk=_
         rw[hcg]
         exact hpg _ _ _ _ _ hld' hh)
       have hlen2: ∀l':List AV,l'.Perm ((es.filter fun x=>hsB t x.2).map (·.1))→l'.length=l.length:=fun l' hp=>by rw[hp.length_eq,f2,List.length_map]
       have key: ∀(hvp: ∀u,v≠ .pan u),(∀vs' H1,(∃l' sl,vs'=[.ptr A o, .func g' [] [.ptr C 0],sl]∧l'.Perm ((es.filter fun x=>hsB t x.2).map (·.1))∧OutS H e l' sl H1)→
         ∃H3,(unp L vs' env0 fun e=>codeK ⟨X,S⟩ dNone n fn.ntmps fn.results.toList f false c7 h7 [] (fun _ _=>none) e H1)=some (.ret v,H3)∧H'.next=H3.next∧ ∀A,H'.h.get A=H3.h.get A)→SimIn PP f [.ptr A o, .func g' [] [.ptr C 0]] H v H':=fun hvp ht=>
        maploop_in (B:=⟨X,S⟩) (D:=dNone) hX (good_of dNone_ok hS) (goodQ_of dNone_ok hS) hfn hbody hle hq hLd hit (noRF_ok _ _ _ _ hsb) hty (by rw[hpar];rfl) (hhead _ _ H) pl (noRF_ok _ _ _ _ hs7) hvp ht
       split at h
       ·
        rw[fN_eq]at h
        simp only[Option.some.injEq,Prod.mk.injEq]at h
        obtain⟨rfl,rfl⟩:=h
        refine⟨Nat.le_succ _,key (by simp) fun vs' H1 hp=> ?_⟩
        obtain⟨l',sl,rfl,hpm,hn,hcase⟩:=hp
        have h0:=hlen2 l' hpm
        simp only[List.length_nil]at h0
        rcases hcase with⟨_,rfl,hg⟩ | ⟨hne,_⟩
        ·refine⟨H1,by rw[htl];rfl, ?_,fun B=>(hg B).symm⟩
         rw[hn,h0]
        ·exact absurd (List.eq_nil_of_length_eq_zero h0) hne
       ·rename_i hne0
        simp only[fN_eq]at h
        split at h
        ·rename_i t1 ht1
         simp only[Option.some.injEq,Prod.mk.injEq]at h
         obtain⟨rfl,rfl⟩:=h
         refine⟨by show H.next≤H.next+2*l.length+1;omega,key (by simp) fun vs' H1 hp=> ?_⟩
         obtain⟨l',sl,rfl,hpm,hn,hcase⟩:=hp
         have h0:=hlen2 l' hpm
         rcases hcase with⟨h1,_⟩ | ⟨hne,rfl,hg⟩
         ·subst h1
          exact absurd (List.eq_nil_of_length_eq_zero h0.symm) hne0
         ·rw[f2]at hpm
          obtain⟨zs,rfl,hz⟩:=perm_ints hpm
          simp only[List.length_map]at h0 hn hg
          have hgA:H1.h.get (H.next+2*l.length)=some (.cells (zs.map (.int .i64)) e 1 true):=by rw[hg,if_pos (by rw[h0])]
          obtain⟨t2,ht2⟩:=Option.isSome_iff_exists.1 (T.set_some 40 H1.h (H.next+2*l.length) (.cells ((sortZ zs).map (.int .i64)) e 1 true))
          have hll:l.length≤es.length:=by
           have h1:=congrArg List.length f2
           simp only[List.length_map]at h1
           rw[← h1];exact List.length_filter_le _ _
          have hsk:sortK [.slice (H.next+2*l.length) 0 l.length 1] H1=some (.tuple [],⟨t2,H1.next⟩):=by
           have hc:(Nat.beq 0 0&&Nat.beq l.length (zs.map (AV.int .i64)).length&&Nat.blt l.length 4611686018427387904)=true:=by
            simp only[List.length_map,h0,Bool.and_eq_true,Nat.beq_eq,Nat.blt_eq,true_and,and_true];omega
           simp only[sortK,hgA,intsOf_map,hc,cond_true,putA,ht2]
          refine⟨⟨t2,H1.next⟩, ?_, ?_,fun B=> ?_⟩
          ·rw[htl]
           simp only[List.length_map,h0,hsk,noPan,bR]
          ·show H.next+2*l.length+1=H1.next
           rw[hn,h0];omega
          ·show t1.get B=t2.get B
           rw[T.get_set _ _ _ _ _ ht1,T.get_set _ _ _ _ _ ht2,hg,h0,sortZ_eq hz,List.map_map]
           by_cases hB:B=H.next+2*l.length
           ·rw[if_pos hB,if_pos hB];rfl
           ·rw[if_neg hB,if_neg hB,if_neg hB]
        ·simp at h
      ·simp at h
     ·simp at h
    ·simp at h
   ·simp at h
  ·simp at h
 ·simp at h
end
theorem fltK_ex (t:AV): ∀(es:List (AV×AV)) (l:List Nat),fltK t es=some l→fltK t (exE es)=some l
 | [],l,h=>h
 | x::es,l,h=>by
  simp only[fltK]at h
  split at h
  ·rename_i k n
   split at h
   ·rename_i r hr
    split at h
    ·rename_i ks hks
     have ih:=fltK_ex t es ks hks
     simp only[exE]at ih
     simp only[exE,List.map_cons,ex,fltK,hr,ih];exact h
    ·simp at h
   ·simp at h
  ·simp at h
noncomputable def thoseKp (g e:Nat)(vs:List AV)(H:AH):Option (AV×AH):=match vs with
 | [.ptr A o, .func g' [] [.ptr C 0]]=>match ld1p (.ptr A o) H with
  | some (.map M)=>match H.h.get M with
   | some (.map ks es)=>match ld1p (.ptr C 0) H with
    | some t=>match t with
     | .int k n=>match fltK (.int k n) es with
      | some l=>bif Nat.beq g' g&&Nat.blt M H.next&&Nat.blt C H.next&&Nat.blt H.next 1000000000&&Nat.blt es.length 1000000&&freeN H.h H.next (2*es.length+2)then
        match l with
        | []=>fN (H.next+1) fun n=>some (.nilSlice,⟨H.h,n⟩)
        | l=>fN l.length fun k=>fN (H.next+2*k) fun A=>match T.set 40 H.h A (.cells ((srtN l).map intK) e 1 true)with
         | some t=>fN (Nat.succ A) fun n=>some (.slice A 0 k 1,⟨t,n⟩)
         | none=>none
       else none
      | none=>none
     | _=>none
    | none=>none
   | _=>none
  | _=>none
 | _=>none
theorem exL_ints: ∀l:List Nat,exL (l.map intK)=l.map intK
 | []=>by simp[exL]
 | k::l=>by
  have h:isPk (intK k)=false:=rfl
  rw[List.map_cons,exL_one h,exL_ints l]
  simp[intK,ex]
theorem thoseKp_s {g e:Nat} :SimF (thoseKp g e) (thoseK g e):=by
 intro vs H Hx hR v H' h
 unfold thoseKp at h
 split at h
 ·rename_i A o g' C
  split at h
  ·rename_i M hld
   split at h
   ·rename_i ks es hM
    split at h
    ·rename_i t ht
     split at h
     ·rename_i tk tn
      split at h
      ·rename_i l hl
       rw[cond_eq_ite]at h
       split at h
       ·rename_i hc
        have e1:=ld1_s hR hld
        have e2:=ld1_s hR ht
        simp only[ex]at e1 e2
        have e3:=hR.at hM
        simp only[exO]at e3
        have e4:(exE es).length=es.length:=by simp[exE]
        have e5:=fltK_ex _ _ _ hl
        have hc':(Nat.beq g' g&&Nat.blt M Hx.next&&Nat.blt C Hx.next&&Nat.blt Hx.next 1000000000&&Nat.blt (exE es).length 1000000&&freeN Hx.h Hx.next (2*(exE es).length+2))=true:=by
         rw[hR.next,e4,freeN_s hR];exact hc
        split at h
        ·rw[fN_eq]at h
         simp only[Option.some.injEq,Prod.mk.injEq]at h
         obtain⟨rfl,rfl⟩:=h
         refine⟨⟨Hx.h,Hx.next+1⟩, ?_,by show Hx.next+1=H.next+1;rw[hR.next],hR.get,hR.ok⟩
         simp only[exM,ex,thoseK,e1,e2,e3,e5,hc',cond_true,fN_eq]
        ·rename_i hne
         simp only[fN_eq]at h
         split at h
         ·rename_i t1 ht1
          simp only[Option.some.injEq,Prod.mk.injEq]at h
          obtain⟨rfl,rfl⟩:=h
          obtain⟨tx,i1,i2⟩:=hR.set (o:= .cells ((srtN l).map intK) e 1 true) trivial ht1 (Nat.succ (H.next+2*l.length))
          simp only[exO,exL_ints]at i1
          rw[hR.next]at hc'
          refine⟨_, ?_,i2⟩
          cases l with
          | nil=>exact absurd rfl hne
          | cons a l=>
           simp only[exM,ex,thoseK,e1,e2,e3,e5,hc',cond_true,fN_eq,hR.next,i1]
         ·simp at h
       ·simp at h
      ·simp at h
     ·simp at h
    ·simp at h
   ·simp at h
  ·simp at h
 ·simp at h
end Go.Eng
end
section
namespace Go.Proofs
open Go.Shelf
def Tryz.laysItoa_ren:Go.Shelf.Ren:=⟨fun | 171=>510 | 243=>571 | 246=>607 | 283=>633 | 284=>634 | 285=>635 | 286=>636 | 129=>285 | 317=>645 | 318=>646 | 319=>647 | 320=>648 | 337=>656 | 338=>657 | n=>n,fun | 3=>3 | 9=>9 | 2=>2 | 4=>4 | 171=>468 | 0=>0 | 53=>32 | 37=>216 | 5=>5 | 173=>760 | 212=>771 | 51=>273 | 20=>20 | 213=>772 | 46=>303 | 232=>775 | 233=>776 | n=>n,fun | 17=>1 | 18=>3 | 19=>4 | n=>n⟩
theorem Tryz.laysItoa:Go.Proofs.LaysM.n171 Tryz.prog Tryz.laysItoa_ren:= {
 mixed:=by kernel_rfl
 f129:=Tryz.func285.trans (congrArg some (by kernel_rfl))
 f171:=Tryz.func510.trans (congrArg some (by kernel_rfl))
 f243:=Tryz.func571.trans (congrArg some (by kernel_rfl))
 f246:=Tryz.func607.trans (congrArg some (by kernel_rfl))
 f283:=Tryz.func633.trans (congrArg some (by kernel_rfl))
 f284:=Tryz.func634.trans (congrArg some (by kernel_rfl))
 f285:=Tryz.func635.trans (congrArg some (by kernel_rfl))
 f286:=Tryz.func636.trans (congrArg some (by kernel_rfl))
 f317:=Tryz.func645.trans (congrArg some (by kernel_rfl))
 f318:=Tryz.func646.trans (congrArg some (by kernel_rfl))
 f319:=Tryz.func647.trans (congrArg some (by kernel_rfl))
 f320:=Tryz.func648.trans (congrArg some (by kernel_rfl))
 f337:=Tryz.func656.trans (congrArg some (by kernel_rfl))
 f338:=Tryz.func657.trans (congrArg some (by kernel_rfl))
 t0:=Tryz.underlying0
 a0:=Tryz.isAgg0
 z0:=Tryz.sizeOf0
 v0:=Tryz.zeroValue0
 t2:=Tryz.underlying2
 a2:=Tryz.isAgg2
 z2:=Tryz.sizeOf2
 v2:=Tryz.zeroValue2
 t3:=Tryz.underlying3
 a3:=Tryz.isAgg3
 z3:=Tryz.sizeOf3
 v3:=Tryz.zeroValue3
 t4:=Tryz.underlying4
 a4:=Tryz.isAgg4
 z4:=Tryz.sizeOf4
 v4:=Tryz.zeroValue4
 t5:=Tryz.underlying5
 a5:=Tryz.isAgg5
 z5:=Tryz.sizeOf5
 v5:=Tryz.zeroValue5
 t9:=Tryz.underlying9
 a9:=Tryz.isAgg9
 z9:=Tryz.sizeOf9
 v9:=Tryz.zeroValue9
 t20:=Tryz.underlying20
 a20:=Tryz.isAgg20
 z20:=Tryz.sizeOf20
 v20:=Tryz.zeroValue20
 t37:=Tryz.underlying216
 a37:=Tryz.isAgg216
 z37:=Tryz.sizeOf216
 v37:=Tryz.zeroValue216
 t46:=Tryz.underlying303
 a46:=Tryz.isAgg303
 z46:=Tryz.sizeOf303
 v46:=Tryz.zeroValue303
 t51:=Tryz.underlying273
 a51:=Tryz.isAgg273
 z51:=Tryz.sizeOf273
 v51:=Tryz.zeroValue273
 t53:=Tryz.underlying32
 a53:=Tryz.isAgg32
 z53:=Tryz.sizeOf32
 v53:=Tryz.zeroValue32
 t171:=Tryz.underlying468
 a171:=Tryz.isAgg468
 z171:=Tryz.sizeOf468
 v171:=Tryz.zeroValue468
 t173:=Tryz.underlying760
 a173:=Tryz.isAgg760
 z173:=Tryz.sizeOf760
 v173:=Tryz.zeroValue760
 t212:=Tryz.underlying771
 a212:=Tryz.isAgg771
 z212:=Tryz.sizeOf771
 v212:=Tryz.zeroValue771
 t213:=Tryz.underlying772
 a213:=Tryz.isAgg772
 z213:=Tryz.sizeOf772
 t232:=Tryz.underlying775
 a232:=Tryz.isAgg775
 z232:=Tryz.sizeOf775
 v232:=Tryz.zeroValue775
 t233:=Tryz.underlying776
 a233:=Tryz.isAgg776
 z233:=Tryz.sizeOf776
 v233:=Tryz.zeroValue776
 g17:=by kernel_rfl
 g18:=by kernel_rfl
 g19:=by kernel_rfl
 i0:=by kernel_rfl
 i2:=by kernel_rfl
 i3:=by kernel_rfl
 i4:=by kernel_rfl
 i5:=by kernel_rfl
 i9:=by kernel_rfl
 i20:=by kernel_rfl
 i37:=by kernel_rfl
 i46:=by kernel_rfl
 i51:=by kernel_rfl
 i53:=by kernel_rfl
 i171:=by kernel_rfl
 i173:=by kernel_rfl
 i212:=by kernel_rfl
 i232:=by kernel_rfl
 i233:=by kernel_rfl
 m17:=by kernel_rfl
 m18:=by kernel_rfl
 m19:=by kernel_rfl}
end Go.Proofs
end
section
namespace Go.Eng
open Go.Proofs Go.Shelf Go.RowKit Go.Sort
def itoN:Nat→Nat→Nat×Nat
 | 0,_=>(0,0)
 | f+1,i=>bif Nat.blt i 10 then(1,48+i)else match itoN f (i / 10)with
  | (n,b)=>(n+1,b+256 ^ n*(48+i % 10))
def itoaK (vs:List AV)(H:AH):Option (AV×AH):=match vs with
 | [.int .i64 (.ofNat i)]=>bif Nat.blt i 9223372036854775808 then(match itoN 20 i with | (n,b)=>some (.str n b,H))else none
 | _=>none
theorem pack_app: ∀(l m:List UInt8),pack (l++m)=pack l+256 ^ l.length*pack m
 | [],m=>by simp[pack]
 | b::l,m=>by
  rw[List.cons_append,pack,pack,pack_app l m,List.length_cons,Nat.pow_succ,Nat.mul_add,Nat.add_assoc,Nat.mul_comm (256 ^ l.length) 256,Nat.mul_assoc]
theorem digit_byte {k:Nat}(h:k<10):(UInt8.ofNat (48+k)).toNat=48+k:=by rw[UInt8.toNat_ofNat'];omega
theorem itoN_ok: ∀f i,i<10 ^ (f+1)→itoN (f+1) i=((Lib.decDigits i).length,pack (Lib.decDigits i)):=by
 intro f
 induction f with
 | zero=>
  intro i h
  have h:i<10:=by simpa using h
  rw[itoN,show Nat.blt i 10=true from by rw[Nat.blt_eq];exact h,cond_true,Lib.decDigits_one h,pack,pack,digit_byte h];rfl
 | succ f ih=>
  intro i h
  rw[itoN]
  by_cases hi:i<10
  ·rw[show Nat.blt i 10=true from by rw[Nat.blt_eq];exact hi,cond_true,Lib.decDigits_one hi,pack,pack,digit_byte hi];rfl
  ·rw[show Nat.blt i 10=false from by rw[Bool.eq_false_iff,ne_eq,Nat.blt_eq];exact hi,cond_false,ih (i / 10) (by rw[Nat.pow_succ]at h;omega),Lib.decDigits.eq_1 i,dif_neg hi]
   rw[pack_app,List.length_append,pack,pack,digit_byte (Nat.mod_lt _ (by omega))];rfl
theorem tabs10 {R:Ren}{w:World}(h:Tabs R w):Lib.TabIs PP w "internal/strconv.uint64pow10" .u64 Lib.pow10Tab:=by
 obtain⟨g,t,fz,h1,h2,_⟩:=h _ (List.mem_cons_self ..)
 unfold Lib.TabIs World.var?
 rw[h1,Option.bind_some]
 simp only[h2]
 congr 2
theorem itoaK_ok {f:FuncId}(hf:f= Tryz.laysItoa_ren.f 171):FI f itoaK:=by
 intro az H v H' h
 unfold itoaK at h
 split at h
 ·rename_i i
  rw[cond_eq_ite]at h
  split at h
  ·rename_i hc
   rw[Nat.blt_eq]at hc
   rw[itoN_ok 19 i (by omega)]at h
   simp only[Option.some.injEq,Prod.mk.injEq]at h
   obtain⟨rfl,rfl⟩:=h
   refine⟨Nat.le_refl _,SimIn.q ⟨⟨_,hf▸ Tryz.laysItoa.f171,rfl⟩,fun R zs cs w hv hL=> ?_⟩⟩
   obtain⟨z1,zs1,rfl,hv1,hv⟩:=hv
   simp only[VR]at hv1
   simp only[VRL]at hv
   subst hv hv1
   have c:=Any.strconv_Itoa Tryz.laysItoa (.ofNat i) (by simp only[Int.ofNat_eq_natCast];omega) (by simp only[Int.ofNat_eq_natCast];omega) w (tabs10 hL.tb)
   rw[← hf]at c
   obtain⟨e,w1,fr',⟨rfl,k,os,rfl⟩,s1,s2,s3⟩:=c cs
   have hb:RowKit.Below w.heap.size w (grow (w.drewN k) os):=by
    refine⟨rfl,rfl,rfl, ?_,fun j hj=> ?_⟩
    ·simp only[grow,Array.size_append,World.drewN];omega
    ·simp only[grow,World.drewN];exact Array.getElem?_append_left hj
   have hd:Lib.itoa (.ofNat i)=Lib.decDigits i:=Lib.itoa_nonneg i
   refine⟨R,_,_,fr',s1,s2,s3,⟨_,rfl, ?_, ?_⟩,hL.below hb, ?_⟩
   ·rw[hd];exact List.size_toArray
   ·rw[hd]
   ·exact⟨Sub.refl R,fun _ _ _ _ h=> .inl h,fun _ _ _ _ h=> .inl h,Nat.le_refl _,fun _ _ _=>rfl,hb.os,hb.tape,hb.output,hb.size,fun b hb' _=>hb.block b hb'⟩
  ·simp at h
 ·simp at h
theorem exM_int {vs:List AV}{k:IntKind}{n:Int}(h:exM vs=[.int k n]):vs=[.int k n]:=by
 match vs,h with
 | [x],h=>
  simp only[exM,List.cons.injEq,and_true]at h
  cases x<;>simp[ex]at h
  simp_all
 | [],h=>simp[exM]at h
 | _::_::_,h=>simp[exM]at h
theorem itoaK_s:SimF itoaK itoaK:=by
 intro vs H Hx hR
 unfold itoaK
 split
 ·rename_i i
  simp only[exM,ex,cond_eq_ite]
  split
  ·intro v H' e
   simp only[Option.some.injEq,Prod.mk.injEq]at e;obtain⟨rfl,rfl⟩:=e
   exact⟨Hx,by simp[ex],hR⟩
  ·intro v H' e;simp at e
 ·intro v H' e;simp at e
theorem itoaK_okP {f:FuncId}(hf:f= Tryz.laysItoa_ren.f 171):FP f itoaK:=⟨itoaK,itoaK_ok hf,itoaK_s⟩
end Go.Eng
end
section

end
section
namespace Go.Eng
theorem hd_le {vs:List AV}{K K':AV→List AV→Rs}{r:Ex×AH}(h: ∀v l,K v l=some r→K' v l=some r)(e:hd vs K=some r):hd vs K'=some r:=by
 cases vs with
 | nil=>cases e
 | cons v l=>exact h v l e
theorem nl_le {vs:List AV}{K K':Rs}{r:Ex×AH}(h:K=some r→K'=some r)(e:nl vs K=some r):nl vs K'=some r:=by
 cases vs with
 | nil=>exact h e
 | cons v l=>cases e
theorem bV_le {x:Option AV}{K K':AV→Rs}{r:Ex×AH}(h: ∀v,K v=some r→K' v=some r)(e:bV x K=some r):bV x K'=some r:=by
 cases x with
 | none=>cases e
 | some v=>exact h v e
theorem bR_le {x:Option (AV×AH)}{K K':AV→AH→Rs}{r:Ex×AH}(h: ∀v H,K v H=some r→K' v H=some r)(e:bR x K=some r):bR x K'=some r:=by
 cases x with
 | none=>cases e
 | some v=>exact h v.1 v.2 e
theorem bA_le {x:Option (AObj×(Nat→AV))}{H:AH}{K K':AV→AH→Rs}{r:Ex×AH}(h: ∀v H,K v H=some r→K' v H=some r)(e:bA x H K=some r):bA x H K'=some r:=by
 unfold bA newB at e⊢
 cases x with
 | none=>cases e
 | some p=>
  obtain⟨o,mk⟩:=p
  simp only at e⊢
  split at e
  ·split at e
   ·rw[fN_eq]at e⊢;exact h _ _ e
   ·cases e
  ·cases e
theorem cnd_le {c:AV}{a a' b b':Rs}{r:Ex×AH}(h:a=some r→a'=some r)(k:b=some r→b'=some r)(e:cnd c a b=some r):cnd c a' b'=some r:=by
 unfold cnd at e⊢
 split at e<;>first | exact h e | exact k e | cases e
theorem jn_le {x:Rs}{K K':List AV→AH→Rs}{r:Ex×AH}(h: ∀v H,K v H=some r→K' v H=some r)(e:jn x K=some r):jn x K'=some r:=by
 unfold jn at e⊢
 split at e<;>first | exact h _ _ e | exact e | cases e
theorem jb_le {i:Nat}{x x':Rs}{K:List AV→AH→Rs}{r:Ex×AH}(h: ∀s,x=some s→x'=some s)(e:jb i x K=some r):jb i x' K=some r:=by
 cases x with
 | none=>cases e
 | some s=>rw[h s rfl];exact e
theorem outR_le {x x':Rs}{r:AV×AH}(h: ∀s,x=some s→x'=some s)(e:outR x=some r):outR x'=some r:=by
 cases x with
 | none=>cases e
 | some s=>rw[h s rfl];exact e
def orF (q m:List AV→AH→Option (AV×AH))(vs:List AV)(H:AH):Option (AV×AH):=match q vs H with
 | some r=>some r
 | none=>m vs H
theorem orF_okP {g:FuncId}{q mp:FnT}(h:FP g mp)(hl: ∀vs H r,q vs H=some r→mp vs H=some r):FP g (orF q mp):=by
 obtain⟨m,h1,h2⟩:=h
 refine⟨m,h1,fun vs H Hx hR v H' e=> ?_⟩
 unfold orF at e
 split at e
 ·rename_i r hr
  exact h2 vs H Hx hR _ _ ((hl _ _ _ hr).trans e)
 ·exact h2 vs H Hx hR _ _ e
end Go.Eng
end
section
namespace Go.Eng
open Go.Proofs
theorem cloK_okt {f:FuncId}{mp:FnT}(hf: ∃fn,PP.funcs[f]? =some fn∧fn.body.isSome=true)
  (hc: ∀w:World,Tabs (fun _ _ _ _=>False) w→Calls PP f #[] w fun e w'=>e= .returned (.bool true)∧RowKit.Below w.heap.size w w') (hm:FP f mp):FP f (cloK mp):=by
 obtain⟨m,h1,h2⟩:=hm
 refine⟨cloK m, ?_, ?_⟩
 ·intro az H v H' h
  unfold cloK at h
  split at h
  ·simp only[Option.some.injEq,Prod.mk.injEq]at h;obtain⟨rfl,rfl⟩:=h
   refine⟨Nat.le_refl _,SimIn.q ⟨hf,fun R zs cs w hv hL=> ?_⟩⟩
   simp only[VRL]at hv
   subst hv
   obtain⟨e,w1,fr',⟨rfl,hb⟩,s1,s2,s3⟩:=hc w (hL.tb.of fun _ _ _ _ _ _=>⟨rfl,fun _ _ _ h=>h⟩) cs
   refine⟨R,w1, .bool true,fr',s1,s2,s3,rfl,hL.below hb, ?_⟩
   exact⟨Sub.refl R,fun _ _ _ _ h=> .inl h,fun _ _ _ _ h=> .inl h,Nat.le_refl _,fun _ _ _=>rfl,hb.os,hb.tape,hb.output,hb.size,fun b hb' _=>hb.block b hb'⟩
  ·exact h1 _ _ _ _ h
 ·intro vs H Hx hR
  unfold cloK
  cases vs with
  | nil=>
   intro v H' e
   simp only[Option.some.injEq,Prod.mk.injEq]at e;obtain⟨rfl,rfl⟩:=e
   exact⟨Hx,by simp[exM,ex],hR⟩
  | cons a l=>
   have:=h2 (a::l) H Hx hR
   simp only[exM]at this⊢
   exact this
end Go.Eng
end
section
noncomputable section
namespace Go.Eng
abbrev Nms:=List (List AV→AH→Rs)
def nmAt (N:Nms)(k:Nat):List AV→AH→Rs:=match N with
 | []=>fun _ _=>none
 | g::N=>match k with
  | 0=>g
  | k+1=>nmAt N k
def ms:Hint→Hint
 | .s a b=> .s (ms a) (ms b)
 | .c L a b=> .c L.tail (ms a) (ms b)
 | .cl a b=> .cl (ms a) (ms b)
 | .cr a b=> .cr (ms a) (ms b)
 | .b L a=> .b L.tail (ms a)
 | .b0 a=> .b0 (ms a)
 | .l L a=> .l L.tail (ms a)
 | .rf s L=> .rf s L
 | .t L m=> .t L m
 | .o=> .o
 | .pc=> .pc
def pkN (L:List Nat):Env→AH→Rs:=fun env H=>pck L env fun vs=>some (.norm vs,H)
def upK (L:List Nat)(K:Env→AH→Rs):List AV→AH→Rs:=fun vs H=>unp L vs env0 fun env=>K env H
def mkAt (P:List Nat)(i:Nat):Nat:=match P with
 | j::m::P=>bif Nat.beq j i then m else mkAt P i
 | _=>0
def sprF (P:List Nat)(i:Nat)(n:Nat):List Nat:=match n with
 | 0=>[]
 | n+1=>mkAt P i::sprF P (i+1) n
def spr (P:List Nat)(n:Nat):List Nat:=match P with
 | []=>[]
 | _=>sprF P 0 n
def pickR (l:List Oper)(R:List Nat):List (Nat×Oper):=match R with
 | []=>[]
 | i::R=>match nthO l i with
  | some o=>(i,o)::pickR l R
  | none=>[]
def codeS (B:Tb)(D:Dyn)(n nt:Nat)(rs:List ResultVar)(f0:FuncId)(ro:Bool)(N:Nms):Code→Hint→List (Nat×List Nat)→(Env→AH→Rs)→Env→AH→Rs
 | .skip,_,_,K,env,H=>K env H
 | .label _,_,_,K,env,H=>K env H
 | .region _ ops draw, .pc,_,K,env,H=>bif draw then none else prowKp B D nt pan0 K ops.toList env H
 | .region _ ops _, .b P _,_,K,env,H=>opsKp B D nt ops (some (spr P ops.size)) (ops.size+1) K (idx ops.toList 0) [] env H
 | .region _ ops _, .c P (.l R _) _,_,K,env,H=>opsKp B D nt ops (some (spr P ops.size)) (R.length+1) K (pickR ops.toList R) [] env H
 | .region _ ops draw,_,_,K,env,H=>regKp B D nt ops draw K env H
 | .seq a b, .s ha hb,Bk,K,env,H=>codeS B D n nt rs f0 ro N a ha Bk (codeS B D n nt rs f0 ro N b hb Bk K) env H
 | .seq _ _, .t L m,_,K,env,H=>pck L env fun vs=>tld (m vs H) H.next fun H=>unp L vs env0 fun env=>K env H
 | .cond c a b, .c (k::L) ha hb,Bk,_,env,H=>match opdp env c with
  | some v=>jn (cnd v (codeS B D n nt rs f0 ro N a ha Bk (pkN L) env H) (codeS B D n nt rs f0 ro N b hb Bk (pkN L) env H)) (nmAt N k)
  | none=>none
 | .cond c a b, .cl ha hb,Bk,K,env,H=>match opdp env c with
  | some v=>cnd v (codeS B D n nt rs f0 ro N a ha Bk (fun _ _=>none) env H) (codeS B D n nt rs f0 ro N b hb Bk K env H)
  | none=>none
 | .cond c a b, .cr ha hb,Bk,K,env,H=>match opdp env c with
  | some v=>cnd v (codeS B D n nt rs f0 ro N a ha Bk K env H) (codeS B D n nt rs f0 ro N b hb Bk (fun _ _=>none) env H)
  | none=>none
 | .block id b, .b (k::L) hb,Bk,_,env,H=>jb id (codeS B D n nt rs f0 ro N b hb ((id,L)::Bk) (pkN L) env H) (nmAt N k)
 | .block id b, .b0 hb,Bk,K,env,H=>codeS B D n nt rs f0 ro N b hb (dropB Bk id) K env H
 | .loop _, .l (k::L) _,_,_,env,H=>pck L env fun vs=>loopK n (nmAt N k) vs H
 | .exit id,_,Bk,_,env,H=>match liveOf Bk id with
  | some L=>pck L env fun vs=>some (.exit id vs,H)
  | none=>none
 | .ret,_,_,_,env,H=>retEp B.X rs env H
 | .rangeFunc f _ _ _, .rf s L,Bk,K,env,H=>bif ro then none else match opdp env f with
  | some fv=>pck L env fun vs=>newB H (.loop ⟨.ready,none,f0,s,L,vs⟩) fun A H=>bR (rfC B.S D fv A H) fun _ H=>
    endLp A H fun j H=>jmpK j (K env H) (exS Bk env H) (retEp B.X rs env H)
  | none=>none
 | _,_,_,_,_,_=>none
abbrev Prt:=Option (List AV→AH→Rs)
def orP (a b:Prt):Prt:=match a with | some g=>some g | none=>b
def prt (B:Tb)(D:Dyn)(n nt:Nat)(rs:List ResultVar)(f0:FuncId)(ro:Bool)(N:Nms)(i:Nat):Code→Hint→List (Nat×List Nat)→(Env→AH→Rs)→Prt
 | .seq a b, .s ha hb,Bk,K=>orP (prt B D n nt rs f0 ro N i a ha Bk (codeS B D n nt rs f0 ro N b hb Bk K)) (prt B D n nt rs f0 ro N i b hb Bk K)
 | .cond _ a b, .c (k::L) ha hb,Bk,K=>bif Nat.beq k i then some (upK L K)else orP (prt B D n nt rs f0 ro N i a ha Bk (pkN L)) (prt B D n nt rs f0 ro N i b hb Bk (pkN L))
 | .cond _ a b, .cl ha hb,Bk,K=>orP (prt B D n nt rs f0 ro N i a ha Bk fun _ _=>none) (prt B D n nt rs f0 ro N i b hb Bk K)
 | .cond _ a b, .cr ha hb,Bk,K=>orP (prt B D n nt rs f0 ro N i a ha Bk K) (prt B D n nt rs f0 ro N i b hb Bk fun _ _=>none)
 | .block id b, .b (k::L) hb,Bk,K=>bif Nat.beq k i then some (upK L K)else prt B D n nt rs f0 ro N i b hb ((id,L)::Bk) (pkN L)
 | .block id b, .b0 hb,Bk,K=>prt B D n nt rs f0 ro N i b hb (dropB Bk id) K
 | .loop b, .l (k::L) hb,Bk,_=>bif Nat.beq k i then some (upK L (codeS B D n nt rs f0 ro N b hb Bk (pkN L)))else prt B D n nt rs f0 ro N i b hb Bk (pkN L)
 | _,_,_,_=>none
def funS (B:Tb)(D:Dyn)(n:Nat)(f0:FuncId)(fn:Func)(h:Hint)(N:Nms)(az:List AV)(H:AH):Option (AV×AH):=
 match fn.body with
 | some body=>bif Nat.ble (fn.params.size+fn.nfree) fn.ntmps then outR (unpA (fn.params.size+fn.nfree) 0 az env0 fun env=>codeS B D n fn.ntmps fn.results.toList f0 false N body h [] (fun env H=>retEp B.X fn.results.toList env H) env H)else none
 | none=>none
def prtF (B:Tb)(D:Dyn)(n:Nat)(f0:FuncId)(fn:Func)(h:Hint)(N:Nms)(i:Nat):Prt:=
 match fn.body with
 | some body=>prt B D n fn.ntmps fn.results.toList f0 false N i body h [] fun env H=>retEp B.X fn.results.toList env H
 | none=>none
def rdS (B:Tb)(D:Dyn)(n:Nat)(f0:FuncId)(nt:Nat)(ps:Array Tmp)(asg body:Code)(L ids:List Nat)(ha hb:Hint)(N:Nms)(A:Nat)(l:ALoop)(az:List AV)(H:AH):Option (AV×AH):=
 bif eqNL L l.live then
  endQ A (unp L l.vals env0 fun env=>unpP nt ps.toList az env fun env=>
   codeS B D n nt [] f0 true N asg ha [] (fun env H=>beginK A H fun H=>codeS B D n nt [] f0 true N body hb (ids.map fun i=>(i,[])) (fun _ H=>some (.norm [],H)) env H) env H)
 else none
def rndS (B:Tb)(D:Dyn)(n:Nat)(f0:FuncId)(s:Nat)(L ids:List Nat)(ha hb:Hint)(N:Nms)(A:Nat)(l:ALoop)(az:List AV)(H:AH):Option (AV×AH):=
 match siteC f0 s with
 | some (nt,ps,asg,body)=>rdS B D n f0 nt ps asg body L ids ha hb N A l az H
 | none=>none
def prtR (B:Tb)(D:Dyn)(n:Nat)(f0:FuncId)(s:Nat)(ids:List Nat)(hb:Hint)(N:Nms)(i:Nat):Prt:=
 match siteC f0 s with
 | some (nt,_,_,body)=>prt B D n nt [] f0 true N i body hb (ids.map fun i=>(i,[])) fun _ H=>some (.norm [],H)
 | none=>none
end Go.Eng
end
end
section
namespace Go.Eng
noncomputable def empM (x:AV)(H:AH):Option AH:=match x with
 | .map M=>match H.h.get M with
  | some (.map _ [])=>bif Nat.blt M H.next&&Nat.blt (H.next+1) 1099511627776&&freeN H.h H.next 1 then fN (H.next+1) fun N=>some ⟨H.h,N⟩else none
  | _=>none
 | _=>none
theorem empM_some {x:AV}{H H':AH}(h:empM x H=some H'): ∃M ks,x= .map M∧H.h.get M=some (.map ks [])∧M<H.next∧H.next+1<2 ^ 40∧H.h.get H.next=none∧H'=⟨H.h,H.next+1⟩:=by
 unfold empM at h
 split at h
 ·rename_i M
  split at h
  ·rename_i ks hM
   rw[cond_eq_ite]at h
   split at h
   ·rename_i hc
    simp only[Bool.and_eq_true,Nat.blt_eq]at hc
    obtain⟨⟨h1,h2⟩,h3⟩:=hc
    have h4:H.h.get H.next=none:=by
     unfold freeN at h3
     split at h3
     ·assumption
     ·simp at h3
    rw[fN_eq]at h
    injection h with h
    exact⟨M,ks,rfl,hM,h1,by omega,h4,h.symm⟩
   ·simp at h
  ·simp at h
 ·simp at h
theorem emp_plan {q:ML}{B:Tb}{D:Dyn}{n nt:Nat}{hb:Hint}{L:List Nat}{vs:List AV}{x:AV}{H H':AH}(h:empM x H=some H')(hpre:q.preK B D nt L vs H=some (.norm (x::vs),H)):Nonempty (q.Plan B D n nt hb L vs H H'):=by
 obtain⟨M,ks,rfl,hM,hlt,hroom,hfree,rfl⟩:=empM_some h
 refine⟨{ M:=M,ks:=ks,es:=[],inv:=fun vis Hk=>vis=[]∧Hk.next=H.next+1∧ ∀C,C≠M→C≠H.next→Hk.h.get C=H.h.get C,pre:=hpre,room:=hroom,map:=hM,start:= ?_,step:= ?_,raw:= ?_,fin:= ?_}⟩
 ·intro x y s1 s2 hs1 hs2
  have g1:=T.get_set _ _ _ _ _ hs1
  have g2:=T.get_set _ _ _ _ _ hs2
  refine⟨rfl,rfl,fun C h1 h2=> ?_⟩
  simp only[g2,g1]
  rw[if_neg h2,if_neg h1]
 ·intro vis k v rest Hk _ hp
  have:=hp.length_eq
  simp at this
 ·intro vis Hk y t' ⟨i1,i2,i3⟩ hs
  have g1:=T.get_set _ _ _ _ _ hs
  refine⟨i1,i2,fun C h1 h2=> ?_⟩
  simp only[g1]
  rw[if_neg h2];exact i3 C h1 h2
 ·intro vis Hk t1 t2 ⟨i1,i2,i3⟩ _ hs1 hs2 R0 w0 R w _ _ _ _ hL
  have g1:=T.get_set _ _ _ _ _ hs1
  have g2:=T.get_set _ _ _ _ _ hs2
  refine⟨hL.less (fun A o ho=> ?_) i2,i2.symm,fun A _ _=>rfl⟩
  have ho':H.h.get A=some o:=ho
  have hne:A≠H.next:=fun e=>by subst e;rw[hfree]at ho';simp at ho'
  show t2.get A=some o
  rw[g2,if_neg hne,g1]
  by_cases e:A=M
  ·subst e;rw[if_pos rfl, ← hM];exact ho'
  ·rw[if_neg e,i3 A e hne];exact ho'
theorem empM_s {x:AV}{H Hx H':AH}(hR:HR H Hx)(h:empM x H=some H'): ∃Hx',empM (ex x) Hx=some Hx'∧HR H' Hx':=by
 obtain⟨M,ks,rfl,hM,hlt,hroom,hfree,rfl⟩:=empM_some h
 refine⟨⟨Hx.h,Hx.next+1⟩, ?_,⟨by rw[hR.next],hR.get,hR.ok⟩⟩
 have hMx:=hR.at hM
 have hfx:=hR.out hfree
 simp only[exO,exE,List.map_nil]at hMx
 simp only[ex,empM,hMx,hR.next,freeN,hfx,fN_eq,cond_eq_ite]
 rw[if_pos (by simp only[Bool.and_eq_true,Nat.blt_eq];exact⟨⟨hlt,by omega⟩,by simp[freeN]⟩)]
end Go.Eng
end
