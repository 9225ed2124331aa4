/- Engine: fast primitives: what they tell is what the slow ones tell; the kernel has less to write down. No condition. -/
import Derived.Test.YthckidjjcakabaaGreatMY4
set_option linter.all false
noncomputable section
namespace Go.Eng
def oI (x : AV) : (Nat → Option AV) → Option AV → Option AV := AV.rec (motive_1 := fun _ => (Nat → Option AV) → Option AV → Option AV) (motive_2 := fun _ => Unit) (fun _ _ d => d) (fun k z K d => IntKind.rec (motive := fun _ => Option AV) d d d (Int.rec (motive := fun _ => Option AV) K (fun _ => d) z) d d d d k) (fun _ _ _ d => d) (fun _ d => d) (fun _ _ _ d => d) (fun _ d => d) (fun _ _ _ _ _ d => d) (fun _ d => d) (fun _ d => d) (fun _ _ d => d) (fun _ _ _ _ _ _ d => d) (fun _ _ d => d) (fun _ d => d) (fun _ _ _ _ d => d) (fun _ d => d) (fun _ _ _ d => d) (fun _ _ _ d => d) (fun _ _ _ d => d) (fun _ _ _ d => d) () (fun _ _ _ _ => ()) x
theorem oI_eq (x : AV) (K : Nat → Option AV) (d : Option AV) : oI x K d = match x with | .int .i64 (.ofNat n) => K n | _ => d := by
  cases x with
  | int k z => cases k <;> cases z <;> rfl
  | _ => rfl
def oP (x : AV) : (Nat → Nat → Option AV) → Option AV := AV.rec (motive_1 := fun _ => (Nat → Nat → Option AV) → Option AV) (motive_2 := fun _ => Unit) (fun _ _ => none) (fun _ _ _ => none) (fun _ _ _ => none) (fun _ => none) (fun A o K => K A o) (fun _ => none) (fun _ _ _ _ _ => none) (fun _ => none) (fun _ => none) (fun _ _ => none) (fun _ _ _ _ _ _ => none) (fun _ _ => none) (fun _ => none) (fun _ _ _ _ => none) (fun _ => none) (fun _ _ _ => none) (fun _ _ _ => none) (fun _ _ _ => none) (fun _ _ _ => none) () (fun _ _ _ _ => ()) x
theorem oP_eq (x : AV) (K : Nat → Nat → Option AV) : oP x K = match x with | .ptr A o => K A o | _ => none := by cases x <;> rfl
def oQ (x : AV) : (Nat → Nat → Option (AV × AH)) → Option (AV × AH) := AV.rec (motive_1 := fun _ => (Nat → Nat → Option (AV × AH)) → Option (AV × AH)) (motive_2 := fun _ => Unit) (fun _ _ => none) (fun _ _ _ => none) (fun _ _ _ => none) (fun _ => none) (fun A o K => K A o) (fun _ => none) (fun _ _ _ _ _ => none) (fun _ => none) (fun _ => none) (fun _ _ => none) (fun _ _ _ _ _ _ => none) (fun _ _ => none) (fun _ => none) (fun _ _ _ _ => none) (fun _ => none) (fun _ _ _ => none) (fun _ _ _ => none) (fun _ _ _ => none) (fun _ _ _ => none) () (fun _ _ _ _ => ()) x
theorem oQ_eq (x : AV) (K : Nat → Nat → Option (AV × AH)) : oQ x K = match x with | .ptr A o => K A o | _ => none := by cases x <;> rfl
def oS (x : AV) : (Nat → Nat → Option AV) → Option AV := AV.rec (motive_1 := fun _ => (Nat → Nat → Option AV) → Option AV) (motive_2 := fun _ => Unit) (fun _ _ => none) (fun _ _ _ => none) (fun l b K => K l b) (fun _ => none) (fun _ _ _ => none) (fun _ => none) (fun _ _ _ _ _ => none) (fun _ => none) (fun _ => none) (fun _ _ => none) (fun _ _ _ _ _ _ => none) (fun _ _ => none) (fun _ => none) (fun _ _ _ _ => none) (fun _ => none) (fun _ _ _ => none) (fun _ _ _ => none) (fun _ _ _ => none) (fun _ _ _ => none) () (fun _ _ _ _ => ()) x
theorem oS_eq (x : AV) (K : Nat → Nat → Option AV) : oS x K = match x with | .str l b => K l b | _ => none := by cases x <;> rfl
def oK (x : AV) : (Nat → Nat → Option AV) → Option AV → Option AV := AV.rec (motive_1 := fun _ => (Nat → Nat → Option AV) → Option AV → Option AV) (motive_2 := fun _ => Unit) (fun _ _ d => d) (fun _ _ _ d => d) (fun _ _ _ d => d) (fun _ d => d) (fun _ _ _ d => d) (fun _ d => d) (fun _ _ _ _ _ d => d) (fun _ d => d) (fun _ d => d) (fun _ _ d => d) (fun _ _ _ _ _ _ d => d) (fun _ _ d => d) (fun _ d => d) (fun _ _ _ _ d => d) (fun _ d => d) (fun _ _ _ d => d) (fun _ _ _ d => d) (fun m b K d => K m b) (fun _ _ _ d => d) () (fun _ _ _ _ => ()) x
theorem oK_eq (x : AV) (K : Nat → Nat → Option AV) (d : Option AV) : oK x K d = match x with | .pk m b => K m b | _ => d := by cases x <;> rfl
def oL (x : AV) : (Nat → Nat → Nat → Option AV) → Option AV := AV.rec (motive_1 := fun _ => (Nat → Nat → Nat → Option AV) → Option AV) (motive_2 := fun _ => Unit) (fun _ _ => none) (fun _ _ _ => none) (fun _ _ _ => none) (fun _ => none) (fun _ _ _ => none) (fun _ => none) (fun A o n _ K => K A o n) (fun _ => none) (fun _ => none) (fun _ _ => none) (fun _ _ _ _ _ _ => none) (fun _ _ => none) (fun _ => none) (fun _ _ _ _ => none) (fun _ => none) (fun _ _ _ => none) (fun _ _ _ => none) (fun _ _ _ => none) (fun _ _ _ => none) () (fun _ _ _ _ => ()) x
theorem oL_eq (x : AV) (K : Nat → Nat → Nat → Option AV) : oL x K = match x with | .slice A o n _ => K A o n | _ => none := by cases x <;> rfl
def cndF (c : AV) : Rs → Rs → Rs := AV.rec (motive_1 := fun _ => Rs → Rs → Rs) (motive_2 := fun _ => Unit) (fun v a b => Bool.rec (motive := fun _ => Rs) b a v) (fun _ _ _ _ => none) (fun _ _ _ _ => none) (fun _ _ => none) (fun _ _ _ _ => none) (fun _ _ => none) (fun _ _ _ _ _ _ => none) (fun _ _ => none) (fun _ _ => none) (fun _ _ _ => none) (fun _ _ _ _ _ _ _ => none) (fun _ _ _ => none) (fun _ _ => none) (fun _ _ _ _ _ => none) (fun _ _ => none) (fun _ _ _ _ => none) (fun _ _ _ _ => none) (fun _ _ _ _ => none) (fun _ _ _ _ => none) () (fun _ _ _ _ => ()) c
theorem cnd_F : cnd = cndF := by
  funext c a b
  cases c with
  | bool v => cases v <;> rfl
  | _ => rfl
def lnSlF (x : AV) : Option AV := AV.rec (motive_1 := fun _ => Option AV) (motive_2 := fun _ => Unit) (fun _ => none) (fun _ _ => none) (fun _ _ => none) (none) (fun _ _ => none) (some (.int .i64 (.ofNat 0))) (fun _ _ n _ => some (.int .i64 (.ofNat n))) (some (.int .i64 (.ofNat 0))) (none) (fun _ => none) (fun _ _ _ _ _ => none) (fun _ => none) (none) (fun _ _ _ => none) (none) (fun _ _ => none) (fun _ _ => none) (fun _ _ => none) (fun _ _ => none) () (fun _ _ _ _ => ()) x
theorem lnSl_F : lnSl = lnSlF := by funext x; cases x <;> rfl
def lnStrF (x : AV) : Option AV := AV.rec (motive_1 := fun _ => Option AV) (motive_2 := fun _ => Unit) (fun _ => none) (fun _ _ => none) (fun l _ => some (.int .i64 (.ofNat l))) (none) (fun _ _ => none) (none) (fun _ _ _ _ => none) (none) (none) (fun _ => none) (fun _ _ _ _ _ => none) (fun _ => none) (none) (fun _ _ _ => none) (none) (fun _ _ => none) (fun _ _ => none) (fun _ _ => none) (fun _ _ => none) () (fun _ _ _ _ => ()) x
theorem lnStr_F : lnStr = lnStrF := by funext x; cases x <;> rfl
def kc (k : IntKind) : Nat := IntKind.rec (motive := fun _ => Nat) 3 4 5 6 7 8 9 10 k
def iE (z w : Int) : Bool := Int.rec (motive := fun _ => Bool) (fun m => Int.rec (motive := fun _ => Bool) (fun n => Nat.beq m n) (fun _ => false) w) (fun m => Int.rec (motive := fun _ => Bool) (fun _ => false) (fun n => Nat.beq m n) w) z
theorem iE_eq (z w : Int) : iE z w = ieq z w := by cases z <;> cases w <;> rfl
theorem kc_eq (k q : IntKind) : Nat.beq (kc k) (kc q) = keq k q := by cases k <;> cases q <;> rfl
def eI (y : AV) : IntKind → Int → Bool := AV.rec (motive_1 := fun _ => IntKind → Int → Bool) (motive_2 := fun _ => Unit) (fun _ _ _ => false) (fun q w k z => Bool.rec (motive := fun _ => Bool) false (iE z w) (Nat.beq (kc k) (kc q))) (fun _ _ _ _ => false) (fun _ _ => false) (fun _ _ _ _ => false) (fun _ _ => false) (fun _ _ _ _ _ _ => false) (fun _ _ => false) (fun _ _ => false) (fun _ _ _ => false) (fun _ _ _ _ _ _ _ => false) (fun _ _ _ => false) (fun _ _ => false) (fun _ _ _ _ _ => false) (fun _ _ => false) (fun _ _ _ _ => false) (fun _ _ _ _ => false) (fun _ _ _ _ => false) (fun _ _ _ _ => false) () (fun _ _ _ _ => ()) y
def eP (y : AV) : Nat → Nat → Bool := AV.rec (motive_1 := fun _ => Nat → Nat → Bool) (motive_2 := fun _ => Unit) (fun _ _ _ => false) (fun _ _ _ _ => false) (fun _ _ _ _ => false) (fun _ _ => false) (fun B p A o => Bool.rec (motive := fun _ => Bool) false (Nat.beq o p) (Nat.beq A B)) (fun _ _ => false) (fun _ _ _ _ _ _ => false) (fun _ _ => false) (fun _ _ => false) (fun _ _ _ => false) (fun _ _ _ _ _ _ _ => false) (fun _ _ _ => false) (fun _ _ => false) (fun _ _ _ _ _ => false) (fun _ _ => false) (fun _ _ _ _ => false) (fun _ _ _ _ => false) (fun _ _ _ _ => false) (fun _ _ _ _ => false) () (fun _ _ _ _ => ()) y
def eS (y : AV) : Nat → Nat → Bool := AV.rec (motive_1 := fun _ => Nat → Nat → Bool) (motive_2 := fun _ => Unit) (fun _ _ _ => false) (fun _ _ _ _ => false) (fun B p A o => Bool.rec (motive := fun _ => Bool) false (Nat.beq o p) (Nat.beq A B)) (fun _ _ => false) (fun _ _ _ _ => false) (fun _ _ => false) (fun _ _ _ _ _ _ => false) (fun _ _ => false) (fun _ _ => false) (fun _ _ _ => false) (fun _ _ _ _ _ _ _ => false) (fun _ _ _ => false) (fun _ _ => false) (fun _ _ _ _ _ => false) (fun _ _ => false) (fun _ _ _ _ => false) (fun _ _ _ _ => false) (fun _ _ _ _ => false) (fun _ _ _ _ => false) () (fun _ _ _ _ => ()) y
def eB (y : AV) : Bool → Bool := AV.rec (motive_1 := fun _ => Bool → Bool) (motive_2 := fun _ => Unit) (fun c b => Bool.rec (motive := fun _ => Bool) (Bool.not c) c b) (fun _ _ _ => false) (fun _ _ _ => false) (fun _ => false) (fun _ _ _ => false) (fun _ => false) (fun _ _ _ _ _ => false) (fun _ => false) (fun _ => false) (fun _ _ => false) (fun _ _ _ _ _ _ => false) (fun _ _ => false) (fun _ => false) (fun _ _ _ _ => false) (fun _ => false) (fun _ _ _ => false) (fun _ _ _ => false) (fun _ _ _ => false) (fun _ _ _ => false) () (fun _ _ _ _ => ()) y
def eN (y : AV) : Bool := AV.rec (motive_1 := fun _ => Bool) (motive_2 := fun _ => Unit) (fun _ => false) (fun _ _ => false) (fun _ _ => false) (true) (fun _ _ => false) (false) (fun _ _ _ _ => false) (false) (false) (fun _ => false) (fun _ _ _ _ _ => false) (fun _ => false) (false) (fun _ _ _ => false) (false) (fun _ _ => false) (fun _ _ => false) (fun _ _ => false) (fun _ _ => false) () (fun _ _ _ _ => ()) y
def eZ (y : AV) : Bool := AV.rec (motive_1 := fun _ => Bool) (motive_2 := fun _ => Unit) (fun _ => false) (fun _ _ => false) (fun _ _ => false) (false) (fun _ _ => false) (true) (fun _ _ _ _ => false) (false) (false) (fun _ => false) (fun _ _ _ _ _ => false) (fun _ => false) (false) (fun _ _ _ => false) (false) (fun _ _ => false) (fun _ _ => false) (fun _ _ => false) (fun _ _ => false) () (fun _ _ _ _ => ()) y
def eL (y : AV) : Nat → Nat → Nat → Nat → Bool := AV.rec (motive_1 := fun _ => Nat → Nat → Nat → Nat → Bool) (motive_2 := fun _ => Unit) (fun _ _ _ _ _ => false) (fun _ _ _ _ _ _ => false) (fun _ _ _ _ _ _ => false) (fun _ _ _ _ => false) (fun _ _ _ _ _ _ => false) (fun _ _ _ _ => false) (fun A2 o2 n2 c2 A o n c => Bool.rec (motive := fun _ => Bool) false (Bool.rec (motive := fun _ => Bool) false (Bool.rec (motive := fun _ => Bool) false (Nat.beq c c2) (Nat.beq n n2)) (Nat.beq o o2)) (Nat.beq A A2)) (fun _ _ _ _ => false) (fun _ _ _ _ => false) (fun _ _ _ _ _ => false) (fun _ _ _ _ _ _ _ _ _ => false) (fun _ _ _ _ _ => false) (fun _ _ _ _ => false) (fun _ _ _ _ _ _ _ => false) (fun _ _ _ _ => false) (fun _ _ _ _ _ _ => false) (fun _ _ _ _ _ _ => false) (fun _ _ _ _ _ _ => false) (fun _ _ _ _ _ _ => false) () (fun _ _ _ _ => ()) y
def aqF (x : AV) : AV → Bool → Bool := AV.rec (motive_1 := fun _ => AV → Bool → Bool) (motive_2 := fun _ => Unit) (fun b y d => eB y b) (fun k z y d => eI y k z) (fun A o y d => eS y A o) (fun y d => eN y) (fun A o y d => eP y A o) (fun y d => eZ y) (fun A o n c y d => eL y A o n c) (fun _ d => d) (fun _ d => d) (fun _ _ d => d) (fun _ _ _ _ _ _ d => d) (fun _ _ d => d) (fun _ d => d) (fun _ _ _ _ d => d) (fun _ d => d) (fun _ _ _ d => d) (fun _ _ _ d => d) (fun _ _ _ d => d) (fun _ _ _ d => d) () (fun _ _ _ _ => ()) x
def aqE (x y : AV) : Bool := aqF x y (aveq x y)
theorem brA (a b : Bool) : Bool.rec (motive := fun _ => Bool) false b a = (a && b) := by cases a <;> rfl
theorem aqE_eq : aveq = aqE := by
  funext x y
  cases x with
  | int k z => cases y with
    | int q w => show aveq _ _ = Bool.rec (motive := fun _ => Bool) false (iE z w) (Nat.beq (kc k) (kc q)); rw [brA, iE_eq, kc_eq]; simp only [aveq]
    | _ => simp only [aveq] <;> rfl
  | ptr A o => cases y with
    | ptr B p => show aveq _ _ = Bool.rec (motive := fun _ => Bool) false (Nat.beq o p) (Nat.beq A B); rw [brA]; simp only [aveq]
    | _ => simp only [aveq] <;> rfl
  | str A o => cases y with
    | str B p => show aveq _ _ = Bool.rec (motive := fun _ => Bool) false (Nat.beq o p) (Nat.beq A B); rw [brA]; simp only [aveq]
    | _ => simp only [aveq] <;> rfl
  | bool b => cases y with
    | bool c => simp only [aveq]; cases b <;> cases c <;> rfl
    | _ => simp only [aveq] <;> rfl
  | nilPtr => cases y <;> simp only [aveq] <;> rfl
  | nilSlice => cases y <;> simp only [aveq] <;> rfl
  | slice A o n c => cases y with
    | slice A2 o2 n2 c2 =>
      show aveq _ _ = Bool.rec (motive := fun _ => Bool) false (Bool.rec (motive := fun _ => Bool) false (Bool.rec (motive := fun _ => Bool) false (Nat.beq c c2) (Nat.beq n n2)) (Nat.beq o o2)) (Nat.beq A A2)
      rw [brA, brA, brA]; simp only [aveq, Bool.and_assoc]
    | _ => simp only [aveq] <;> rfl
  | _ => rfl
def chkF (x : Option AV) (v : AV) (K : Rs) : Rs := Option.rec (motive := fun _ => Rs) none (fun y => Bool.rec (motive := fun _ => Rs) none K (aqE y v)) x
theorem chk_F : chk = chkF := by
  funext x v K
  unfold chk chkF
  rw [aqE_eq]
  cases x with
  | none => rfl
  | some y => show (bif aqE y v then K else none) = Bool.rec (motive := fun _ => Rs) none K (aqE y v); cases aqE y v <;> rfl
def fdF (k : AV) (l : List (AV × AV)) : Option AV := List.rec (motive := fun _ => Option AV) none (fun p _ ih => Prod.rec (motive := fun _ => Option AV) (fun a b => Bool.rec (motive := fun _ => Option AV) ih (some b) (aqE k a)) p) l
theorem fdF_eq (k : AV) : ∀ l, fdF k l = findA k l
  | [] => rfl
  | (a, b) :: l => by
    show Bool.rec (motive := fun _ => Option AV) (fdF k l) (some b) (aqE k a) = (bif aveq k a then some b else findA k l)
    rw [aqE_eq, fdF_eq k l]; cases aqE k a <;> rfl
def stF (k v : AV) (l : List (AV × AV)) : Option (List (AV × AV)) := List.rec (motive := fun _ => Option (List (AV × AV))) none (fun p l ih => Prod.rec (motive := fun _ => Option (List (AV × AV))) (fun a b => Bool.rec (motive := fun _ => Option (List (AV × AV))) (Option.rec (motive := fun _ => Option (List (AV × AV))) none (fun r => some ((a, b) :: r)) ih) (some ((a, v) :: l)) (aqE k a)) p) l
theorem stF_eq (k v : AV) : ∀ l, stF k v l = setA k v l
  | [] => rfl
  | (a, b) :: l => by
    show Bool.rec (motive := fun _ => Option (List (AV × AV))) (Option.rec (motive := fun _ => Option (List (AV × AV))) none (fun r => some ((a, b) :: r)) (stF k v l)) (some ((a, v) :: l)) (aqE k a) = (bif aveq k a then some ((a, v) :: l) else match setA k v l with | some r => some ((a, b) :: r) | none => none)
    rw [aqE_eq, stF_eq k v l]
    cases aqE k a with
    | true => rfl
    | false => show _ = (match setA k v l with | some r => some ((a, b) :: r) | none => none); cases setA k v l <;> rfl
def dlF (k : AV) (l : List (AV × AV)) : Option (List (AV × AV)) := List.rec (motive := fun _ => Option (List (AV × AV))) none (fun p l ih => Prod.rec (motive := fun _ => Option (List (AV × AV))) (fun a b => Bool.rec (motive := fun _ => Option (List (AV × AV))) (Option.rec (motive := fun _ => Option (List (AV × AV))) none (fun r => some ((a, b) :: r)) ih) (some l) (aqE k a)) p) l
theorem dlF_eq (k : AV) : ∀ l, dlF k l = delA k l
  | [] => rfl
  | (a, b) :: l => by
    show Bool.rec (motive := fun _ => Option (List (AV × AV))) (Option.rec (motive := fun _ => Option (List (AV × AV))) none (fun r => some ((a, b) :: r)) (dlF k l)) (some l) (aqE k a) = (bif aveq k a then some l else match delA k l with | some r => some ((a, b) :: r) | none => none)
    rw [aqE_eq, dlF_eq k l]
    cases aqE k a with
    | true => rfl
    | false => show _ = (match delA k l with | some r => some ((a, b) :: r) | none => none); cases delA k l <;> rfl
def lkMF (ks : List Nat) (z : AV) (commaOk : Bool) (x k : AV) (H : AH) : Option AV :=
  bif keyOk ks k then
    match x with
    | .nilMap => some (lkR false commaOk z)
    | .map A => match H.h.get A with
      | some (.map ks' es) => bif eqNL ks ks' then
          match fdF k es with
          | some v => some (lkR true commaOk v)
          | none => some (lkR false commaOk z)
        else none
      | _ => none
    | _ => none
  else none
theorem lkM_F : lkM = lkMF := by
  funext ks z c x k H
  have : fdF k = findA k := funext (fdF_eq k)
  unfold lkM lkMF; rw [this]; rfl
def upMF (ks : List Nat) (x k v : AV) (H : AH) : Option (AV × AH) :=
  bif keyOk ks k then
    match x with
    | .map A => match H.h.get A with
      | some (.map ks' es) => bif eqNL ks ks' then
          match stF k v es with
          | some es' => match putA H A (.map ks es') with | some H' => some (undefA, H') | none => none
          | none => match putA H A (.map ks (es ++ [(k, v)])) with | some H' => some (undefA, H') | none => none
        else none
      | _ => none
    | _ => none
  else none
theorem upM_F : upM = upMF := by
  funext ks x k v H
  have : stF k v = setA k v := funext (stF_eq k v)
  unfold upM upMF; rw [this]; rfl
def dlMF (ks : List Nat) (x k : AV) (H : AH) : Option (AV × AH) :=
  bif keyOk ks k then
    match x with
    | .nilMap => some (.tuple [], H)
    | .map A => match H.h.get A with
      | some (.map ks' es) => bif eqNL ks ks' then
          match dlF k es with
          | some es' => match putA H A (.map ks es') with | some H' => some (.tuple [], H') | none => none
          | none => some (.tuple [], H)
        else none
      | _ => none
    | _ => none
  else none
theorem dlM_F : dlM = dlMF := by
  funext ks x k H
  have : dlF k = delA k := funext (dlF_eq k)
  unfold dlM dlMF; rw [this]; rfl
def fAdF (off : Nat) (x : AV) : Option AV := oP x fun A o => fN (Nat.add o off) fun o => some (.ptr A o)
theorem fAd_F : fAd = fAdF := by funext off x; unfold fAdF; rw [oP_eq]; cases x <;> rfl
def jnF (x : Rs) (K : List AV → AH → Rs) : Rs := Option.rec (motive := fun _ => Rs) none (fun p => Prod.rec (motive := fun _ => Rs) (fun e H => Ex.rec (motive := fun _ => Rs) (fun vs => K vs H) (fun id vs => some (.exit id vs, H)) (fun v => some (.ret v, H)) e) p) x
theorem jn_F : jn = jnF := by
  funext x K
  rcases x with _ | ⟨e, H⟩
  · rfl
  · cases e <;> rfl
def jbF (i : Nat) (x : Rs) (K : List AV → AH → Rs) : Rs := Option.rec (motive := fun _ => Rs) none (fun p => Prod.rec (motive := fun _ => Rs) (fun e H => Ex.rec (motive := fun _ => Rs) (fun vs => K vs H) (fun id vs => Bool.rec (motive := fun _ => Rs) (some (.exit id vs, H)) (K vs H) (Nat.beq id i)) (fun v => some (.ret v, H)) e) p) x
theorem jb_F : jb = jbF := by
  funext i x K
  rcases x with _ | ⟨e, H⟩
  · rfl
  · cases e with
    | exit id vs => show (bif Nat.beq id i then _ else _) = Bool.rec (motive := fun _ => Rs) _ _ (Nat.beq id i); cases Nat.beq id i <;> rfl
    | _ => rfl
/- Numbers of 64 bits. -/
def bF (b : Bool) : Option AV := Bool.rec (motive := fun _ => Option AV) (some (.bool false)) (some (.bool true)) b
theorem bF_eq (b : Bool) : bF b = mkB b := by cases b <;> rfl
def oII (x y : AV) (K : Nat → Nat → Option AV) (d : Option AV) : Option AV := oI x (fun a => oI y (fun b => K a b) d) d
theorem oII_of {op : BinOp} {x y : AV} {K : Nat → Nat → Option AV} (h : ∀ a b, K a b = bInt op (.int .i64 (.ofNat a)) (.int .i64 (.ofNat b))) : oII x y K (bInt op x y) = bInt op x y := by
  unfold oII
  rw [oI_eq]
  split
  · rw [oI_eq]
    split
    · exact h _ _
    · rfl
  · rfl
def addF (x y : AV) : Option AV := oII x y (fun a b => Bool.rec (motive := fun _ => Option AV) (bInt .add (.int .i64 (.ofNat a)) (.int .i64 (.ofNat b))) (fN (Nat.add a b) fun s => some (.int .i64 (.ofNat s))) (Nat.blt (Nat.add a b) 9223372036854775808)) (bInt .add x y)
theorem add_F : bInt .add = addF := by
  funext x y
  refine (oII_of fun a b => ?_).symm
  cases h : Nat.blt (Nat.add a b) 9223372036854775808 with
  | false => rfl
  | true => show fN _ _ = _; rw [fN_eq]; exact (badd (by rw [Nat.blt_eq] at h; exact h)).symm
def subF (x y : AV) : Option AV := oII x y (fun a b => Bool.rec (motive := fun _ => Option AV) (bInt .sub (.int .i64 (.ofNat a)) (.int .i64 (.ofNat b))) (fN (Nat.sub a b) fun s => some (.int .i64 (.ofNat s))) (Nat.ble b a && Nat.blt a 9223372036854775808)) (bInt .sub x y)
theorem sub_F : bInt .sub = subF := by
  funext x y
  refine (oII_of fun a b => ?_).symm
  cases h : (Nat.ble b a && Nat.blt a 9223372036854775808) with
  | false => rfl
  | true =>
    show fN _ _ = _
    rw [Bool.and_eq_true, Nat.ble_eq, Nat.blt_eq] at h
    rw [fN_eq]
    have e : (Int.ofNat a - Int.ofNat b) = Int.ofNat (a - b) := by simp only [Int.ofNat_eq_natCast]; omega
    have e2 : Nat.blt (a - b) 9223372036854775808 = true := by rw [Nat.blt_eq]; omega
    simp only [bInt, abinI, keq, cond_true, e, mkI, fwrap, IntKind.signed, khalf, e2, fI, fN_eq]
    rfl
def lssF (x y : AV) : Option AV := oII x y (fun a b => bF (Nat.blt a b)) (bInt .lss x y)
theorem lss_F : bInt .lss = lssF := by funext x y; refine (oII_of fun a b => ?_).symm; rw [bF_eq]; rfl
def leqF (x y : AV) : Option AV := oII x y (fun a b => bF (Bool.not (Nat.blt b a))) (bInt .leq x y)
theorem leq_F : bInt .leq = leqF := by funext x y; refine (oII_of fun a b => ?_).symm; rw [bF_eq]; rfl
def gtrF (x y : AV) : Option AV := oII x y (fun a b => bF (Nat.blt b a)) (bInt .gtr x y)
theorem gtr_F : bInt .gtr = gtrF := by funext x y; refine (oII_of fun a b => ?_).symm; rw [bF_eq]; rfl
def geqF (x y : AV) : Option AV := oII x y (fun a b => bF (Bool.not (Nat.blt a b))) (bInt .geq x y)
theorem geq_F : bInt .geq = geqF := by funext x y; refine (oII_of fun a b => ?_).symm; rw [bF_eq]; rfl
def eqlF (x y : AV) : Option AV := oII x y (fun a b => bF (Nat.beq a b)) (bInt .eql x y)
theorem eql_F : bInt .eql = eqlF := by funext x y; refine (oII_of fun a b => ?_).symm; rw [bF_eq]; rfl
def neqF (x y : AV) : Option AV := oII x y (fun a b => bF (Bool.not (Nat.beq a b))) (bInt .neq x y)
theorem neq_F : bInt .neq = neqF := by funext x y; refine (oII_of fun a b => ?_).symm; rw [bF_eq]; rfl
/- Texts: the first byte that is unlike, by one number. -/
def fst8 (b c : Nat) : Nat := Nat.div (Nat.log2 (Nat.xor (Nat.xor b c) (Nat.sub (Nat.xor b c) 1))) 8
def slessF (l b m c : Nat) : Bool := Bool.rec (motive := fun _ => Bool)
  (fN (fst8 b c) fun i => Bool.rec (motive := fun _ => Bool) (sless l b m c) (Nat.blt (Nat.mod (Nat.div b (Nat.pow 256 i)) 256) (Nat.mod (Nat.div c (Nat.pow 256 i)) 256))
    (Nat.blt i l && Nat.blt i m && Nat.beq (Nat.mod b (Nat.pow 256 i)) (Nat.mod c (Nat.pow 256 i)) && Bool.not (Nat.beq (Nat.mod (Nat.div b (Nat.pow 256 i)) 256) (Nat.mod (Nat.div c (Nat.pow 256 i)) 256))))
  (Nat.blt l m) (Nat.beq b c)
theorem sless_same : ∀ (l m b : Nat), sless l b m b = Nat.blt l m
  | 0, 0, _ => rfl
  | l + 1, 0, _ => rfl
  | 0, m + 1, _ => rfl
  | l + 1, m + 1, b => by
    have e1 : Nat.blt (b % 256) (b % 256) = false := by rw [Bool.eq_false_iff, ne_eq, Nat.blt_eq]; omega
    have e2 : Nat.beq (b % 256) (b % 256) = true := by rw [Nat.beq_eq]
    rw [sless, sless_same l m (b / 256), e1, e2, Bool.false_or, Bool.true_and]
    rw [Bool.eq_iff_iff, Nat.blt_eq, Nat.blt_eq]; omega
theorem sless_at : ∀ (i l b m c : Nat), i < l → i < m → b % 256 ^ i = c % 256 ^ i → b / 256 ^ i % 256 ≠ c / 256 ^ i % 256 → sless l b m c = Nat.blt (b / 256 ^ i % 256) (c / 256 ^ i % 256)
  | _, 0, _, _, _, h, _, _, _ => absurd h (by omega)
  | _, _ + 1, _, 0, _, _, h, _, _ => absurd h (by omega)
  | 0, l + 1, b, m + 1, c, _, _, _, h => by
    simp only [Nat.pow_zero, Nat.div_one] at h ⊢
    have e2 : Nat.beq (b % 256) (c % 256) = false := by rw [Bool.eq_false_iff, ne_eq, Nat.beq_eq]; exact h
    rw [sless, e2, Bool.false_and, Bool.or_false]
  | i + 1, l + 1, b, m + 1, c, hl, hm, he, hn => by
    have p : 256 ^ (i + 1) = 256 * 256 ^ i := by rw [Nat.pow_succ, Nat.mul_comm]
    rw [p] at he hn ⊢
    rw [← Nat.div_div_eq_div_mul, ← Nat.div_div_eq_div_mul] at hn ⊢
    rw [Nat.mod_mul, Nat.mod_mul] at he
    have hb : b % 256 = c % 256 := by
      have := congrArg (· % 256) he
      simpa [Nat.add_mul_mod_self_left] using this
    have hr : b / 256 % 256 ^ i = c / 256 % 256 ^ i := by rw [hb] at he; omega
    have e1 : Nat.blt (b % 256) (c % 256) = false := by rw [Bool.eq_false_iff, ne_eq, Nat.blt_eq]; omega
    have e2 : Nat.beq (b % 256) (c % 256) = true := by rw [Nat.beq_eq]; exact hb
    rw [sless, e1, e2, Bool.false_or, Bool.true_and]
    exact sless_at i l (b / 256) m (c / 256) (by omega) (by omega) hr hn
theorem slessF_eq (l b m c : Nat) : slessF l b m c = sless l b m c := by
  unfold slessF
  cases h : Nat.beq b c with
  | true => rw [Nat.beq_eq] at h; subst h; exact (sless_same l m b).symm
  | false =>
    show fN _ _ = _
    rw [fN_eq]
    generalize fst8 b c = i
    cases h2 : (Nat.blt i l && Nat.blt i m && Nat.beq (Nat.mod b (Nat.pow 256 i)) (Nat.mod c (Nat.pow 256 i)) && Bool.not (Nat.beq (Nat.mod (Nat.div b (Nat.pow 256 i)) 256) (Nat.mod (Nat.div c (Nat.pow 256 i)) 256))) with
    | false => rfl
    | true =>
      simp only [Bool.and_eq_true, Nat.blt_eq, Nat.beq_eq, Bool.not_eq_true', Bool.eq_false_iff, ne_eq] at h2
      exact (sless_at i l b m c h2.1.1.1 h2.1.1.2 h2.1.2 h2.2).symm
def oSS (x y : AV) (K : Nat → Nat → Nat → Nat → Option AV) : Option AV := oS x fun l b => oS y fun m c => K l b m c
theorem oSS_of {op : BinOp} {x y : AV} {K : Nat → Nat → Nat → Nat → Option AV} (h : ∀ l b m c, K l b m c = abinS op l b m c) : oSS x y K = bStr op x y := by
  unfold oSS bStr
  rw [oS_eq]
  cases x with
  | str l b => show oS y _ = _; rw [oS_eq]; cases y with
    | str m c => exact h l b m c
    | _ => rfl
  | _ => rfl
def lssS (x y : AV) : Option AV := oSS x y fun l b m c => bF (slessF l b m c)
theorem lss_S : bStr .lss = lssS := by funext x y; refine (oSS_of fun l b m c => ?_).symm; rw [bF_eq, slessF_eq]; rfl
def leqS (x y : AV) : Option AV := oSS x y fun l b m c => bF (slessF l b m c || (Nat.beq l m && Nat.beq b c))
theorem leq_S : bStr .leq = leqS := by funext x y; refine (oSS_of fun l b m c => ?_).symm; rw [bF_eq, slessF_eq]; rfl
def gtrS (x y : AV) : Option AV := oSS x y fun l b m c => bF !(slessF l b m c || (Nat.beq l m && Nat.beq b c))
theorem gtr_S : bStr .gtr = gtrS := by funext x y; refine (oSS_of fun l b m c => ?_).symm; rw [bF_eq, slessF_eq]; rfl
def geqS (x y : AV) : Option AV := oSS x y fun l b m c => bF !(slessF l b m c)
theorem geq_S : bStr .geq = geqS := by funext x y; refine (oSS_of fun l b m c => ?_).symm; rw [bF_eq, slessF_eq]; rfl
def eqlS (x y : AV) : Option AV := oSS x y fun l b m c => bF (Nat.beq l m && Nat.beq b c)
theorem eql_S : bStr .eql = eqlS := by funext x y; refine (oSS_of fun l b m c => ?_).symm; rw [bF_eq]; rfl
def neqS (x y : AV) : Option AV := oSS x y fun l b m c => bF !(Nat.beq l m && Nat.beq b c)
theorem neq_S : bStr .neq = neqS := by funext x y; refine (oSS_of fun l b m c => ?_).symm; rw [bF_eq]; rfl
/- Cells. -/
def cnF (l : List AV) : Nat → Option AV := List.rec (motive := fun _ => Nat → Option AV) (fun _ => none)
  (fun x _ ih n => oK x (fun m b => Bool.rec (motive := fun _ => Option AV) (ih (Nat.sub n m)) (fN (Nat.mod (Nat.div b (Nat.pow 2 (Nat.mul 8 n))) 256) fun r => some (.int .u8 (.ofNat r))) (Nat.blt n m))
    (Nat.rec (motive := fun _ => Option AV) (some x) (fun k _ => ih k) n)) l
theorem cnF_eq : ∀ (l : List AV) (n : Nat), cnF l n = cnth l n
  | [], _ => rfl
  | x :: l, n => by
    show oK x _ _ = _
    rw [oK_eq]
    have ih := cnF_eq l
    cases x with
    | pk m b =>
      show Bool.rec (motive := fun _ => Option AV) _ _ (Nat.blt n m) = (bif Nat.blt n m then _ else _)
      cases Nat.blt n m with
      | false => exact ih (n - m)
      | true => rfl
    | _ => cases n with
      | zero => rfl
      | succ k => exact ih k
def oC (x : Option AObj) (K : List AV → Option AV) : Option AV := Option.rec (motive := fun _ => Option AV) none (fun o => AObj.rec (motive := fun _ => Option AV) (fun l _ _ _ => K l) (fun _ _ => none) (fun _ => none) (fun _ => none) none o) x
def ld1F (p : AV) (H : AH) : Option AV := oP p fun A o => oC (T.get H.h A) fun l => cnF l o
theorem ld1p_F : ld1p = ld1F := by
  funext p H
  unfold ld1F
  rw [oP_eq]
  cases p with
  | ptr A o =>
    show _ = oC (T.get H.h A) _
    unfold ld1p oC
    simp only
    cases T.get H.h A with
    | none => rfl
    | some o' => cases o' with
      | cells l e sz g => exact (cnF_eq l o).symm
      | _ => rfl
  | _ => rfl
def ixF (sz : Nat) (x ix : AV) : Option AV := oI ix (fun i => oL x fun A o n => Bool.rec (motive := fun _ => Option AV) none (fN (Nat.add o (Nat.mul i sz)) fun o => some (.ptr A o)) (Nat.blt i n)) (ixSl sz x ix)
theorem ixSl_F : ixSl = ixF := by
  funext sz x ix
  unfold ixF
  rw [oI_eq]
  split
  · rename_i i
    rw [oL_eq]
    cases x with
    | slice A o n c =>
      show (bif Nat.blt i n then _ else _) = Bool.rec (motive := fun _ => Option AV) _ _ (Nat.blt i n)
      cases Nat.blt i n <;> rfl
    | _ => rfl
  · rfl
def oA (x : AV) : (List AV → Option AV) → Option AV := AV.rec (motive_1 := fun _ => (List AV → Option AV) → Option AV) (motive_2 := fun _ => Unit) (fun _ _ => none) (fun _ _ _ => none) (fun _ _ _ => none) (fun _ => none) (fun _ _ _ => none) (fun _ => none) (fun _ _ _ _ _ => none) (fun _ => none) (fun _ => none) (fun _ _ => none) (fun _ _ _ _ _ _ => none) (fun _ _ => none) (fun _ => none) (fun _ _ _ _ => none) (fun _ => none) (fun l _ K => K l) (fun _ _ _ => none) (fun _ _ _ => none) (fun _ _ _ => none) () (fun _ _ _ _ => ()) x
theorem oA_eq (x : AV) (K : List AV → Option AV) : oA x K = match x with | .agg l => K l | _ => none := by cases x <;> rfl
def oKL (x : AV) : (Nat → Nat → Option (List AV)) → Option (List AV) → Option (List AV) := AV.rec (motive_1 := fun _ => (Nat → Nat → Option (List AV)) → Option (List AV) → Option (List AV)) (motive_2 := fun _ => Unit) (fun _ _ d => d) (fun _ _ _ d => d) (fun _ _ _ d => d) (fun _ d => d) (fun _ _ _ d => d) (fun _ d => d) (fun _ _ _ _ _ d => d) (fun _ d => d) (fun _ d => d) (fun _ _ d => d) (fun _ _ _ _ _ _ d => d) (fun _ _ d => d) (fun _ d => d) (fun _ _ _ _ d => d) (fun _ d => d) (fun _ _ _ d => d) (fun _ _ _ d => d) (fun m b K d => K m b) (fun _ _ _ d => d) () (fun _ _ _ _ => ()) x
theorem oKL_eq (x : AV) (K : Nat → Nat → Option (List AV)) (d : Option (List AV)) : oKL x K d = match x with | .pk m b => K m b | _ => d := by cases x <;> rfl
def oBy (x : AV) : (Nat → Nat → Option (Nat × Nat)) → (Nat → Option (Nat × Nat)) → Option (Nat × Nat) := AV.rec (motive_1 := fun _ => (Nat → Nat → Option (Nat × Nat)) → (Nat → Option (Nat × Nat)) → Option (Nat × Nat)) (motive_2 := fun _ => Unit) (fun _ _ _ => none) (fun k z K L => IntKind.rec (motive := fun _ => Option (Nat × Nat)) none none none none (Int.rec (motive := fun _ => Option (Nat × Nat)) L (fun _ => none) z) none none none k) (fun _ _ _ _ => none) (fun _ _ => none) (fun _ _ _ _ => none) (fun _ _ => none) (fun _ _ _ _ _ _ => none) (fun _ _ => none) (fun _ _ => none) (fun _ _ _ => none) (fun _ _ _ _ _ _ _ => none) (fun _ _ _ => none) (fun _ _ => none) (fun _ _ _ _ _ => none) (fun _ _ => none) (fun _ _ _ _ => none) (fun _ _ _ _ => none) (fun m b K L => K m b) (fun _ _ _ _ => none) () (fun _ _ _ _ => ()) x
def cAG (x : AV) : List AV → List AV := AV.rec (motive_1 := fun _ => List AV → List AV) (motive_2 := fun _ => Unit) (fun _ d => d) (fun _ _ d => d) (fun _ _ d => d) (fun d => d) (fun _ _ d => d) (fun d => d) (fun _ _ _ _ d => d) (fun d => d) (fun d => d) (fun _ d => d) (fun _ _ _ _ _ d => d) (fun _ d => d) (fun d => d) (fun _ _ _ d => d) (fun d => d) (fun l _ d => l) (fun _ _ d => d) (fun _ _ d => d) (fun _ _ d => d) () (fun _ _ _ _ => ()) x
def icF (x : AV) : Bool := AV.rec (motive_1 := fun _ => Bool) (motive_2 := fun _ => Unit) (fun _ => true) (fun _ _ => true) (fun _ _ => true) (true) (fun _ _ => true) (true) (fun _ _ _ _ => true) (true) (true) (fun _ => true) (fun _ _ _ _ _ => true) (fun _ => true) (true) (fun _ _ _ => true) (true) (fun _ _ => false) (fun _ _ => false) (fun _ _ => true) (fun _ _ => true) () (fun _ _ _ _ => ()) x
def cAF (x : AV) : List AV := cAG x [x]
theorem cA_F : cellsA = cAF := by funext x; cases x <;> rfl
theorem ic_F : isCell = icF := by funext x; cases x <;> rfl
def aCF (l : List AV) : Bool := List.rec (motive := fun _ => Bool) true (fun x _ ih => Bool.rec (motive := fun _ => Bool) false ih (icF x)) l
theorem aC_F : allCells = aCF := by
  funext l
  induction l with
  | nil => rfl
  | cons x l ih => show (isCell x && allCells l) = Bool.rec (motive := fun _ => Bool) false (aCF l) (icF x); rw [ic_F, ih]; cases icF x <;> rfl
def oKN (x : AV) : (Nat → Nat) → Nat → Nat := AV.rec (motive_1 := fun _ => (Nat → Nat) → Nat → Nat) (motive_2 := fun _ => Unit) (fun _ _ d => d) (fun _ _ _ d => d) (fun _ _ _ d => d) (fun _ d => d) (fun _ _ _ d => d) (fun _ d => d) (fun _ _ _ _ _ d => d) (fun _ d => d) (fun _ d => d) (fun _ _ d => d) (fun _ _ _ _ _ _ d => d) (fun _ _ d => d) (fun _ d => d) (fun _ _ _ _ d => d) (fun _ d => d) (fun _ _ _ d => d) (fun _ _ _ d => d) (fun m _ K d => K m) (fun _ _ _ d => d) () (fun _ _ _ _ => ()) x
theorem oKN_eq (x : AV) (K : Nat → Nat) (d : Nat) : oKN x K d = match x with | .pk m _ => K m | _ => d := by cases x <;> rfl
def cwF (l : List AV) : Nat → Nat := List.rec (motive := fun _ => Nat → Nat) (fun a => a) (fun x _ ih a => oKN x (fun n => ih (Nat.add n a)) (ih (Nat.succ a))) l
theorem cw_F : cwd = cwF := by
  funext l
  induction l with
  | nil => rfl
  | cons x l ih =>
    funext a
    show _ = oKN x _ _
    rw [oKN_eq]
    cases x <;> (simp only [cwd, ih]; rfl)
def ctF (l : List AV) : Nat → Option (List AV) := List.rec (motive := fun _ => Nat → Option (List AV)) (fun n => Bool.rec (motive := fun _ => Option (List AV)) none (some []) (Nat.beq n 0))
  (fun x _ ih n => Bool.rec (motive := fun _ => Option (List AV))
    (oKL x (fun m b => Bool.rec (motive := fun _ => Option (List AV)) (fN (Nat.mod b (Nat.pow 2 (Nat.mul 8 n))) fun c => some [.pk n c]) (Option.rec (motive := fun _ => Option (List AV)) none (fun r => some (.pk m b :: r)) (ih (Nat.sub n m))) (Nat.ble m n))
      (Option.rec (motive := fun _ => Option (List AV)) none (fun r => some (x :: r)) (ih (Nat.sub n 1)))) (some []) (Nat.beq n 0)) l
theorem ctF_eq : ∀ (l : List AV) (n : Nat), ctF l n = ctake l n
  | [], n => by
    show Bool.rec (motive := fun _ => Option (List AV)) none (some []) (Nat.beq n 0) = (bif Nat.beq n 0 then some [] else none)
    cases Nat.beq n 0 <;> rfl
  | x :: l, n => by
    have ih := ctF_eq l
    unfold ctake
    show Bool.rec (motive := fun _ => Option (List AV)) (oKL x _ _) (some []) (Nat.beq n 0) = _
    cases Nat.beq n 0 with
    | true => rfl
    | false =>
      show oKL x _ _ = _
      rw [oKL_eq]
      cases x with
      | pk m b =>
        show Bool.rec (motive := fun _ => Option (List AV)) _ (Option.rec (motive := fun _ => Option (List AV)) none _ (ctF l (n - m))) (Nat.ble m n) = _
        rw [ih]
        simp only [cond_false]
        cases Nat.ble m n with
        | false => rfl
        | true => show Option.rec (motive := fun _ => Option (List AV)) none _ (ctake l (n - m)) = (match ctake l (n - m) with | some r => some (.pk m b :: r) | none => none); cases ctake l (n - m) <;> rfl
      | _ => simp only [cond_false]; show Option.rec (motive := fun _ => Option (List AV)) none _ (ctF l (n - 1)) = _; rw [ih]; cases ctake l (n - 1) <;> rfl
def csF (l : List AV) : Nat → Nat → Option (List AV) := List.rec (motive := fun _ => Nat → Nat → Option (List AV)) (fun _ n => Bool.rec (motive := fun _ => Option (List AV)) none (some []) (Nat.beq n 0))
  (fun x l ih o n => oKL x (fun m b => Bool.rec (motive := fun _ => Option (List AV)) (fN (Nat.sub m o) fun k => fN (Nat.div b (Nat.pow 2 (Nat.mul 8 o))) fun c => ctF (.pk k c :: l) n) (ih (Nat.sub o m) n) (Nat.ble m o))
    (Nat.rec (motive := fun _ => Option (List AV)) (ctF (x :: l) n) (fun k _ => ih k n) o)) l
theorem csF_eq : ∀ (l : List AV) (o n : Nat), csF l o n = csub l o n
  | [], o, n => by
    show Bool.rec (motive := fun _ => Option (List AV)) none (some []) (Nat.beq n 0) = (bif Nat.beq n 0 then some [] else none)
    cases Nat.beq n 0 <;> rfl
  | x :: l, o, n => by
    have ih := csF_eq l
    unfold csub
    show oKL x _ _ = _
    rw [oKL_eq]
    cases x with
    | pk m b =>
      show Bool.rec (motive := fun _ => Option (List AV)) (fN (m - o) fun k => fN (b / 2 ^ (8 * o)) fun c => ctF (.pk k c :: l) n) (csF l (o - m) n) (Nat.ble m o) = (bif Nat.ble m o then csub l (o - m) n else fN (m - o) fun k => fN (b / 2 ^ (8 * o)) fun c => ctake (.pk k c :: l) n)
      simp only [ctF_eq, ih]
      cases Nat.ble m o <;> rfl
    | _ => cases o with
      | zero => exact ctF_eq _ n
      | succ k => exact ih k n
theorem cs_F : csub = csF := by funext l o n; exact (csF_eq l o n).symm
def ctxF (l : List AV) : Option (Nat × Nat) := List.rec (motive := fun _ => Option (Nat × Nat)) (some (0, 0)) (fun x _ ih => oBy x
  (fun n b => Option.rec (motive := fun _ => Option (Nat × Nat)) none (fun p => Prod.rec (motive := fun _ => Option (Nat × Nat)) (fun m c => fN (Nat.add n m) fun k => fN (Nat.add (Nat.mod b (Nat.pow 2 (Nat.mul 8 n))) (Nat.mul c (Nat.pow 2 (Nat.mul 8 n)))) fun d => some (k, d)) p) ih)
  (fun y => Bool.rec (motive := fun _ => Option (Nat × Nat)) none (Option.rec (motive := fun _ => Option (Nat × Nat)) none (fun p => Prod.rec (motive := fun _ => Option (Nat × Nat)) (fun m c => fN (Nat.succ m) fun k => fN (Nat.add y (Nat.mul 256 c)) fun d => some (k, d)) p) ih) (Nat.blt y 256))) l
theorem ctx_F : ctext = ctxF := by
  funext l
  induction l with
  | nil => rfl
  | cons x l ih =>
    show _ = oBy x _ _
    cases x with
    | pk n b => show ctext (.pk n b :: l) = Option.rec (motive := fun _ => Option (Nat × Nat)) none _ (ctxF l); rw [← ih, ctext]; cases ctext l <;> rfl
    | int k z => cases k with
      | u8 => cases z with
        | ofNat y =>
          show ctext (.int .u8 (.ofNat y) :: l) = Bool.rec (motive := fun _ => Option (Nat × Nat)) none (Option.rec (motive := fun _ => Option (Nat × Nat)) none _ (ctxF l)) (Nat.blt y 256)
          rw [← ih, ctext]
          cases Nat.blt y 256 with
          | false => rfl
          | true => simp only [cond_true]; cases ctext l <;> rfl
        | negSucc y => rfl
      | _ => rfl
    | _ => rfl
def ccF (l : List AV) : List AV → Option (List AV) := List.rec (motive := fun _ => List AV → Option (List AV)) (fun ys => List.rec (motive := fun _ => Option (List AV)) (some []) (fun _ _ _ => none) ys)
  (fun x l ih ys => List.rec (motive := fun _ => Option (List AV)) (some (x :: l)) (fun y ys _ => oKL x (fun m _ => oKL y (fun k c => Bool.rec (motive := fun _ => Option (List AV)) none (Option.rec (motive := fun _ => Option (List AV)) none (fun r => some (.pk k c :: r)) (ih ys)) (Nat.beq m k)) none)
    (oKL y (fun _ _ => none) (Option.rec (motive := fun _ => Option (List AV)) none (fun r => some (y :: r)) (ih ys)))) ys) l
theorem ccF_eq : ∀ (l ys : List AV), ccF l ys = ccover l ys
  | [], [] => rfl
  | [], _ :: _ => rfl
  | x :: l, [] => rfl
  | x :: l, y :: ys => by
    have ih := ccF_eq l ys
    unfold ccover
    cases x with
    | pk m b =>
      show oKL y _ none = _
      rw [oKL_eq]
      cases y with
      | pk k c =>
        show Bool.rec (motive := fun _ => Option (List AV)) none (Option.rec (motive := fun _ => Option (List AV)) none _ (ccF l ys)) (Nat.beq m k) = (bif Nat.beq m k then (match ccover l ys with | some r => some (AV.pk k c :: r) | none => none) else none)
        rw [ih]
        cases Nat.beq m k with
        | false => rfl
        | true => show _ = (match ccover l ys with | some r => some (AV.pk k c :: r) | none => none); cases ccover l ys <;> rfl
      | _ => rfl
    | _ =>
      show oKL y _ _ = _
      rw [oKL_eq]
      cases y with
      | pk k c => rfl
      | _ => show Option.rec (motive := fun _ => Option (List AV)) none _ (ccF l ys) = _; rw [ih]; cases ccover l ys <;> rfl
theorem cc_F : ccover = ccF := by funext l o; exact (ccF_eq l o).symm


def cs0F (l : List AV) : Nat → List AV → Option (List AV) := List.rec (motive := fun _ => Nat → List AV → Option (List AV)) (fun o new => cset0 [] o new)
  (fun x l ih o new => oKL x (fun m b => Bool.rec (motive := fun _ => Option (List AV))
      (Option.rec (motive := fun _ => Option (List AV)) (Bool.rec (motive := fun _ => Option (List AV)) none (ccF (.pk m b :: l) new) (Nat.beq o 0))
        (fun p => Prod.rec (motive := fun _ => Option (List AV)) (fun k c => Bool.rec (motive := fun _ => Option (List AV)) none (fN (cput m b o k c) fun d => some (.pk m d :: l)) (Nat.ble (Nat.add o k) m)) p) (ctxF new))
      (Option.rec (motive := fun _ => Option (List AV)) none (fun r => some (.pk m b :: r)) (ih (Nat.sub o m) new)) (Nat.ble m o))
    (Nat.rec (motive := fun _ => Option (List AV)) (ccF (x :: l) new) (fun o _ => Option.rec (motive := fun _ => Option (List AV)) none (fun r => some (x :: r)) (ih o new)) o)) l
theorem cs0F_eq : ∀ (l : List AV) (o : Nat) (new : List AV), cs0F l o new = cset0 l o new
  | [], _, _ => rfl
  | x :: l, o, new => by
    have ih := cs0F_eq l
    show oKL x _ _ = _
    rw [oKL_eq]
    unfold cset0
    cases x with
    | pk m b =>
      show Bool.rec (motive := fun _ => Option (List AV)) (Option.rec (motive := fun _ => Option (List AV)) (Bool.rec (motive := fun _ => Option (List AV)) none (ccF (.pk m b :: l) new) (Nat.beq o 0))
        (fun p => Prod.rec (motive := fun _ => Option (List AV)) (fun k c => Bool.rec (motive := fun _ => Option (List AV)) none (fN (cput m b o k c) fun d => some (.pk m d :: l)) (Nat.ble (o + k) m)) p) (ctxF new))
        (Option.rec (motive := fun _ => Option (List AV)) none (fun r => some (.pk m b :: r)) (cs0F l (o - m) new)) (Nat.ble m o) = _
      rw [ih, ← ctx_F, ← cc_F]
      simp only
      cases Nat.ble m o with
      | true => simp only [cond_true]; cases cset0 l (o - m) new <;> rfl
      | false =>
        simp only [cond_false]
        rcases ctext new with _ | ⟨k, c⟩
        · simp only; cases Nat.beq o 0 <;> rfl
        · simp only; cases Nat.ble (o + k) m <;> rfl
    | _ => cases o with
      | zero => exact ccF_eq _ _
      | succ o => show Option.rec (motive := fun _ => Option (List AV)) none _ (cs0F l o new) = _; rw [ih]; simp only; cases cset0 l o new <;> rfl
def cstF (l : List AV) (o : Nat) (new : List AV) : Option (List AV) := Option.rec (motive := fun _ => Option (List AV)) (setAt (exL l) o (exL new)) (fun r => some r) (cs0F l o new)
theorem cst_F : cset = cstF := by
  funext l o new
  unfold cset cstF
  rw [cs0F_eq]
  cases cset0 l o new <;> rfl
def oCS (x : Option AObj) (K : List AV → TypeId → Nat → Bool → Option (AV × AH)) : Option (AV × AH) := Option.rec (motive := fun _ => Option (AV × AH)) none (fun o => AObj.rec (motive := fun _ => Option (AV × AH)) K (fun _ _ => none) (fun _ => none) (fun _ => none) none o) x
def stNF (n : Nat) (p x : AV) (H : AH) : Option (AV × AH) := oQ p fun A off => oCS (T.get H.h A) fun l e sz g =>
  Bool.rec (motive := fun _ => Option (AV × AH)) none
    (Option.rec (motive := fun _ => Option (AV × AH)) none (fun l' => Option.rec (motive := fun _ => Option (AV × AH)) none (fun t => some (undefA, ⟨t, H.next⟩)) (T.set 40 H.h A (.cells l' e sz g))) (cstF l off (cAF x)))
    (Bool.rec (motive := fun _ => Bool) false (aCF (cAF x)) (Nat.beq (cwF (cAF x) 0) n))
theorem stNp_F : stNp = stNF := by
  funext n p x H
  unfold stNF
  rw [oQ_eq]
  cases p with
  | ptr A off =>
    unfold stNp
    rw [← cst_F, ← cA_F, ← aC_F, ← cw_F, brA]
    show (match T.get H.h A with | some (.cells l e sz g) => _ | _ => none) = oCS (T.get H.h A) _
    cases T.get H.h A with
    | none => rfl
    | some o => cases o with
      | cells l e sz g =>
        show (bif (cwd (cellsA x) 0).beq n && allCells (cellsA x) then _ else none) = Bool.rec (motive := fun _ => Option (AV × AH)) none _ ((cwd (cellsA x) 0).beq n && allCells (cellsA x))
        cases ((cwd (cellsA x) 0).beq n && allCells (cellsA x)) with
        | false => rfl
        | true =>
          simp only [cond_true]
          cases cset l off (cellsA x) with
          | none => rfl
          | some l' => simp only [putA]; cases T.set 40 H.h A (.cells l' e sz g) <;> rfl
      | _ => rfl
  | _ => rfl
def agF (x : Option (List AV)) : Option AV := Option.rec (motive := fun _ => Option AV) none (fun c => some (.agg c)) x
def ldNF (n : Nat) (p : AV) (H : AH) : Option AV := oP p fun A o => oC (T.get H.h A) fun l => agF (csF l o n)
theorem ldNp_F : ldNp = ldNF := by
  funext n p H
  unfold ldNF
  rw [oP_eq]
  cases p with
  | ptr A o =>
    unfold ldNp
    rw [← cs_F]
    show (match T.get H.h A with | some (.cells l _ _ _) => _ | _ => none) = oC (T.get H.h A) _
    cases T.get H.h A with
    | none => rfl
    | some o' => cases o' with
      | cells l e sz g => show _ = agF (csub l o n); simp only; cases csub l o n <;> rfl
      | _ => rfl
  | _ => rfl
def fd1F (off : Nat) (x : AV) : Option AV := oA x fun cs => cnF cs off
theorem fd1p_F : fd1p = fd1F := by
  funext off x
  unfold fd1F
  rw [oA_eq]
  cases x <;> first | rfl | exact (cnF_eq _ _).symm
def fdNF (off n : Nat) (x : AV) : Option AV := oA x fun cs => agF (csF cs off n)
theorem fdNp_F : fdNp = fdNF := by
  funext off n x
  unfold fdNF
  rw [oA_eq]
  cases x with
  | agg cs => show _ = agF (csF cs off n); rw [← cs_F]; unfold fdNp; simp only; cases csub cs off n <;> rfl
  | _ => rfl
def cflF (place : Nat → Option (Nat × Nat)) (l : List (Nat × AV)) : List AV → Option (List AV) := List.rec (motive := fun _ => List AV → Option (List AV)) (fun cells => some cells)
  (fun p _ ih cells => Prod.rec (motive := fun _ => Option (List AV)) (fun i v => Option.rec (motive := fun _ => Option (List AV)) none (fun q => Prod.rec (motive := fun _ => Option (List AV)) (fun off size =>
    Bool.rec (motive := fun _ => Option (List AV)) none (Option.rec (motive := fun _ => Option (List AV)) none (fun c => ih c) (cstF cells off (cAF v))) (Nat.beq (cwF (cAF v) 0) size)) q) (place i)) p) l
theorem cflF_eq (place : Nat → Option (Nat × Nat)) : ∀ (l : List (Nat × AV)) (cells : List AV), cflF place l cells = cfill place cells l
  | [], _ => rfl
  | (i, v) :: l, cells => by
    have ih := cflF_eq place l
    unfold cfill
    show Option.rec (motive := fun _ => Option (List AV)) none (fun q => Prod.rec (motive := fun _ => Option (List AV)) (fun off size =>
      Bool.rec (motive := fun _ => Option (List AV)) none (Option.rec (motive := fun _ => Option (List AV)) none (fun c => cflF place l c) (cstF cells off (cAF v))) (Nat.beq (cwF (cAF v) 0) size)) q) (place i) = _
    rw [← cst_F, ← cA_F, ← cw_F]
    rcases place i with _ | ⟨off, size⟩
    · rfl
    · show Bool.rec (motive := fun _ => Option (List AV)) none (Option.rec (motive := fun _ => Option (List AV)) none (fun c => cflF place l c) (cset cells off (cellsA v))) (Nat.beq (cwd (cellsA v) 0) size) = (bif Nat.beq (cwd (cellsA v) 0) size then _ else none)
      cases Nat.beq (cwd (cellsA v) 0) size with
      | false => rfl
      | true =>
        simp only [cond_true]
        cases cset cells off (cellsA v) with
        | none => rfl
        | some c => exact ih c
def bldSF (pl : List (Nat × Nat)) (z : List AV) (parts : List (Nat × AV)) : Option AV := agF (cflF (nthP pl) parts z)
theorem bldSp_F : bldSp = bldSF := by
  funext pl z parts
  unfold bldSF bldSp
  rw [cflF_eq]
  cases cfill (nthP pl) z parts <;> rfl
def bldAF (sz : Nat) (z : List AV) (parts : List (Nat × AV)) : Option AV := agF (cflF (fun i => some (Nat.mul i sz, sz)) parts z)
theorem bldAp_F : bldAp = bldAF := by
  funext sz z parts
  unfold bldAF bldAp
  rw [cflF_eq]
  show _ = agF (cfill (fun i => some (i * sz, sz)) z parts)
  cases cfill (fun i => some (i * sz, sz)) z parts <;> rfl
def ipF (x : AV) : Bool := AV.rec (motive_1 := fun _ => Bool) (motive_2 := fun _ => Unit) (fun _ => false) (fun _ _ => false) (fun _ _ => false) (false) (fun _ _ => false) (false) (fun _ _ _ _ => false) (false) (false) (fun _ => false) (fun _ _ _ _ _ => false) (fun _ => false) (false) (fun _ _ _ => false) (false) (fun _ _ => false) (fun _ _ => false) (fun _ _ => false) (fun _ _ => true) () (fun _ _ _ _ => ()) x
def npF (x : Option (AV × AH)) : Option (AV × AH) := Option.rec (motive := fun _ => Option (AV × AH)) none (fun p => Prod.rec (motive := fun _ => Option (AV × AH)) (fun v H => Bool.rec (motive := fun _ => Option (AV × AH)) (some (v, H)) none (ipF v)) p) x
theorem noPan_F : noPan = npF := by
  funext x
  rcases x with _ | ⟨v, H⟩
  · rfl
  · cases v <;> rfl

def apX : {g // g = apPp} := ⟨_, by conv => rhs; delta apPp; delta capp1 csrc; delta capp2; delta cgrow croom; simp only [cs_F, cst_F, cw_F, aC_F, cA_F]⟩
def azX : {g // g = apZp} := ⟨_, by conv => rhs; delta apZp; delta capp1; delta capp2; delta cgrow croom; simp only [cs_F, cst_F, cw_F, aC_F, cA_F]⟩
def cpX : {g // g = cpyp} := ⟨_, by conv => rhs; delta cpyp; delta csrc; simp only [cs_F, cst_F, cw_F, aC_F, cA_F, ← ctF_eq]⟩
def bsX : {g // g = cvBSp} := ⟨_, by conv => rhs; delta cvBSp; simp only [cs_F, ctx_F]⟩
def slX : {g // g = slSlp} := ⟨_, by conv => rhs; delta slSlp; delta croom; simp only [cw_F]⟩
def blX : {g // g = bldLp} := ⟨_, by conv => rhs; delta bldLp; simp only [← cflF_eq]⟩
def oN (x : AV) : (Nat → Option AV) → Option AV → Option AV := AV.rec (motive_1 := fun _ => (Nat → Option AV) → Option AV → Option AV) (motive_2 := fun _ => Unit) (fun _ _ d => d) (fun _ z K d => Int.rec (motive := fun _ => Option AV) K (fun _ => d) z) (fun _ _ _ d => d) (fun _ d => d) (fun _ _ _ d => d) (fun _ d => d) (fun _ _ _ _ _ d => d) (fun _ d => d) (fun _ d => d) (fun _ _ d => d) (fun _ _ _ _ _ _ d => d) (fun _ _ d => d) (fun _ d => d) (fun _ _ _ _ d => d) (fun _ d => d) (fun _ _ _ d => d) (fun _ _ _ d => d) (fun _ _ _ d => d) (fun _ _ _ d => d) () (fun _ _ _ _ => ()) x
theorem oN_of {k : IntKind} {x : AV} {K : Nat → Option AV} (h : ∀ n, K n = mkI k (.ofNat n)) : oN x K (cvI k x) = cvI k x := by
  cases x with
  | int q z => cases z with
    | ofNat n => exact h n
    | negSucc n => rfl
  | _ => rfl
def cv8F (x : AV) : Option AV := oN x (fun n => fN (Nat.mod n 256) fun m => some (.int .u8 (.ofNat m))) (cvI .u8 x)
theorem cv8_F : cvI .u8 = cv8F := by funext x; exact (oN_of fun n => rfl).symm
def cv64F (x : AV) : Option AV := oN x (fun n => fN (Nat.mod n 18446744073709551616) fun m => some (.int .u64 (.ofNat m))) (cvI .u64 x)
theorem cv64_F : cvI .u64 = cv64F := by funext x; exact (oN_of fun n => rfl).symm
def cviF (x : AV) : Option AV := oN x (fun n => Bool.rec (motive := fun _ => Option AV) (cvI .i64 (.int .i64 (.ofNat n))) (fN n fun m => some (.int .i64 (.ofNat m))) (Nat.blt n 9223372036854775808)) (cvI .i64 x)
theorem cvi_F : cvI .i64 = cviF := by
  funext x
  refine (oN_of fun n => ?_).symm
  cases h : Nat.blt n 9223372036854775808 with
  | false => rfl
  | true => simp only [mkI, fwrap, IntKind.signed, khalf, h, cond_true, fI]
def remF (x y : AV) : Option AV := oII x y (fun a b => Bool.rec (motive := fun _ => Option AV) (fN (Nat.mod a b) fun r => some (.int .i64 (.ofNat r))) none (Nat.beq b 0)) (bInt .rem x y)
theorem rem_F : bInt .rem = remF := by
  funext x y
  refine (oII_of fun a b => ?_).symm
  show Bool.rec (motive := fun _ => Option AV) _ none (Nat.beq b 0) = (bif Nat.beq b 0 then none else fN (a % b) fun r => some (AV.int .i64 (.ofNat r)))
  cases Nat.beq b 0 <;> rfl
def quoF (x y : AV) : Option AV := oII x y (fun a b => Bool.rec (motive := fun _ => Option AV) (bInt .quo (.int .i64 (.ofNat a)) (.int .i64 (.ofNat b))) (fN (Nat.div a b) fun r => some (.int .i64 (.ofNat r))) (Nat.blt 0 b && Nat.blt a 9223372036854775808)) (bInt .quo x y)
theorem quo_F : bInt .quo = quoF := by
  funext x y
  refine (oII_of fun a b => ?_).symm
  cases h : (Nat.blt 0 b && Nat.blt a 9223372036854775808) with
  | false => rfl
  | true =>
    rw [Bool.and_eq_true, Nat.blt_eq, Nat.blt_eq] at h
    have h2 : Nat.blt (a / b) 9223372036854775808 = true := by rw [Nat.blt_eq]; exact Nat.lt_of_le_of_lt (Nat.div_le_self a b) h.2
    have h3 : Nat.beq b 0 = false := by rw [Bool.eq_false_iff, ne_eq, Nat.beq_eq]; omega
    show fN (a / b) _ = (bif Nat.beq b 0 then none else mkI .i64 (.ofNat (a / b)))
    simp only [h3, cond_false, mkI, fwrap, IntKind.signed, khalf, h2, cond_true, fI]
def wntF (x : AV) : Bool → Rs → Rs → Rs := AV.rec (motive_1 := fun _ => Bool → Rs → Rs → Rs) (motive_2 := fun _ => Unit) (fun v w a b => Bool.rec (motive := fun _ => Rs) (Bool.rec (motive := fun _ => Rs) a b w) (Bool.rec (motive := fun _ => Rs) b a w) v) (fun _ _ _ _ b => b) (fun _ _ _ _ b => b) (fun _ _ b => b) (fun _ _ _ _ b => b) (fun _ _ b => b) (fun _ _ _ _ _ _ b => b) (fun _ _ b => b) (fun _ _ b => b) (fun _ _ _ b => b) (fun _ _ _ _ _ _ _ b => b) (fun _ _ _ b => b) (fun _ _ b => b) (fun _ _ _ _ _ b => b) (fun _ _ b => b) (fun _ _ _ _ b => b) (fun _ _ _ _ b => b) (fun _ _ _ _ b => b) (fun _ _ _ _ b => b) () (fun _ _ _ _ => ()) x
theorem wnt_F : wnt = wntF := by
  funext x w a b
  cases x with
  | bool v => cases v <;> cases w <;> rfl
  | _ => rfl
def pkB (x : AV) : Option AV → Option AV → Option AV := AV.rec (motive_1 := fun _ => Option AV → Option AV → Option AV) (motive_2 := fun _ => Unit) (fun v a b => Bool.rec (motive := fun _ => Option AV) b a v) (fun _ _ _ _ => none) (fun _ _ _ _ => none) (fun _ _ => none) (fun _ _ _ _ => none) (fun _ _ => none) (fun _ _ _ _ _ _ => none) (fun _ _ => none) (fun _ _ => none) (fun _ _ _ => none) (fun _ _ _ _ _ _ _ => none) (fun _ _ _ => none) (fun _ _ => none) (fun _ _ _ _ _ => none) (fun _ _ => none) (fun _ _ _ _ => none) (fun _ _ _ _ => none) (fun _ _ _ _ => none) (fun _ _ _ _ => none) () (fun _ _ _ _ => ()) x
def pk3F (c a b : Option AV) : Option AV := Option.rec (motive := fun _ => Option AV) none (fun v => pkB v a b) c
theorem pk3_F : pk3 = pk3F := by
  funext c a b
  cases c with
  | none => rfl
  | some v => cases v with
    | bool v => cases v <;> rfl
    | _ => rfl
def notF (x : AV) : Option AV := AV.rec (motive_1 := fun _ => Option AV) (motive_2 := fun _ => Unit) (fun v => bF (Bool.not v)) (fun _ _ => none) (fun _ _ => none) (none) (fun _ _ => none) (none) (fun _ _ _ _ => none) (none) (none) (fun _ => none) (fun _ _ _ _ _ => none) (fun _ => none) (none) (fun _ _ _ => none) (none) (fun _ _ => none) (fun _ _ => none) (fun _ _ => none) (fun _ _ => none) () (fun _ _ _ _ => ()) x
theorem not_F : aun .not = notF := by
  funext x
  cases x with
  | bool v => cases v <;> rfl
  | int k z => cases z <;> rfl
  | _ => rfl
theorem FPs : apPp = apX.1 ∧ apZp = azX.1 ∧ cpyp = cpX.1 ∧ cvBSp = bsX.1 ∧ slSlp = slX.1 ∧ bldLp = blX.1 ∧ cvI .u8 = cv8F ∧ cvI .u64 = cv64F ∧ cvI .i64 = cviF ∧ bInt .rem = remF ∧ bInt .quo = quoF ∧ wnt = wntF ∧ pk3 = pk3F ∧ aun .not = notF ∧ stNp = stNF ∧ ldNp = ldNF ∧ fd1p = fd1F ∧ fdNp = fdNF ∧ bldSp = bldSF ∧ bldAp = bldAF ∧ noPan = npF ∧ chk = chkF ∧ lkM = lkMF ∧ upM = upMF ∧ dlM = dlMF ∧ cnd = cndF ∧ jn = jnF ∧ jb = jbF ∧ lnSl = lnSlF ∧ lnStr = lnStrF ∧ fAd = fAdF ∧ bInt .add = addF ∧ bInt .sub = subF ∧ bInt .lss = lssF ∧ bInt .leq = leqF ∧ bInt .gtr = gtrF ∧ bInt .geq = geqF ∧ bInt .eql = eqlF ∧ bInt .neq = neqF ∧ bStr .lss = lssS ∧ bStr .leq = leqS ∧ bStr .gtr = gtrS ∧ bStr .geq = geqS ∧ bStr .eql = eqlS ∧ bStr .neq = neqS ∧ ld1p = ld1F ∧ ixSl = ixF := ⟨apX.2.symm, azX.2.symm, cpX.2.symm, bsX.2.symm, slX.2.symm, blX.2.symm, cv8_F, cv64_F, cvi_F, rem_F, quo_F, wnt_F, pk3_F, not_F, stNp_F, ldNp_F, fd1p_F, fdNp_F, bldSp_F, bldAp_F, noPan_F, chk_F, lkM_F, upM_F, dlM_F, cnd_F, jn_F, jb_F, lnSl_F, lnStr_F, fAd_F, add_F, sub_F, lss_F, leq_F, gtr_F, geq_F, eql_F, neq_F, lss_S, leq_S, gtr_S, geq_S, eql_S, neq_S, ld1p_F, ixSl_F⟩
end Go.Eng
