/- Engine, part 2: abstract heaps, and how they stand for the model's memory. No condition. -/
import Derived.Test.YtghipbccmngkpaaE1
import Derived.Laws.NewBlocks
import Derived.Below
namespace Go.Eng

structure ALoop where
  state : LoopState
  pending : Option Code
  fn : FuncId
  env : T AV
  n : Nat
  params : List Tmp
  assign : Code
  body : Code
  defers : Nat

inductive AObj where
  | cells (c : List AV) (elem : TypeId) (sz : Nat) (grow : Bool)
  | map (es : List (AV × AV))
  | loop (l : ALoop)
  | deferred
  | dead

structure AH where
  h : T AObj
  next : Nat

def undefA : AV := .tuple []
noncomputable def look (env : T AV) (t : Nat) : AV := match env.get t with | some v => v | none => undefA

structure EnvR (R : Ren) (env : T AV) (n : Nat) (tmps : Array Value) : Prop where
  size : tmps.size = n
  get : ∀ t, t < n → VR R (look env t) (tmps.getD t undef)
  out : ∀ t, n ≤ t → env.get t = none

/-- A map's entries, in whatever order. -/
def MR (R : Ren) (es : List (AV × AV)) (l : List MapEntry) : Prop :=
  ∃ m : List MapEntry, m.Perm l ∧ VRL R (es.map (·.1)) (m.map (·.key)) ∧ VRL R (es.map (·.2)) (m.map (·.val))

def ORel (R : Ren) (o : AObj) (d c : Nat) (x : Option Obj) : Prop :=
  match o with
  | .cells l e sz g => ∃ (arr : Array Value) (fz : Nat × Nat) (pre l' spare : List Value), x = some (.cells arr e fz) ∧ arr.toList = pre ++ (l' ++ spare) ∧ pre.length = d ∧ VRL R l l' ∧
      (g = false → spare = []) ∧ (g = true → l'.length + spare.length = c * sz) ∧ (∀ i, i < arr.size → ¬ (fz.1 ≤ i ∧ i < fz.2))
  | .map es => ∃ (arr : Array MapEntry) (clock : Nat), x = some (.map arr clock) ∧ MR R es arr.toList
  | .loop l => ∃ L : Loop, x = some (.loop L) ∧ L.state = l.state ∧ L.pending = l.pending ∧ L.fn = l.fn ∧ EnvR R l.env l.n L.tmps ∧ L.params.toList = l.params ∧ L.assign = l.assign ∧ L.body = l.body ∧ ∃ d0 c0, R l.defers L.defers d0 c0
  | .deferred => x = some (.deferred (some []))
  | .dead => True

def Live (H : AH) (A : Nat) : Prop := ∃ o, H.h.get A = some o ∧ (match o with | .dead => False | _ => True)

structure Rel (R : Ren) (H : AH) (w : World) : Prop where
  fn : ∀ A b d c b' d' c', R A b d c → R A b' d' c' → b = b' ∧ d = d' ∧ c = c'
  inj : ∀ A A' b d c d' c', R A b d c → R A' b d' c' → Live H A → Live H A' → A = A'
  obj : ∀ A b d c o, R A b d c → H.h.get A = some o → ORel R o d c w.heap[b]?
  lt : ∀ A b d c, R A b d c → b < w.heap.size ∧ A < H.next

structure Ext (R : Ren) (H : AH) (w : World) (R' : Ren) (H' : AH) (w' : World) : Prop where
  sub : Sub R R'
  new : ∀ A b d c, R' A b d c → R A b d c ∨ w.heap.size ≤ b ∨ ∃ A0 d0 c0, R A0 b d0 c0
  newA : ∀ A b d c, R' A b d c → R A b d c ∨ H.next ≤ A
  next : H.next ≤ H'.next
  keepA : ∀ A, A < H.next → (∀ b d c, ¬ R A b d c) → H'.h.get A = H.h.get A
  os : w'.os = w.os
  tape : w'.tape = w.tape
  output : w'.output = w.output
  size : w.heap.size ≤ w'.heap.size
  keep : ∀ b, b < w.heap.size → (∀ A d c, ¬ R A b d c) → w'.heap[b]? = w.heap[b]?

theorem Ext.refl (R : Ren) (H : AH) (w : World) : Ext R H w R H w :=
  ⟨Sub.refl R, fun _ _ _ _ h => .inl h, fun _ _ _ _ h => .inl h, Nat.le_refl _, fun _ _ _ => rfl, rfl, rfl, rfl, Nat.le_refl _, fun _ _ _ => rfl⟩

theorem Ext.trans {R R' R'' : Ren} {H H' H'' : AH} {w w' w'' : World} (h : Ext R H w R' H' w') (k : Ext R' H' w' R'' H'' w'') : Ext R H w R'' H'' w'' where
  sub := h.sub.trans k.sub
  new A b d c x := by
    rcases k.new A b d c x with y | y | ⟨A0, d0, c0, y⟩
    · exact h.new _ _ _ _ y
    · exact .inr (.inl (Nat.le_trans h.size y))
    · rcases h.new _ _ _ _ y with z | z | z
      · exact .inr (.inr ⟨_, _, _, z⟩)
      · exact .inr (.inl z)
      · exact .inr (.inr z)
  newA A b d c x := by
    rcases k.newA A b d c x with y | y
    · exact h.newA _ _ _ _ y
    · exact .inr (Nat.le_trans h.next y)
  next := Nat.le_trans h.next k.next
  keepA A hA hR := by
    rw [k.keepA A (Nat.lt_of_lt_of_le hA h.next) (fun b d c x => ?_)]
    · exact h.keepA A hA hR
    · rcases h.newA _ _ _ _ x with y | y
      · exact hR _ _ _ y
      · omega
  os := k.os.trans h.os
  tape := k.tape.trans h.tape
  output := k.output.trans h.output
  size := Nat.le_trans h.size k.size
  keep b hb hR := by
    rw [k.keep b (Nat.lt_of_lt_of_le hb h.size) (fun A d c x => ?_)]
    · exact h.keep b hb hR
    · rcases h.new _ _ _ _ x with y | y | ⟨A0, d0, c0, y⟩
      · exact hR _ _ _ y
      · omega
      · exact hR _ _ _ y

/-- A draw. -/
theorem Ext.drew (R : Ren) (H : AH) (w : World) (k : Nat) : Ext R H w R H { w with drawn := k } :=
  ⟨Sub.refl R, fun _ _ _ _ h => .inl h, fun _ _ _ _ h => .inl h, Nat.le_refl _, fun _ _ _ => rfl, rfl, rfl, rfl, Nat.le_refl _, fun _ _ _ => rfl⟩
theorem Rel.drew {R : Ren} {H : AH} {w : World} (h : Rel R H w) (k : Nat) : Rel R H { w with drawn := k } := ⟨h.fn, h.inj, h.obj, h.lt⟩

theorem EnvR.mono {R R' : Ren} (h : Sub R R') {env : T AV} {n : Nat} {tmps : Array Value} (k : EnvR R env n tmps) : EnvR R' env n tmps :=
  ⟨k.size, fun t ht => VR.mono h _ _ (k.get t ht), k.out⟩

theorem MR.mono {R R' : Ren} (h : Sub R R') {es : List (AV × AV)} {l : List MapEntry} (k : MR R es l) : MR R' es l := by
  obtain ⟨m, hp, h1, h2⟩ := k
  exact ⟨m, hp, VRL.mono h _ _ h1, VRL.mono h _ _ h2⟩

theorem ORel.mono {R R' : Ren} (h : Sub R R') {o : AObj} {d c : Nat} {x : Option Obj} (k : ORel R o d c x) : ORel R' o d c x := by
  cases o with
  | cells l e sz g =>
    obtain ⟨arr, fz, pre, l', spare, h1, h2, h3, h4, h5⟩ := k
    exact ⟨arr, fz, pre, l', spare, h1, h2, h3, VRL.mono h _ _ h4, h5⟩
  | map es => obtain ⟨arr, clock, h1, h2⟩ := k; exact ⟨arr, clock, h1, h2.mono h⟩
  | loop l =>
    obtain ⟨L, h1, h2, h3, h4, h5, h6, h7, h8, d0, c0, h9⟩ := k
    exact ⟨L, h1, h2, h3, h4, h5.mono h, h6, h7, h8, d0, c0, h _ _ _ _ h9⟩
  | deferred => exact k
  | dead => trivial

/-- The empty heap. -/
theorem Rel.empty (w : World) : Rel (fun _ _ _ _ => False) ⟨.leaf, 0⟩ w :=
  ⟨fun _ _ _ _ _ _ _ h => h.elim, fun _ _ _ _ _ _ _ h => h.elim, fun _ _ _ _ _ h => h.elim, fun _ _ _ _ h => h.elim⟩

/-- A new block of the engine's that stands nowhere yet. -/
theorem Rel.fresh {R : Ren} {H : AH} {w : World} (h : Rel R H w) {o : AObj} {t' : T AObj} (hs : T.set 40 H.h H.next o = some t') : Rel R ⟨t', H.next + 1⟩ w := by
  have hg := T.get_set _ _ _ _ _ hs
  have hne : ∀ A b d c, R A b d c → A ≠ H.next := fun A b d c r => by have := (h.lt _ _ _ _ r).2; omega
  have hl : ∀ A b d c, R A b d c → Live ⟨t', H.next + 1⟩ A → Live H A := fun A b d c r ⟨o, ho, hd⟩ => by
    simp only [hg, if_neg (hne _ _ _ _ r)] at ho
    exact ⟨o, ho, hd⟩
  exact ⟨h.fn, fun A A' b d c d' c' r r' l l' => h.inj A A' b d c d' c' r r' (hl _ _ _ _ r l) (hl _ _ _ _ r' l'),
    fun A b d c o r ho => h.obj A b d c o r (by simpa only [hg, if_neg (hne _ _ _ _ r)] using ho),
    fun A b d c r => ⟨(h.lt _ _ _ _ r).1, Nat.lt_succ_of_lt (h.lt _ _ _ _ r).2⟩⟩

/-- R and one place more. -/
def Ren.add (R : Ren) (A0 b0 d0 c0 : Nat) : Ren := fun A b d c => R A b d c ∨ (A = A0 ∧ b = b0 ∧ d = d0 ∧ c = c0)
theorem Ren.sub_add (R : Ren) (A b d c : Nat) : Sub R (R.add A b d c) := fun _ _ _ _ h => .inl h
theorem Ren.add_self (R : Ren) (A b d c : Nat) : R.add A b d c A b d c := .inr ⟨rfl, rfl, rfl, rfl⟩

theorem heap_alloc_old (w : World) (o : Obj) (k : Nat) (h : k < w.heap.size) : (w.alloc o).heap[k]? = w.heap[k]? := RowKit.Below.heap_alloc w o k h
theorem heap_alloc_same (w : World) (o : Obj) : (w.alloc o).heap[w.heap.size]? = some o := heap_alloc_new w o
theorem heap_alloc_size (w : World) (o : Obj) : (w.alloc o).heap.size = w.heap.size + 1 := by simp

/-- A block of the engine's that stood nowhere gets its place: a new block of the model's. -/
theorem Rel.add {R : Ren} {H : AH} {w : World} (h : Rel R H w) {A c : Nat} {o : AObj} {x : Obj} (hA : H.h.get A = some o) (hlt : A < H.next) (hno : ∀ b d c, ¬ R A b d c)
    (ho : ORel (R.add A w.heap.size 0 c) o 0 c (some x)) : Rel (R.add A w.heap.size 0 c) H (w.alloc x) := by
  refine ⟨?_, ?_, ?_, ?_⟩
  · rintro A1 b d c1 b' d' c' (r | ⟨rfl, rfl, rfl, rfl⟩) (r' | ⟨e1, rfl, rfl, rfl⟩)
    · exact h.fn _ _ _ _ _ _ _ r r'
    · subst e1; exact absurd r (hno _ _ _)
    · exact absurd r' (hno _ _ _)
    · exact ⟨rfl, rfl, rfl⟩
  · rintro A1 A2 b d c1 d' c' (r | ⟨rfl, rfl, rfl, rfl⟩) (r' | ⟨rfl, e2, rfl, rfl⟩) l l'
    · exact h.inj _ _ _ _ _ _ _ r r' l l'
    · have := (h.lt _ _ _ _ r).1; omega
    · have := (h.lt _ _ _ _ r').1; omega
    · rfl
  · rintro A1 b d c1 o1 (r | ⟨rfl, rfl, rfl, rfl⟩) ho1
    · rw [heap_alloc_old _ _ _ (h.lt _ _ _ _ r).1]
      exact (h.obj _ _ _ _ _ r ho1).mono (R.sub_add _ _ _ _)
    · rw [heap_alloc_same]
      rw [hA] at ho1; injection ho1 with ho1; subst ho1
      exact ho
  · rintro A1 b d c1 (r | ⟨rfl, rfl, rfl, rfl⟩)
    · rw [heap_alloc_size]; exact ⟨Nat.lt_succ_of_lt (h.lt _ _ _ _ r).1, (h.lt _ _ _ _ r).2⟩
    · rw [heap_alloc_size]; exact ⟨Nat.lt_succ_self _, hlt⟩

/-- A new block on both sides. -/
theorem Ext.add {R : Ren} {H : AH} {w : World} {c : Nat} {x : Obj} {o : AObj} {t' : T AObj} (hs : T.set 40 H.h H.next o = some t') : Ext R H w (R.add H.next w.heap.size 0 c) ⟨t', H.next + 1⟩ (w.alloc x) where
  sub := R.sub_add _ _ _ _
  new A1 b d c1 := by
    rintro (r | ⟨rfl, rfl, rfl, rfl⟩)
    · exact .inl r
    · exact .inr (.inl (Nat.le_refl _))
  newA A1 b d c1 := by
    rintro (r | ⟨rfl, rfl, rfl, rfl⟩)
    · exact .inl r
    · exact .inr (Nat.le_refl _)
  next := Nat.le_succ _
  keepA A hA _ := by
    show t'.get A = _
    rw [T.get_set _ _ _ _ _ hs, if_neg (by omega)]
  os := rfl
  tape := rfl
  output := rfl
  size := by rw [heap_alloc_size]; omega
  keep b hb _ := heap_alloc_old _ _ _ hb

/-- A new block on both sides. -/
theorem Rel.new {R : Ren} {H : AH} {w : World} (h : Rel R H w) {c : Nat} {x : Obj} {o : AObj} {t' : T AObj} (hs : T.set 40 H.h H.next o = some t') (ho : ORel (R.add H.next w.heap.size 0 c) o 0 c (some x)) :
    Rel (R.add H.next w.heap.size 0 c) ⟨t', H.next + 1⟩ (w.alloc x) := by
  refine (h.fresh hs).add (o := o) ?_ (Nat.lt_succ_self _) (fun b d c r => ?_) ho
  · show t'.get _ = _
    rw [T.get_set _ _ _ _ _ hs, if_pos rfl]
  · have := (h.lt _ _ _ _ r).2; omega

/-- A block of the model's that is written over. -/
def wput (w : World) (b : Nat) (x : Obj) : World := { w with heap := w.heap.setIfInBounds b x }
theorem wput_same (w : World) (b : Nat) (x : Obj) (h : b < w.heap.size) : (wput w b x).heap[b]? = some x := by
  simp [wput, h]
theorem wput_other (w : World) (b k : Nat) (x : Obj) (h : k ≠ b) : (wput w b x).heap[k]? = w.heap[k]? := by
  simp [wput, Array.getElem?_setIfInBounds, Ne.symm h]
theorem wput_size (w : World) (b : Nat) (x : Obj) : (wput w b x).heap.size = w.heap.size := by simp [wput]

/-- A block of the engine's turns, and the model's with it. -/
theorem Rel.put {R : Ren} {H : AH} {w : World} (h : Rel R H w) {A b d c : Nat} {o' : AObj} {x : Obj} {t' : T AObj} (hR : R A b d c) (hl : Live H A) (hs : T.set 40 H.h A o' = some t')
    (ho : ORel R o' d c (some x)) : Rel R ⟨t', H.next⟩ (wput w b x) := by
  have hg := T.get_set _ _ _ _ _ hs
  have hlive : ∀ A', Live ⟨t', H.next⟩ A' → A' ≠ A → Live H A' := fun A' ⟨o, ho, hd⟩ hne => by
    simp only [hg, if_neg hne] at ho
    exact ⟨o, ho, hd⟩
  refine ⟨h.fn, ?_, ?_, ?_⟩
  · intro A1 A2 b1 d1 c1 d2 c2 r r' l l'
    by_cases e1 : A1 = A
    · by_cases e2 : A2 = A
      · rw [e1, e2]
      · subst e1; exact h.inj _ _ _ _ _ _ _ r r' hl (hlive _ l' e2)
    · by_cases e2 : A2 = A
      · subst e2; exact h.inj _ _ _ _ _ _ _ r r' (hlive _ l e1) hl
      · exact h.inj _ _ _ _ _ _ _ r r' (hlive _ l e1) (hlive _ l' e2)
  · intro A1 b1 d1 c1 o1 r ho1
    simp only [hg] at ho1
    by_cases e1 : A1 = A
    · subst e1
      obtain ⟨rfl, rfl, rfl⟩ := h.fn _ _ _ _ _ _ _ r hR
      rw [if_pos rfl] at ho1; injection ho1 with ho1; subst ho1
      rw [wput_same _ _ _ (h.lt _ _ _ _ r).1]
      exact ho
    · rw [if_neg e1] at ho1
      by_cases eb : b1 = b
      · subst eb
        have hd1 : ¬ Live H A1 := fun l1 => e1 (h.inj _ _ _ _ _ _ _ r hR l1 hl)
        cases o1 with
        | dead => trivial
        | _ => exact absurd ⟨_, ho1, trivial⟩ hd1
      · rw [wput_other _ _ _ _ eb]
        exact h.obj _ _ _ _ _ r ho1
  · intro A1 b1 d1 c1 r
    rw [wput_size]; exact h.lt _ _ _ _ r

theorem Ext.put {R : Ren} {H : AH} {w : World} {A b d c : Nat} {x : Obj} {o' : AObj} {t' : T AObj} (hR : R A b d c) (hs : T.set 40 H.h A o' = some t') : Ext R H w R ⟨t', H.next⟩ (wput w b x) where
  sub := Sub.refl R
  new _ _ _ _ h := .inl h
  newA _ _ _ _ h := .inl h
  next := Nat.le_refl _
  keepA A1 _ hk := by
    show t'.get A1 = _
    rw [T.get_set _ _ _ _ _ hs, if_neg (fun e => by subst e; exact hk _ _ _ hR)]
  os := rfl
  tape := rfl
  output := rfl
  size := by rw [wput_size]; omega
  keep k _ hk := wput_other _ _ _ _ (fun e => by subst e; exact hk _ _ _ hR)

end Go.Eng
