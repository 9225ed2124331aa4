/- Engine, part 21: the orders in which a region's operations come up. No condition. -/
import Derived.Test.YtghipbccmngkpaaE20
import Derived.Orders
namespace Go.Eng

theorem nodup_le : ∀ (n : Nat) (l : List Nat), l.Nodup → (∀ x ∈ l, x < n) → l.length ≤ n
  | 0, l, _, h => by
    cases l with
    | nil => simp
    | cons x l => exact absurd (h x (List.mem_cons_self ..)) (by omega)
  | n + 1, l, hn, h => by
    have h1 := nodup_le n (l.erase n) (hn.erase n) (fun x hx => by
      have := (List.Nodup.mem_erase_iff hn).1 hx
      have := h x this.2
      omega)
    have h2 : l.length ≤ (l.erase n).length + 1 := by rw [List.length_erase]; split <;> omega
    omega
theorem nodup_all {n : Nat} {l : List Nat} (hn : l.Nodup) (h : ∀ x ∈ l, x < n) (hl : l.length = n) : ∀ i, i < n → i ∈ l := by
  intro i hi
  refine Classical.byContradiction fun hc => ?_
  have := nodup_le n (i :: l) (List.nodup_cons.2 ⟨hc, hn⟩) (fun x hx => by
    rcases List.mem_cons.1 hx with rfl | hx
    · exact hi
    · exact h x hx)
  simp at this; omega

/-- A row of operations, each behind all that it must wait for. -/
def Valid (md : Region.Mode) (ops : Array Oper) : List Nat → List Nat → Prop
  | _, [] => True
  | done, j :: rest => j ∉ done ∧ j < ops.size ∧ (∀ o, ops[j]? = some o → ∀ e ∈ o.after.toList, Region.binds md e = true → e.on ∈ done) ∧ Valid md ops (j :: done) rest

def Listed (ops : Array Oper) (listed : Array Bool) (done : List Nat) : Prop := listed.size = ops.size ∧ ∀ i, listed.getD i false = true ↔ i ∈ done ∧ i < ops.size

theorem ready_mem {md : Region.Mode} {ops : Array Oper} {listed : Array Bool} {done : List Nat} (hl : Listed ops listed done) {j : Nat} : j ∈ Region.ready md ops listed ↔
    j < ops.size ∧ j ∉ done ∧ ∀ o, ops[j]? = some o → ∀ e ∈ o.after.toList, Region.binds md e = true → e.on ∈ done ∧ e.on < ops.size := by
  have hget : ∀ i, i < ops.size → listed.getD i true = listed.getD i false := by
    intro i hi
    rw [Array.getD_eq_getD_getElem?, Array.getD_eq_getD_getElem?, Array.getElem?_eq_getElem (by rw [hl.1]; exact hi)]; rfl
  unfold Region.ready
  rw [List.mem_filter, List.mem_range]
  constructor
  · rintro ⟨h1, h2⟩
    rw [hget j h1] at h2
    simp only [Bool.and_eq_true, Bool.not_eq_true'] at h2
    refine ⟨h1, fun hc => ?_, fun o ho e he hb => ?_⟩
    · have := (hl.2 j).2 ⟨hc, h1⟩
      rw [this] at h2; simp at h2
    · rw [ho] at h2
      simp only [Option.map_some, Option.getD_some, Array.all_eq_true_iff_forall_mem] at h2
      have := h2.2 e (by simpa using he)
      rw [hb] at this
      simp only [Bool.not_true, Bool.false_or] at this
      exact (hl.2 _).1 this
  · rintro ⟨h1, h2, h3⟩
    refine ⟨h1, ?_⟩
    rw [hget j h1]
    simp only [Bool.and_eq_true, Bool.not_eq_true']
    constructor
    · cases hc : listed.getD j false with
      | false => rfl
      | true => exact absurd ((hl.2 j).1 hc).1 h2
    · have ho : ops[j]? = some ops[j] := Array.getElem?_eq_getElem h1
      rw [ho]
      simp only [Option.map_some, Option.getD_some, Array.all_eq_true_iff_forall_mem]
      intro e he
      cases hb : Region.binds md e with
      | false => rfl
      | true =>
        simp only [Bool.not_true, Bool.false_or]
        exact (hl.2 _).2 (h3 _ ho e (by simpa using he) hb)

theorem listed_set {ops : Array Oper} {listed : Array Bool} {done : List Nat} (hl : Listed ops listed done) {j : Nat} (hj : j < ops.size) : Listed ops (listed.setIfInBounds j true) (j :: done) := by
  refine ⟨by simp [hl.1], fun i => ?_⟩
  rw [Array.getD_eq_getD_getElem?, Array.getElem?_setIfInBounds]
  by_cases e : j = i
  · subst e
    rw [if_pos rfl, if_pos (by rw [hl.1]; exact hj)]
    simp [hj]
  · rw [if_neg e, ← Array.getD_eq_getD_getElem?, hl.2 i]
    simp [Ne.symm e]

theorem go_valid {md : Region.Mode} {ops : Array Oper} : ∀ (fuel t : Nat) (listed : Array Bool) (done : List Nat), Listed ops listed done → Valid md ops done (Region.linearise.go md ops fuel t listed [])
  | 0, _, _, _, _ => by simp [Region.linearise.go, Valid]
  | fuel + 1, t, listed, done, hl => by
    have hgo : Region.linearise.go md ops (fuel + 1) t listed [] = match (Region.ready md ops listed)[t % (Region.ready md ops listed).length]? with
      | some i => Region.linearise.go md ops fuel (t / (Region.ready md ops listed).length) (listed.setIfInBounds i true) [i]
      | none => [] := rfl
    rw [hgo]
    split
    · rename_i i hi
      have hm := (ready_mem hl).1 (List.mem_of_getElem? hi)
      rw [linearise_go_acc, List.reverse_singleton, List.singleton_append]
      exact ⟨hm.2.1, hm.1, fun o ho e he hb => (hm.2.2 o ho e he hb).1, go_valid fuel _ _ _ (listed_set hl hm.1)⟩
    · trivial

theorem valid_nodup {md : Region.Mode} {ops : Array Oper} : ∀ (l done : List Nat), Valid md ops done l → l.Nodup ∧ (∀ x ∈ l, x < ops.size ∧ x ∉ done)
  | [], _, _ => by simp
  | j :: l, done, h => by
    obtain ⟨h1, h2, _, h4⟩ := h
    obtain ⟨h5, h6⟩ := valid_nodup l _ h4
    refine ⟨List.nodup_cons.2 ⟨fun hc => (h6 j hc).2 (List.mem_cons_self ..), h5⟩, fun x hx => ?_⟩
    rcases List.mem_cons.1 hx with rfl | hx
    · exact ⟨h2, h1⟩
    · exact ⟨(h6 x hx).1, fun hc => (h6 x hx).2 (List.mem_cons_of_mem _ hc)⟩

/-- Where one order is whole, something may come up as long as not all has. -/
theorem ready_some {md : Region.Mode} {ops : Array Oper} {listed : Array Bool} {done : List Nat} (hl : Listed ops listed done) (hds : ∀ x ∈ done, x < ops.size) : ∀ (L before : List Nat), Valid md ops before L → (∀ x ∈ before, x ∈ done) → (∃ x ∈ L, x ∉ done) → Region.ready md ops listed ≠ []
  | [], _, _, _, ⟨x, hx, _⟩ => by simp at hx
  | j :: L, before, hv, hb, hex => by
    obtain ⟨h1, h2, h3, h4⟩ := hv
    by_cases hj : j ∈ done
    · refine ready_some hl hds L (j :: before) h4 (fun x hx => ?_) ?_
      · rcases List.mem_cons.1 hx with rfl | hx
        · exact hj
        · exact hb x hx
      · obtain ⟨x, hx, hn⟩ := hex
        rcases List.mem_cons.1 hx with rfl | hx
        · exact absurd hj hn
        · exact ⟨x, hx, hn⟩
    · intro hc
      have hmem : j ∈ Region.ready md ops listed := by
        refine (ready_mem hl).2 ⟨h2, hj, fun o ho e he hbd => ?_⟩
        have hd := hb _ (h3 o ho e he hbd)
        exact ⟨hd, hds _ hd⟩
      rw [hc] at hmem; simp at hmem

theorem nodup_subset_len : ∀ (l m : List Nat), l.Nodup → (∀ x ∈ l, x ∈ m) → l.length ≤ m.length
  | [], _, _, _ => by simp
  | x :: l, m, hn, h => by
    obtain ⟨h1, h2⟩ := List.nodup_cons.1 hn
    have hx := h x (List.mem_cons_self ..)
    have := nodup_subset_len l (m.erase x) h2 (fun y hy => (List.mem_erase_of_ne (fun e => h1 (by rw [← e]; exact hy))).2 (h y (List.mem_cons_of_mem _ hy)))
    rw [List.length_erase_of_mem hx] at this
    have hp := List.length_pos_of_mem hx
    simp; omega

theorem go_len {md : Region.Mode} {ops : Array Oper} {L : List Nat} (hL : Valid md ops [] L) (hLl : L.length = ops.size) : ∀ (fuel t : Nat) (listed : Array Bool) (done : List Nat), Listed ops listed done → (∀ x ∈ done, x < ops.size) → done.length + fuel = ops.size →
    (Region.linearise.go md ops fuel t listed []).length = fuel
  | 0, _, _, _, _, _, _ => by simp [Region.linearise.go]
  | fuel + 1, t, listed, done, hl, hds, hlen => by
    have hgo : Region.linearise.go md ops (fuel + 1) t listed [] = match (Region.ready md ops listed)[t % (Region.ready md ops listed).length]? with
      | some i => Region.linearise.go md ops fuel (t / (Region.ready md ops listed).length) (listed.setIfInBounds i true) [i]
      | none => [] := rfl
    have hne : Region.ready md ops listed ≠ [] := by
      refine ready_some hl hds L [] hL (by simp) (Classical.byContradiction fun hc => ?_)
      have := nodup_subset_len L done (valid_nodup L [] hL).1 (fun x hx => Classical.byContradiction fun hn => hc ⟨x, hx, hn⟩)
      omega
    have hlt : t % (Region.ready md ops listed).length < (Region.ready md ops listed).length := Nat.mod_lt _ (List.length_pos_iff.2 hne)
    rw [hgo, List.getElem?_eq_getElem hlt]
    simp only
    have hm := (ready_mem hl).1 (List.getElem_mem hlt)
    rw [linearise_go_acc, List.reverse_singleton, List.singleton_append, List.length_cons, go_len hL hLl fuel _ _ _ (listed_set hl hm.1) (fun x hx => by
      rcases List.mem_cons.1 hx with rfl | hx
      · exact hm.1
      · exact hds x hx) (by simp; omega)]

theorem listed_none (ops : Array Oper) : Listed ops (Array.replicate ops.size false) [] :=
  ⟨by simp, fun i => by
    rw [Array.getD_eq_getD_getElem?, Array.getElem?_replicate]
    by_cases h : i < ops.size <;> simp [h]⟩

theorem valid_any {md : Region.Mode} {ops : Array Oper} : ∀ (l done : List Nat), Valid md ops done l → Valid .any ops done l
  | [], _, _ => trivial
  | j :: l, done, ⟨h1, h2, h3, h4⟩ => ⟨h1, h2, fun o ho e he hb => h3 o ho e he (by
      revert hb
      cases hg : e.ground <;> simp [Region.binds, hg]), valid_any l _ h4⟩

theorem linearise_ok {md : Region.Mode} {ops : Array Oper} (h : (Region.linearise md ops 0).length = ops.size) (t : Nat) : Valid .any ops [] (Region.linearise md ops t) ∧ ∀ i, i < ops.size → i ∈ Region.linearise md ops t := by
  have hv0 : Valid md ops [] (Region.linearise md ops 0) := go_valid _ _ _ _ (listed_none ops)
  have hv : Valid md ops [] (Region.linearise md ops t) := go_valid _ _ _ _ (listed_none ops)
  have hl : (Region.linearise md ops t).length = ops.size := go_len hv0 h _ _ _ _ (listed_none ops) (by simp) (by simp)
  obtain ⟨hn, hx⟩ := valid_nodup _ _ hv
  exact ⟨valid_any _ _ hv, nodup_all hn (fun x hx' => (hx x hx').1) hl⟩

theorem schedule_ok {ops : Array Oper} (h : modesOk ops = true) (mixed : Bool) (t : Nat) : Valid .any ops [] (Region.schedule mixed ops t) ∧ ∀ i, i < ops.size → i ∈ Region.schedule mixed ops t := by
  simp only [modesOk, Bool.and_eq_true, Nat.beq_eq] at h
  unfold Region.schedule
  split
  · exact linearise_ok h.1.1 t
  · split
    · exact linearise_ok h.1.2 _
    · exact linearise_ok h.2 _

/-- The masks: what stands in one comes up first. -/
theorem maskOf_bit (acc : List Nat) : ∀ (es : List Edge) (s i : Nat), (es.foldl (fun s e => bif Region.binds .any e then s ||| 2 ^ e.on ||| acc.getD e.on 0 else s) s).testBit i = true → s.testBit i = true ∨ ∃ e ∈ es, Region.binds .any e = true ∧ (e.on = i ∨ (acc.getD e.on 0).testBit i = true)
  | [], s, i, h => .inl h
  | e :: es, s, i, h => by
    simp only [List.foldl_cons] at h
    rcases maskOf_bit acc es _ i h with h1 | ⟨e', he', h1⟩
    · cases hb : Region.binds .any e with
      | false => rw [hb] at h1; exact .inl h1
      | true =>
        rw [hb] at h1
        simp only [cond_true, Nat.testBit_or, Bool.or_eq_true, Nat.testBit_two_pow, decide_eq_true_eq] at h1
        rcases h1 with (h1 | h1) | h1
        · exact .inl h1
        · exact .inr ⟨e, List.mem_cons_self .., hb, .inl h1⟩
        · exact .inr ⟨e, List.mem_cons_self .., hb, .inr h1⟩
    · exact .inr ⟨e', List.mem_cons_of_mem _ he', h1⟩

theorem befores_get : ∀ (l : List Oper) (acc : List Nat) (j : Nat), j < acc.length → (befores l acc).getD j 0 = acc.getD j 0
  | [], acc, j, _ => rfl
  | o :: l, acc, j, h => by
    rw [befores, befores_get l _ j (by simp; omega)]
    simp [List.getD_eq_getElem?_getD, List.getElem?_append_left h]
theorem befores_at : ∀ (l : List Oper) (acc : List Nat) (j : Nat) (o : Oper), l[j]? = some o → ∃ pre : List Nat, (∀ k, k < acc.length + j → pre.getD k 0 = (befores l acc).getD k 0) ∧ pre.length = acc.length + j ∧ (befores l acc).getD (acc.length + j) 0 = maskOf pre o.after.toList
  | [], _, _, _, h => by simp at h
  | p :: l, acc, 0, o, h => by
    simp at h; subst h
    refine ⟨acc, fun k hk => ?_, rfl, ?_⟩
    · rw [befores, befores_get l _ k (by simp; omega)]
      simp [List.getD_eq_getElem?_getD, List.getElem?_append_left (show k < acc.length by omega)]
    · rw [befores, befores_get l _ _ (by simp)]
      simp [List.getD_eq_getElem?_getD]
  | p :: l, acc, j + 1, o, h => by
    simp at h
    obtain ⟨pre, h1, h2, h3⟩ := befores_at l (acc ++ [maskOf acc p.after.toList]) j o h
    simp only [List.length_append, List.length_singleton] at h1 h2 h3
    refine ⟨pre, fun k hk => ?_, by omega, ?_⟩
    · rw [befores]; exact h1 k (by omega)
    · rw [befores, show acc.length + (j + 1) = acc.length + 1 + j from by omega]; exact h3

/-- Whatever stands in an operation's mask has come up ahead of it. -/
theorem mask_before {ops : Array Oper} {done : List Nat} (hclosed : ∀ j ∈ done, ∀ o, ops[j]? = some o → ∀ e ∈ o.after.toList, Region.binds .any e = true → e.on ∈ done) :
    ∀ (n j : Nat), j ≤ n → (∀ o, ops[j]? = some o → ∀ e ∈ o.after.toList, Region.binds .any e = true → e.on ∈ done) → ∀ i, ((befores ops.toList []).getD j 0).testBit i = true → i ∈ done
  | n, j, hjn, hj, i, h => by
    cases ho : ops.toList[j]? with
    | none =>
      have hl : ∀ (l : List Oper) (acc : List Nat), (befores l acc).length = acc.length + l.length := by
        intro l
        induction l with
        | nil => intro acc; simp [befores]
        | cons o l ih => intro acc; rw [befores, ih]; simp; omega
      have : (befores ops.toList [])[j]? = none := by
        rw [List.getElem?_eq_none_iff] at ho ⊢
        rw [hl]; simpa using ho
      simp [List.getD_eq_getElem?_getD, this] at h
    | some o =>
      obtain ⟨pre, h1, h2, h3⟩ := befores_at ops.toList [] j o ho
      simp only [List.length_nil, Nat.zero_add] at h1 h2 h3
      rw [h3] at h
      rcases maskOf_bit pre _ _ _ h with h4 | ⟨e, he, hb, h4⟩
      · simp at h4
      · have ho' : ops[j]? = some o := by simpa using ho
        have hin := hj o ho' e he hb
        rcases h4 with rfl | h4
        · exact hin
        · by_cases hlt : e.on < j
          · rw [h1 _ hlt] at h4
            cases n with
            | zero => omega
            | succ n => exact mask_before hclosed n e.on (by omega) (fun o' ho'' => hclosed _ hin o' ho'') i h4
          · have : pre[e.on]? = none := List.getElem?_eq_none (by omega)
            simp [List.getD_eq_getElem?_getD, this] at h4
end Go.Eng
