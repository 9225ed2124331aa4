/- Engine, part 20: an operation hangs on its operands alone, and what reads memory on what it reads. No condition. -/
import Derived.Test.YtghipbccmngkpaaE18
namespace Go.Eng

section
variable {X : Cx} {env env' : T AV}

theorem opds_congr : ∀ (xs : List Operand), (∀ x ∈ xs, opd env x = opd env' x) → opds env xs = opds env' xs
  | [], _ => rfl
  | x :: xs, h => by
    simp only [opds]
    rw [h x (List.mem_cons_self ..), opds_congr xs (fun y hy => h y (List.mem_cons_of_mem _ hy))]
theorem parts_congr : ∀ (ps : List (Nat × Operand)), (∀ x ∈ ps.map (·.2), opd env x = opd env' x) → partsA env ps = partsA env' ps
  | [], _ => rfl
  | (i, x) :: ps, h => by
    simp only [partsA]
    rw [h x (by simp), parts_congr ps (fun y hy => h y (by simp at hy ⊢; exact .inr hy))]
theorem opt_congr (x : Option Operand) (h : ∀ y ∈ x.toArray.toList, opd env y = opd env' y) : optOf env x = optOf env' x := by
  cases x with
  | none => rfl
  | some x => simp only [optOf]; rw [h x (by simp)]

theorem aP_congr (o : Op) (h : ∀ x ∈ o.operands.toList, opd env x = opd env' x) : aP X env o = aP X env' o := by
  cases o <;> simp only [aP] <;> simp only [Op.operands] at h
  case move x => exact h x (by simp)
  case assign x => exact h x (by simp)
  case pick c a b => simp only [pPick]; rw [h c (by simp), h a (by simp), h b (by simp)]
  case build t ps => simp only [pBuild]; rw [parts_congr ps.toList (fun x hx => h x (by simpa using hx))]
  case nilCheck x => rw [h x (by simp)]
  case binOp op t x y t' => rw [h x (by simp), h y (by simp)]
  case unOp op t x => rw [h x (by simp)]
  case convert s d x => rw [h x (by simp)]
  case makeFunc fn first cap =>
    cases fn <;> simp only [aP]
    simp only [pFunc]
    rw [opds_congr first.toList (fun x hx => h x (by simp; exact .inl (by simpa using hx))), opds_congr cap.toList (fun x hx => h x (by simp; exact .inr (by simpa using hx)))]
  case fieldAddr s x f => rw [h x (by simp)]
  case field s x f => rw [h x (by simp)]
  case indexAddr t x i => rw [h x (by simp), h i (by simp)]
  case index t x i => rw [h x (by simp), h i (by simp)]
  case sliceToArrayPointer t x => rw [h x (by simp)]
  case extract x i => rw [h x (by simp)]
  case call c =>
    split <;> try rfl
    split <;> try rfl
    rename_i x hx
    split <;> try rfl
    rw [h x (by simp [Call.operands]; right; have : x ∈ c.args.toList := by rw [hx]; simp
                simpa using this)]

theorem aL_congr {H : AH} (o : Op) (h : ∀ x ∈ o.operands.toList, opd env x = opd env' x) : aL X env H o = aL X env' H o := by
  cases o <;> simp only [aL] <;> simp only [Op.operands] at h
  case load t a => rw [h a (by simp)]
  case slice t x lo hi mx =>
    simp only [lSlice]
    rw [h x (by simp), opt_congr lo (fun y hy => h y (by simp at hy ⊢; exact .inr (.inl hy))), opt_congr hi (fun y hy => h y (by simp at hy ⊢; exact .inr (.inr (.inl hy)))), opt_congr mx (fun y hy => h y (by simp at hy ⊢; exact .inr (.inr (.inr hy))))]
  case convert s d x => rw [h x (by simp)]
  case call c =>
    split <;> try rfl
    split <;> try rfl
    rename_i x hx
    split <;> try rfl
    rw [h x (by simp [Call.operands]; right; have : x ∈ c.args.toList := by rw [hx]; simp
                simpa using this)]

theorem aA_congr (o : Op) (h : ∀ x ∈ o.operands.toList, opd env x = opd env' x) : aA X env o = aA X env' o := by
  cases o <;> simp only [aA] <;> simp only [Op.operands] at h
  case box e x => rw [h x (by simp)]
  case buildSlice t len ps => simp only [aABuild]; rw [parts_congr ps.toList (fun x hx => h x (by simpa using hx))]
  case makeSlice t l c => rw [h l (by simp), h c (by simp)]
  case convert s d x => rw [h x (by simp)]

theorem aE_congr {H : AH} (o : Op) (h : ∀ x ∈ o.operands.toList, opd env x = opd env' x) : aE X env H o = aE X env' H o := by
  cases o <;> simp only [aE] <;> simp only [Op.operands] at h
  case store t a x => rw [h a (by simp), h x (by simp)]
  case call c =>
    split <;> try rfl
    rename_i b hb
    have ha : ∀ x ∈ c.args.toList, opd env x = opd env' x := fun x hx => h x (by simp [Call.operands]; right; simpa using hx)
    unfold eBuiltin
    split
    · split <;> try rfl
      rename_i s x hargs
      split <;> try rfl
      rw [ha s (by rw [hargs]; simp), ha x (by rw [hargs]; simp)]
    · split <;> try rfl
      rename_i s x hargs
      split <;> try rfl
      rw [ha s (by rw [hargs]; simp), ha x (by rw [hargs]; simp)]
    · rfl

theorem opF_congr {r : Fns} {H : AH} (o : Op) (h : ∀ x ∈ o.operands.toList, opd env x = opd env' x) : opF X r env H o = opF X r env' H o := by
  unfold opF
  split
  · rw [aP_congr o h]
  · rw [aL_congr o h]
  · rw [aA_congr o h]
  · rw [aE_congr o h]
  · cases o <;> try rfl
    case call c hcls =>
    simp only [opF.callO]
    simp only [Op.operands] at h
    split <;> try rfl
    rename_i f hf
    rw [h f (by simp [Call.operands, hf]), opds_congr c.args.toList (fun x hx => h x (by simp [Call.operands]; right; simpa using hx))]
end

/-- All that the first heap has, the second one has. -/
def Grows (H H2 : AH) : Prop := ∀ A o, H.h.get A = some o → H2.h.get A = some o

theorem aL_grows {X : Cx} {env : T AV} {H H2 : AH} (hg : Grows H H2) (o : Op) {v : AV} (h : aL X env H o = some v) : aL X env H2 o = some v := by
  have hload : ∀ t p v, aload X t p H = some v → aload X t p H2 = some v := by
    intro t p v h
    unfold aload at h ⊢
    split at h
    · rename_i A off
      split at h
      · rename_i l e sz g hA
        rw [hg _ _ hA]; exact h
      · simp at h
    · simp at h
  have hconv : ∀ s d x v, aconvL X s d x H = some v → aconvL X s d x H2 = some v := by
    intro s d x v h
    unfold aconvL at h ⊢
    split at h
    · split at h
      · split at h
        · split at h
          · exact h
          · split at h
            · rename_i l e' sz g hA
              rw [hg _ _ hA]; exact h
            · simp at h
          · simp at h
        · simp at h
      · simp at h
    · simp at h
  have hlen : ∀ t x v, alen X t x H = some v → alen X t x H2 = some v := by
    intro t x v h
    unfold alen at h ⊢
    split at h
    · exact h
    · exact h
    · exact h
    · exact h
    · exact h
    · exact h
    · split at h
      · rename_i es hA
        rw [hg _ _ hA]; exact h
      · simp at h
    · simp at h
  cases o <;> simp only [aL] at h ⊢ <;> try (simp at h; done)
  case load t a =>
    unfold b1 at h ⊢
    split at h
    · exact hload _ _ _ h
    · simp at h
  case slice t x lo hi mx =>
    unfold lSlice at h ⊢
    split at h
    · split at h
      · split at h
        · split at h
          · unfold aslice at h ⊢
            split at h
            · split at h
              · exact h
              · exact h
              · split at h
                · split at h
                  · rename_i l e' sz' g hA
                    rw [hg _ _ hA]; exact h
                  · simp at h
                · simp at h
              · exact h
              · exact h
              · exact h
              · simp at h
            · simp at h
          · simp at h
        · simp at h
      · simp at h
    · simp at h
  case convert s d x =>
    unfold b1 at h ⊢
    split at h
    · exact hconv _ _ _ _ h
    · simp at h
  case call c =>
    split at h
    · split at h
      · split at h
        · unfold b1 at h ⊢
          split at h
          · exact hlen _ _ _ h
          · simp at h
        · simp at h
      · simp at h
    · simp at h
end Go.Eng
