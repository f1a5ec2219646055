/- The heap calculus, part C: the other operations. -/
import Derived.Test.YtbchcnmghcmaoaaHcB
set_option linter.unusedSimpArgs false
set_option linter.unusedVariables false
namespace Go.Hc
open Go

section
variable {P : Program} {w : World}

theorem faV_run {s : TypeId} {fs : Array Field} {f : Nat} {fd : Field} {i : TypeInfo} {x v : Value} (hd : P.underlying s = some (.struct fs)) (hf : fs[f]? = some fd)
    (hi : P.info? fd.type = some i) (h0 : i.size ≠ 0) (h : faV fd.offset x = some v) : (Instr.fieldAt s x f).run P w = .ok v w := by
  unfold faV at h
  split at h
  · cases h
    simp only [Instr.fieldAt, Sem.run_bind, under_run hd, Result.andThen, hf, Instr.sureAddr, Sem.run_pure, fieldPlace, size_run hi, h0, if_false, addr_add]
  · cases h
theorem exV_run {i : Nat} {x v : Value} (h : exV i x = some v) : (Instr.extract x i).run P w = .ok v w := by
  unfold exV at h
  split at h
  · simp only [Instr.extract, h, Sem.run_pure]
  · cases h
theorem unV_run {op : UnOp} {x v : Value} (h : unV op x = some v) : (Op.unary op x).run P w = .ok v w := by
  unfold unV at h
  split at h
  · cases h; simp only [Op.unary, Op.intArith, Sem.run_pure]
  · cases h; simp only [Op.unary, Sem.run_pure]
  · cases h
theorem ixSV_run {t e : TypeId} {i : TypeInfo} {x ix v : Value} (hd : P.underlying t = some (.slice e)) (hi : P.info? e = some i)
    (h : ixSV i.size x ix = some v) : (Instr.indexAt t x ix).run P w = .ok v w := by
  unfold ixSV at h
  split at h
  · rename_i b o n c k j
    split at h
    · rename_i hj; cases h
      simp only [Instr.indexAt, asIntOf, Sem.run_bind, under_run hd, Result.andThen, Sem.run_pure, hj, and_self, if_true, size_run hi, addr_add]
    · cases h
  · cases h
theorem ixAV_run {t e : TypeId} {n : Nat} {i : TypeInfo} {x ix v : Value} (hd : P.underlying t = some (.array n e)) (hi : P.info? e = some i)
    (h : ixAV i.size n x ix = some v) : (Instr.indexAt t x ix).run P w = .ok v w := by
  unfold ixAV at h
  split at h
  · rename_i b o k j
    split at h
    · rename_i hj; cases h
      simp only [Instr.indexAt, asIntOf, Instr.sureAddr, Sem.run_bind, under_run hd, Result.andThen, Sem.run_pure, hj, and_self, if_true, size_run hi, addr_add]
    · cases h
  · cases h
theorem partV_run {t : TypeId} {i : TypeInfo} {d : TypeDesc} {cs : Array Value} {off : Nat} {v : Value} (hi : P.info? t = some i) (hd : P.underlying t = some d)
    (h : partV (isAggD d) i.size off cs = some v) : (part t cs off).run P w = .ok v w := by
  unfold partV at h
  simp only [part, Sem.run_bind, agg_run hd, Result.andThen]
  cases hg : isAggD d
  · simp only [hg, Bool.false_eq_true, if_false] at h ⊢
    simp only [h, Sem.run_pure]
  · simp only [hg, if_true] at h ⊢
    cases h
    simp only [Sem.run_bind, size_run hi, Result.andThen, Sem.run_pure]
theorem fieldV_run {s : TypeId} {fs : Array Field} {f : Nat} {fd : Field} {i : TypeInfo} {d : TypeDesc} {x v : Value} (hs : P.underlying s = some (.struct fs)) (hf : fs[f]? = some fd)
    (hi : P.info? fd.type = some i) (hd : P.underlying fd.type = some d) (h : fieldV (isAggD d) i.size fd.offset x = some v) : (Instr.field s x f).run P w = .ok v w := by
  unfold fieldV at h
  split at h
  · simp only [Instr.field, Sem.run_bind, under_run hs, Result.andThen, hf, asAgg, Sem.run_pure, partV_run hi hd h]
  · cases h
theorem indexV_run {t e : TypeId} {n : Nat} {i : TypeInfo} {d : TypeDesc} {x ix v : Value} (ht : P.underlying t = some (.array n e)) (hi : P.info? e = some i) (hd : P.underlying e = some d)
    (h : indexV (isAggD d) i.size n x ix = some v) : (Instr.index t x ix).run P w = .ok v w := by
  unfold indexV at h
  split at h
  · split at h
    · rename_i hj
      simp only [Instr.index, asIntOf, Sem.run_bind, under_run ht, Result.andThen, Sem.run_pure, hj, and_self, if_true, size_run hi, partV_run hi hd h]
    · cases h
  · cases h
theorem boundV_run {d hi n : Nat} {x : Value} {code : BoundsCode} (h : boundV d hi (some x) = some n) : (Instr.sliceBound x hi code).run P w = .ok n w := by
  unfold boundV at h
  split at h
  · simp_all
  · rename_i k i heq
    simp only [Option.some.injEq] at heq
    subst heq
    split at h
    · rename_i hh; cases h
      simp only [Instr.sliceBound, asIntOf, Sem.run_bind, Sem.run_pure, Result.andThen, hh, and_self, if_true]
    · cases h
  · cases h
theorem sliceV_run {t e : TypeId} {i : TypeInfo} {x v : Value} {lo hi : Option Value} (hd : P.underlying t = some (.slice e)) (hi' : P.info? e = some i)
    (h : sliceV i.size x lo hi = some v) : (Instr.sliceAt t x lo hi none).run P w = .ok v w := by
  unfold sliceV at h
  split at h
  · rename_i a len cap
    split at h
    · cases h
    · rename_i hh heq
      split at h
      · cases h
      · rename_i l heql
        have e1 : (Instr.sliceBounds true len cap lo hi none).run P w = .ok (l, hh, cap) w := by
          unfold Instr.sliceBounds
          cases hi with
          | none =>
            simp only [boundV, Option.some.injEq] at heq; subst heq
            cases lo with
            | none => simp only [boundV, Option.some.injEq] at heql; subst heql; simp [go_sem]
            | some lo => simp [go_sem, boundV_run heql]
          | some hi =>
            cases lo with
            | none => simp only [boundV, Option.some.injEq] at heql; subst heql; simp [go_sem, boundV_run heq]
            | some lo => simp [go_sem, boundV_run heql, boundV_run heq]
        split at h
        · rename_i hcl
          cases h
          simp only [Instr.sliceAt, Instr.slice, Sem.run_bind, under_run hd, Result.andThen, e1, size_run hi', Sem.run_pure]
          simp [hcl]
        · rename_i hcl
          split at h
          · cases h
          · rename_i ha
            cases h
            simp only [Instr.sliceAt, Instr.slice, Sem.run_bind, under_run hd, Result.andThen, e1, size_run hi', Sem.run_pure, if_neg hcl]
            congr 2
            cases a with
            | none => rfl
            | some a =>
              obtain ⟨b, o, s⟩ := a
              cases s with
              | none => simp [addr_add]
              | some s => exact absurd rfl (ha b o s)
  · cases h
theorem sliceV3_run {t e : TypeId} {i : TypeInfo} {x v hi mx : Value} {lo : Option Value} (hd : P.underlying t = some (.slice e)) (hi' : P.info? e = some i)
    (h : sliceV3 i.size x lo hi mx = some v) : (Instr.sliceAt t x lo (some hi) (some mx)).run P w = .ok v w := by
  unfold sliceV3 at h
  split at h
  · rename_i a len cap
    split at h
    · cases h
    · rename_i ha
      split at h
      · cases h
      · rename_i mm heqm
        split at h
        · cases h
        · rename_i hh heq
          split at h
          · cases h
          · rename_i l heql
            cases h
            have e1 : (Instr.sliceBounds true len cap lo (some hi) (some mx)).run P w = .ok (l, hh, mm) w := by
              unfold Instr.sliceBounds
              cases lo with
              | none => simp only [boundV, Option.some.injEq] at heql; subst heql; simp [go_sem, boundV_run heqm, boundV_run heq]
              | some lo => simp [go_sem, boundV_run heqm, boundV_run heql, boundV_run heq]
            simp only [Instr.sliceAt, Instr.slice, Sem.run_bind, under_run hd, Result.andThen, e1, size_run hi', Sem.run_pure]
            congr 2
            split
            · rfl
            · cases a with
              | none => rfl
              | some a =>
                obtain ⟨b, o, s⟩ := a
                cases s with
                | none => simp [addr_add]
                | some s => exact absurd rfl (ha b o s)
  · cases h
theorem lenV_run {t : TypeId} {e : TypeId} {ats : Array TypeId} {ty : TypeId} {x v : Value} (ha : ats[0]? = some t) (hd : P.underlying t = some (.slice e)) (h : lenV x = some v) :
    (Builtin.len_ ats ty #[x]).run P w = .ok v w := by
  unfold lenV at h
  split at h
  · cases h
    simp only [Builtin.len_, ha]
    simp [go_sem, under_run hd, goInt]
  · cases h
theorem capV_run {t : TypeId} {e : TypeId} {ats : Array TypeId} {ty : TypeId} {x v : Value} (ha : ats[0]? = some t) (hd : P.underlying t = some (.slice e)) (h : capV x = some v) :
    (Builtin.cap_ ats ty #[x]).run P w = .ok v w := by
  unfold capV at h
  split at h
  · cases h
    simp only [Builtin.cap_, ha]
    simp [go_sem, under_run hd, goInt]
  · cases h
theorem min2V_run {x y v : Value} (h : min2V x y = some v) : (Builtin.min2 x y).run P w = .ok v w := by
  unfold min2V at h
  split at h
  · cases h; simp only [Builtin.min2, Sem.run_pure]
  · cases h
theorem max2V_run {x y v : Value} (h : max2V x y = some v) : (Builtin.max2 x y).run P w = .ok v w := by
  unfold max2V at h
  split at h
  · cases h; simp only [Builtin.max2, Sem.run_pure]
  · cases h
theorem fold_run {f : Value → Value → Option Value} {g : Value → Value → Sem Value} (hf : ∀ x y v, f x y = some v → (g x y).run P w = .ok v w) :
    ∀ (l : List Value) (x v : Value), foldV f x l = some v → (l.foldlM g x).run P w = .ok v w
  | [], x, v, h => by simp only [foldV, Option.some.injEq] at h; subst h; simp [go_sem]
  | y :: l, x, v, h => by
    simp only [foldV] at h
    split at h
    · rename_i z hz
      simp only [List.foldlM_cons, Sem.run_bind, hf _ _ _ hz, Result.andThen]
      exact fold_run hf l z v h
    · cases h
theorem min_run {ats : Array TypeId} {ty : TypeId} {x v : Value} {l : List Value} (h : foldV min2V x l = some v) : (Builtin.min_ ats ty (x :: l).toArray).run P w = .ok v w := by
  simp only [Builtin.min_]; exact fold_run (fun _ _ _ => min2V_run) l x v h
theorem max_run {ats : Array TypeId} {ty : TypeId} {x v : Value} {l : List Value} (h : foldV max2V x l = some v) : (Builtin.max_ ats ty (x :: l).toArray).run P w = .ok v w := by
  simp only [Builtin.max_]; exact fold_run (fun _ _ _ => max2V_run) l x v h
theorem cvV_run {s t : TypeId} {d : TypeDesc} {k : IntKind} {x v : Value} (hs : P.underlying s = some d) (ht : P.underlying t = some (.int k)) (h : cvV k x = some v) :
    (convert s t x).run P w = .ok v w := by
  unfold cvV at h
  split at h
  · cases h
    simp only [convert, Sem.run_bind, under_run hs, under_run ht, Result.andThen]
    simp [Conv.intToInt, go_sem]
  · cases h
end
end Go.Hc
