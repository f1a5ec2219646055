/- The heap calculus, part G: an operation inside a frame; regions in the text's order, and regions whose order is drawn. -/
import Derived.Test.YtbchcnmghcmaoaaHcF
set_option linter.unusedSimpArgs false
set_option linter.unusedVariables false
namespace Go.Hc
open Go

theorem getD_lt {l : List Value} {t : Nat} (h : t < l.length) : l.getD t undef = l[t] := by simp [List.getD, h]
theorem getD_ge {l : List Value} {t : Nat} (h : l.length ≤ t) : l.getD t undef = undef := by simp [List.getD, h]
def evL (l : List Value) : Operand → Value
  | .tmp t => l.getD t undef
  | .const v => v
  | .global g => .pointer (some ⟨g, 0, none⟩)
  | .func f => .func (.func f) #[] #[]
def putL (l : List Value) (d : Option Tmp) (v : Value) : List Value :=
  match d with
  | some d => l.set d v
  | none => l
def actL (l : List Value) (d : List Deferred) : Act := ⟨l.toArray, d⟩
theorem eval_actL (l : List Value) (d : List Deferred) : (actL l d).eval = evL l := by
  funext x; cases x <;> simp [Act.eval, evL, actL]
theorem put_actL (l : List Value) (d : List Deferred) (t : Option Tmp) (v : Value) : (actL l d).put t v = actL (putL l t v) d := by
  cases t <;> simp [Act.put, putL, actL]

section
variable {P : Program} {τ : Tab} {r : Option Nat}

theorem Fr_fn (f : FuncId) : (Fr r).fn f := trivial
theorem callsIn_of {f : FuncId} {args : Array Value} {w : World} {R : Ending → World → Prop} (h : Calls P f args w R) : CallsIn (Fr r) 0 P f args w R :=
  show CallsIn Fence.wide 0 P f args w R from callsIn_wide.2 h

/-- An operation of the heap calculus is one of the machine's. -/
theorem opE_wp (hτ : TabOK P τ) {o : Oper} {a : Act} {w : World} {k : Value → Heap → Prop} (h : opE τ P o.op a.eval w.hp k) (Q : Exit → Act → World → Prop) :
    o.wpIn (Fr r) 0 P a w (fun a' w' => ∃ v, a' = a.put o.dst v ∧ k v w'.hp) Q := by
  refine ⟨fun _ _ => trivial, ?_⟩
  have hnd : ∀ c, o.op ≠ .defer c := fun c hc => by rw [hc] at h; exact h
  rw [show (Fr r).round = r from rfl, Oper.semAt_eq r a.eval o hnd]
  by_cases hcall : ∃ c f, o.op = .call c ∧ c.callee = .value f
  · obtain ⟨c, f, ho, hc⟩ := hcall
    rw [ho] at h
    delta opE at h
    dsimp only at h
    rw [hc] at h
    dsimp only at h
    have hargs : c.args.map a.eval = (c.args.toList.map a.eval).toArray := by apply Array.ext'; simp
    unfold execOp
    rw [ho]
    dsimp only
    unfold callV at h
    split at h
    · rename_i g first cap hf
      have e : first ++ (c.args.toList.map a.eval).toArray ++ cap = (first.toList ++ c.args.toList.map a.eval ++ cap.toList).toArray := by apply Array.ext'; simp
      rcases h with ⟨h1, h2⟩ | h2
      case inr =>
        obtain ⟨v, w', h1, h3⟩ := h2 w rfl
        have hr : (do let d ← resolve a.eval c o.type; invoke d.target d.args : Sem Next).run P w = .ok (.value v) w' := by
          simp only [resolve, hc, hf, Deferred.ofValue, Sem.run_bind, Sem.run_pure, Result.andThen, invoke]
          rw [hargs, e]; exact h1
        rw [hr]
        exact ⟨v, rfl, h3⟩
      have hr : (do let d ← resolve a.eval c o.type; invoke d.target d.args : Sem Next).run P w = .ok (.enter g (first.toList ++ c.args.toList.map a.eval ++ cap.toList).toArray) w := by
        simp only [resolve, hc, hf, Deferred.ofValue, Sem.run_bind, Sem.run_pure, Result.andThen, invoke]
        rw [hargs]
        have e : first ++ (c.args.toList.map a.eval).toArray ++ cap = (first.toList ++ c.args.toList.map a.eval ++ cap.toList).toArray := by apply Array.ext'; simp
        rw [e]; exact h1 w
      rw [hr]
      refine ⟨(fun hd => by cases hd), callsIn_of ((h2 w rfl).mono ?_)⟩
      rintro e w' ⟨v, rfl, hv⟩
      exact ⟨v, rfl, hv⟩
    · rename_i l first cap hf
      obtain ⟨fn, tmps, assign, body, h1, h2⟩ := h w rfl
      have hr : (do let d ← resolve a.eval c o.type; invoke d.target d.args : Sem Next).run P w = .ok (.round l fn tmps assign body) w := by
        simp only [resolve, hc, hf, Deferred.ofValue, Sem.run_bind, Sem.run_pure, Result.andThen, invoke]
        rw [hargs]
        have e : first ++ (c.args.toList.map a.eval).toArray = (first.toList ++ c.args.toList.map a.eval).toArray := by apply Array.ext'; simp
        rw [e]; exact h1
      rw [hr]
      refine ⟨(fun hd => by cases hd), ?_⟩
      show RoundIn Fence.wide 0 P l fn tmps assign body w _
      refine h2.mono ?_
      rintro e w' ⟨v, rfl, hv⟩
      exact ⟨v, rfl, hv⟩
    · exact h.elim
  · obtain ⟨v, w', hr, hk, _⟩ := opE_value hτ h (fun c f h1 h2 => hcall ⟨c, f, h1, h2⟩)
    rcases hr with hr | ⟨hr, rfl⟩
    · rw [hr]; exact ⟨v, rfl, hk⟩
    · rw [hr]; exact ⟨undef, rfl, hk⟩

def gU (g : Option (Nat × Bool)) (U : Prop) : Prop := match g with | none => False | some _ => U
/-- Is a guarded operation carried out? The guard's slot is written out as the bool that it is; what is behind an operation that was left out is left out too. -/
def guardE (ops : List Oper) (l : List Value) (g : Option (Nat × Bool)) (A B : List Value → Prop) : Prop :=
  match g with
  | none => A l
  | some (j, want) =>
    match ops[j]? with
    | some oj =>
      match oj.dst with
      | some t =>
        match want with
        | true => brG (l.getD t undef) (A (l.set t (.bool true))) (B (l.set t (.bool false))) (gU oj.guard (B l))
        | false => brG (l.getD t undef) (B (l.set t (.bool true))) (A (l.set t (.bool false))) (gU oj.guard (B l))
      | none => False
    | none => False

theorem set_self {l : List Value} {t : Nat} {v : Value} (h : l.getD t undef = v) (hv : v ≠ undef) : l.set t v = l := by
  by_cases ht : t < l.length
  · have e : l[t] = v := by rw [getD_lt ht] at h; exact h
    apply List.ext_getElem (by simp)
    intro i h1 h2
    rw [List.getElem_set]
    split
    · rename_i hi; subst hi; exact e.symm
    · rfl
  · rw [getD_ge (by omega)] at h; exact absurd h.symm hv

theorem gU_out {g : Option (Nat × Bool)} {U : Prop} (h : gU g U) : U := by
  unfold gU at h; split at h
  · exact h.elim
  · exact h
theorem guardE_spec {ops : List Oper} {l : List Value} {d : List Deferred} {o : Oper} {A B : List Value → Prop} (h : guardE ops l o.guard A B) :
    (Region.wanted o (yielded ops.toArray (actL l d).tmps) = true ∧ A l) ∨ (Region.wanted o (yielded ops.toArray (actL l d).tmps) = false ∧ B l) := by
  unfold guardE at h
  split at h
  · rename_i hg
    exact .inl ⟨by simp [Region.wanted, hg], h⟩
  · rename_i j want hg
    split at h
    · rename_i oj hj
      split at h
      · rename_i t ht
        have hy : ∀ b, l.getD t undef = .bool b → yielded ops.toArray (actL l d).tmps j = some b := by
          intro b hb
          have hlt : t < l.length := by
            rcases Nat.lt_or_ge t l.length with h' | h'
            · exact h'
            · rw [getD_ge h'] at hb; cases hb
          rw [getD_lt hlt] at hb
          simp [yielded, hj, ht, actL, hlt, hb]
        have hn : ∀ vs, l.getD t undef = .tuple vs → yielded ops.toArray (actL l d).tmps j = none := by
          intro vs hb
          rcases Nat.lt_or_ge t l.length with hlt | hlt
          · rw [getD_lt hlt] at hb
            simp [yielded, hj, ht, actL, hlt, hb]
          · simp [yielded, hj, ht, actL, hlt]
        have key : ∀ b, l.getD t undef = .bool b → l.set t (.bool b) = l := fun b hb => set_self hb (by intro h; cases h)
        split at h
        · rcases brG_cases h with ⟨hb, h⟩ | ⟨hb, h⟩ | ⟨⟨vs, hb⟩, h⟩
          · rw [key _ hb] at h; exact .inl ⟨by simp [Region.wanted, hg, hy _ hb], h⟩
          · rw [key _ hb] at h; exact .inr ⟨by simp [Region.wanted, hg, hy _ hb], h⟩
          · exact .inr ⟨by simp [Region.wanted, hg, hn _ hb], gU_out h⟩
        · rcases brG_cases h with ⟨hb, h⟩ | ⟨hb, h⟩ | ⟨⟨vs, hb⟩, h⟩
          · rw [key _ hb] at h; exact .inr ⟨by simp [Region.wanted, hg, hy _ hb], h⟩
          · rw [key _ hb] at h; exact .inl ⟨by simp [Region.wanted, hg, hy _ hb], h⟩
          · exact .inr ⟨by simp [Region.wanted, hg, hn _ hb], gU_out h⟩
      · exact h.elim
    · exact h.elim

/-- A region in the text's order. -/
def seqE (τ : Tab) (P : Program) (ops : List Oper) (K : List Value → Heap → Prop) : List Oper → List Value → Heap → Prop
  | [], l, H => K l H
  | o :: rest, l, H => guardE ops l o.guard
      (fun l => opE τ P o.op (evL l) H fun v H' => seqE τ P ops K rest (putL l o.dst v) H')
      (fun l => seqE τ P ops K rest (putL l o.dst undef) H)

theorem seqE_wp (hτ : TabOK P τ) {ops : List Oper} {K : List Value → Heap → Prop} {Q : Exit → Act → World → Prop} {d : List Deferred}
    (hK : ∀ l w, K l w.hp → Q .normal (actL l d) w) : ∀ (rest : List Oper) (l : List Value) (w : World), seqE τ P ops K rest l w.hp →
    wpListIn (Fr r) 0 P ops.toArray Q rest (actL l d) w
  | [], l, w, h => hK l w h
  | o :: rest, l, w, h => by
    rw [wpListIn]
    rcases guardE_spec (d := d) (o := o) h with ⟨hw, h⟩ | ⟨hw, h⟩
    · rw [if_pos hw]
      refine Oper.wpIn_mono ?_ (opE_wp hτ (by rw [eval_actL]; exact h) Q)
      rintro a' w' ⟨v, rfl, hv⟩
      rw [put_actL]
      exact seqE_wp hτ hK rest _ w' hv
    · rw [if_neg (by rw [hw]; exact Bool.false_ne_true)]
      refine ⟨fun _ _ => trivial, ?_⟩
      rw [put_actL]
      exact seqE_wp hτ hK rest _ w h
end
end Go.Hc
