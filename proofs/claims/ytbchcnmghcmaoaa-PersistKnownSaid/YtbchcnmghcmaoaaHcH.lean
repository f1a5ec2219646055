/- The heap calculus, part H: a region whose order is drawn, by a plan: what only reads is taken as early as it may be; behind each operation that may write, what was read and need not have come before is read again. -/
import Derived.Test.YtbchcnmghcmaoaaHcG
set_option linter.unusedSimpArgs false
set_option linter.unusedVariables false
namespace Go.Hc
open Go

def hasEdge (ops : Array Oper) (j i : Nat) : Bool := (ops[j]?).any fun o => o.after.any fun e => Region.binds .any e && e.on == i

section
variable {P : Program} {τ : Tab} {r : Option Nat} {ops : Array Oper} {Q : Exit → Act → World → Prop}

/-- Whatever order is picked from here on; 'pend': operations that were taken early, each with what must stay true till it really comes up. -/
def wpP (r : Option Nat) (P : Program) (ops : Array Oper) (Q : Exit → Act → World → Prop) : Nat → Array Bool → List (Nat × (World → Prop)) → Act → World → Prop
  | 0, listed, _, a, w => Region.ready .any ops listed = [] ∧ Q .normal a w
  | fuel + 1, listed, pend, a, w =>
    (Region.ready .any ops listed = [] → Q .normal a w) ∧
    ∀ j ∈ Region.ready .any ops listed, wpOpIn (Fr r) 0 P ops Q j (fun a' w' =>
      (∀ p ∈ pend, hasEdge ops j p.1 = false → p.2 w') ∧ wpP r P ops Q fuel (listed.setIfInBounds j true) (pend.filter fun p => !hasEdge ops j p.1) a' w') a w

theorem wpP_any : ∀ (fuel : Nat) (listed : Array Bool) (pend : List (Nat × (World → Prop))) (a : Act) (w : World), wpP r P ops Q fuel listed pend a w →
    wpAnyIn (Fr r) 0 P .any ops Q fuel listed a w
  | 0, _, _, _, _, h => h
  | fuel + 1, _, _, _, _, h => ⟨h.1, fun j hj => wpOpIn_mono (fun _ _ h' => wpP_any fuel _ _ _ _ h'.2) (h.2 j hj)⟩

theorem wpP_weak : ∀ (fuel : Nat) (listed : Array Bool) (pend pend' : List (Nat × (World → Prop))) (a : Act) (w : World), (∀ p ∈ pend', p ∈ pend ∨ ∀ w, p.2 w) →
    wpP r P ops Q fuel listed pend a w → wpP r P ops Q fuel listed pend' a w
  | 0, _, _, _, _, _, _, h => h
  | fuel + 1, _, pend, pend', _, _, hs, h => ⟨h.1, fun j hj => wpOpIn_mono (fun _ w' h' => ⟨fun p hp he => (hs p hp).elim (fun h1 => h'.1 p h1 he) (fun h1 => h1 w'),
      wpP_weak fuel _ _ _ _ _ (fun p hp => by
        rw [List.mem_filter] at hp
        exact (hs p hp.1).imp (fun h1 => List.mem_filter.2 ⟨h1, hp.2⟩) id) h'.2⟩) (h.2 j hj)⟩

/-- Where o's slot is filled in the frame a, o itself comes to v at every world that S holds of, and leaves the world alone. -/
def TakesTo (P : Program) (ops : Array Oper) (S : World → Prop) (o : Oper) (v : Value) (a : Act) : Prop :=
  (Region.wanted o (yielded ops a.tmps) = true ∧ ∀ w, S w → (execOp a.eval o).run P w = .ok (.value v) w) ∨ (Region.wanted o (yielded ops a.tmps) = false ∧ v = undef)

def plainOp (o : Oper) : Bool := match o.op with | .select .. | .defer _ => false | _ => true
theorem plainOp_sel {o : Oper} (h : plainOp o = true) (cs : Array SelectCase) (b : Bool) : o.op ≠ .select cs b := by
  intro e; simp [plainOp, e] at h
theorem plainOp_def {o : Oper} (h : plainOp o = true) (c : Call) : o.op ≠ .defer c := by
  intro e; simp [plainOp, e] at h

theorem TakesTo.here {S : World → Prop} {i : Nat} {o : Oper} {v : Value} {a : Act} {w : World} {K : Act → World → Prop} (hi : ops[i]? = some o) (hp : plainOp o = true)
    (h : TakesTo P ops S o v a) (hS : S w) (hK : K (a.put o.dst v) w) : wpOpIn (Fr r) 0 P ops Q i K a w := by
  unfold wpOpIn
  simp only [hi]
  rcases h with ⟨hw, hv⟩ | ⟨hw, rfl⟩
  · simp only [hw, if_true, Oper.wpIn]
    refine ⟨fun _ _ => trivial, ?_⟩
    rw [show (Fr r).round = r from rfl, Oper.semAt_eq r a.eval o (plainOp_def hp), hv w hS]
    exact hK
  · simp only [hw, Bool.false_eq_true, if_false]
    exact ⟨fun _ _ => trivial, hK⟩

/-- oj, carried out in a frame in which oi's slot is filled already: as if it were filled behind. -/
theorem put_behind {S : World → Prop} {j : Nat} {oi oj : Oper} {v : Value} {K : Act → World → Prop} {a : Act} {w : World} (hj : ops[j]? = some oj) (hap : oi.apart ops oj = true)
    (hpi : plainOp oi = true) (hpj : plainOp oj = true) (hQ : ∀ c a w, ¬ Q (.panic c) a w) (hy : TakesTo P ops S oi v a)
    (h : wpOpIn (Fr r) 0 P ops Q j K (a.put oi.dst v) w) : wpOpIn (Fr r) 0 P ops Q j (fun a' w' => TakesTo P ops S oi v a' ∧ K (a'.put oi.dst v) w') a w := by
  obtain ⟨h1, h2, h3⟩ := Oper.apart_spec hap
  have keep : ∀ u, TakesTo P ops S oi v (a.put oj.dst u) := fun u => by
    unfold TakesTo
    rw [execOp_put oi (plainOp_sel hpi) a oj.dst u h3, wanted_put oi a oj.dst u h3]
    exact hy
  unfold wpOpIn at *
  simp only [hj] at *
  rw [wanted_put oj a oi.dst v h1] at h
  by_cases hw : Region.wanted oj (yielded ops a.tmps) = true
  · simp only [hw, if_true] at h ⊢
    obtain ⟨_, h⟩ := h
    refine ⟨fun _ _ => trivial, ?_⟩
    rw [show (Fr r).round = r from rfl, Oper.semAt_eq r _ oj (plainOp_def hpj)] at h ⊢
    rw [execOp_put oj (plainOp_sel hpj) a oi.dst v h1] at h
    generalize (execOp a.eval oj).run P w = res at h ⊢
    cases res with
    | ok x w' =>
      cases x <;> simp only [Oper.uponIn] at h ⊢
      case value u => exact ⟨keep u, by rw [← Act.put_comm a v u h2]; exact h⟩
      case skip => exact ⟨keep _, by rw [← Act.put_comm a v undef h2]; exact h⟩
      case defer d =>
        refine ⟨?_, ?_⟩
        · have k1 := keep undef
          unfold TakesTo at k1 ⊢
          rw [← Act.put_defers]
          exact k1
        · rw [← Act.put_comm _ v undef h2, ← Act.put_defers]
          exact h
      case enter f args =>
        refine ⟨h.1, h.2.mono fun e w'' he => ?_⟩
        cases e with
        | returned u => exact ⟨keep u, by rw [← Act.put_comm a v u h2]; exact he⟩
        | panicked c => exact (hQ _ _ _ he).elim
        | outgrown => exact he
      case row row args => exact ⟨h.1, h.2.mono fun u w'' he => ⟨keep u, by rw [← Act.put_comm a v u h2]; exact he⟩⟩
      case round l f tmps assign body =>
        refine ⟨h.1, h.2.mono fun e w'' he => ?_⟩
        cases e with
        | returned u => exact ⟨keep u, by rw [← Act.put_comm a v u h2]; exact he⟩
        | panicked c => exact (hQ _ _ _ he).elim
        | outgrown => exact he
    | halt x w' =>
      cases x <;> simp only [Oper.uponIn] at h ⊢
      case panic u => exact (hQ _ _ _ h).elim
  · simp only [hw] at h ⊢
    exact ⟨fun _ _ => trivial, keep _, by rw [← Act.put_comm a v undef h2]; exact h.2⟩

theorem noEdge_of_ready {i j : Nat} {listed : Array Bool} (hi : i ∈ Region.ready .any ops listed) (hj : j ∈ Region.ready .any ops listed) : hasEdge ops j i = false := by
  obtain ⟨hjun, oj, hoj, hall⟩ := mem_ready.1 hj
  have h0 := (mem_ready.1 hi).1
  unfold hasEdge
  rw [hoj, Option.any_some]
  rw [Bool.eq_false_iff]
  intro h
  rw [Array.any_eq_true] at h
  obtain ⟨q, hq, hb⟩ := h
  have he := Array.getElem_mem hq
  generalize oj.after[q] = e at he hb
  simp only [Bool.and_eq_true, beq_iff_eq] at hb
  have h1 := hall e he hb.1
  rw [hb.2] at h1
  rcases Nat.lt_or_ge i listed.size with h' | h'
  · simp [h'] at h0 h1; rw [h0] at h1; cases h1
  · simp [Array.getElem?_eq_none h'] at h1

/-- **Taken first.** -/
theorem wpP_first {S : World → Prop} {i : Nat} {oi : Oper} {v : Value} (hi : ops[i]? = some oi) (hpl : ∀ (j : Nat) (o : Oper), ops[j]? = some o → plainOp o = true)
    (hQ : ∀ c a w, ¬ Q (.panic c) a w) :
    ∀ (fuel : Nat) (listed : Array Bool) (pend : List (Nat × (World → Prop))) (a : Act) (w : World),
      (∀ j oj, ops[j]? = some oj → j ≠ i → listed.getD j true = false → (∀ e ∈ oj.after, Region.binds .any e = true → e.on ≠ i) → oi.apart ops oj = true) →
      i ∈ Region.ready .any ops listed → TakesTo P ops S oi v a → S w → (∀ p ∈ pend, p.2 w) →
      wpP r P ops Q fuel (listed.setIfInBounds i true) ((i, S) :: pend) (a.put oi.dst v) w → wpP r P ops Q (fuel + 1) listed pend a w := by
  intro fuel
  have here : ∀ (fuel : Nat) (listed : Array Bool) (pend : List (Nat × (World → Prop))) (a : Act) (w : World), TakesTo P ops S oi v a → S w → (∀ p ∈ pend, p.2 w) →
      wpP r P ops Q fuel (listed.setIfInBounds i true) ((i, S) :: pend) (a.put oi.dst v) w → wpOpIn (Fr r) 0 P ops Q i (fun a' w' =>
        (∀ p ∈ pend, hasEdge ops i p.1 = false → p.2 w') ∧ wpP r P ops Q fuel (listed.setIfInBounds i true) (pend.filter fun p => !hasEdge ops i p.1) a' w') a w := by
    intro fuel listed pend a w hy hS hP H
    refine hy.here hi (hpl i oi hi) hS ⟨fun p hp _ => hP p hp, wpP_weak _ _ _ _ _ _ (fun p hp => ?_) H⟩
    exact .inl (List.mem_cons_of_mem _ (List.mem_filter.1 hp).1)
  induction fuel with
  | zero =>
    intro listed pend a w _ hr hy hS hP H
    refine ⟨fun h => (by rw [h] at hr; cases hr), fun j hj => ?_⟩
    by_cases hji : j = i
    · subst hji; exact here 0 listed pend a w hy hS hP H
    · have := ready_mono hj hji
      rw [H.1] at this
      cases this
  | succ fuel ih =>
    intro listed pend a w hfree hr hy hS hP H
    refine ⟨fun h => (by rw [h] at hr; cases hr), fun j hj => ?_⟩
    by_cases hji : j = i
    · subst hji; exact here (fuel + 1) listed pend a w hy hS hP H
    · have h1 := H.2 j (ready_mono hj hji)
      obtain ⟨hjun, oj, hoj, hall⟩ := mem_ready.1 hj
      have hne := noEdge_of_ready hr hj
      have hnot : ∀ e ∈ oj.after, Region.binds .any e = true → e.on ≠ i := fun e he hb heq => by
        unfold hasEdge at hne
        rw [hoj, Option.any_some, Bool.eq_false_iff] at hne
        obtain ⟨q, hq, rfl⟩ := Array.mem_iff_getElem.1 he
        exact hne (Array.any_eq_true.2 ⟨q, hq, by simp [hb, heq]⟩)
      have h2 := put_behind hoj (hfree j oj hoj hji hjun hnot) (hpl i oi hi) (hpl j oj hoj) hQ hy h1
      have hfree' : ∀ k ok, ops[k]? = some ok → k ≠ i → (listed.setIfInBounds j true).getD k true = false →
          (∀ e ∈ ok.after, Region.binds .any e = true → e.on ≠ i) → oi.apart ops ok = true := fun k ok hk hki hun hno => by
        refine hfree k ok hk hki ?_ hno
        by_cases hjk : j = k
        · subst hjk; exact hjun
        · rw [getD_set_ne true hjk] at hun; exact hun
      refine wpOpIn_mono (fun a' w' h3 => ?_) h2
      obtain ⟨hy', hp', H'⟩ := h3
      have hSi : S w' := hp' (i, S) List.mem_cons_self hne
      have hP' : ∀ p ∈ pend, hasEdge ops j p.1 = false → p.2 w' := fun p hp he => hp' p (List.mem_cons_of_mem _ hp) he
      refine ⟨hP', ih (listed.setIfInBounds j true) _ a' w' hfree' (ready_mono hr (Ne.symm hji)) hy' hSi (fun p hp => ?_) ?_⟩
      · rw [List.mem_filter] at hp
        exact hP' p hp.1 (by simpa using hp.2)
      · rw [Array.setIfInBounds_comm _ _ hji]
        have e : List.filter (fun p : Nat × (World → Prop) => !hasEdge ops j p.1) ((i, S) :: pend) = (i, S) :: pend.filter fun p => !hasEdge ops j p.1 := by
          rw [List.filter_cons]; simp [hne]
        rw [e] at H'
        exact H'
theorem wpP_done {listed : Array Bool} {pend : List (Nat × (World → Prop))} {a : Act} {w : World} (hr : Region.ready .any ops listed = []) (h : Q .normal a w) :
    ∀ fuel, wpP r P ops Q fuel listed pend a w
  | 0 => ⟨hr, h⟩
  | _ + 1 => ⟨fun _ => h, by rw [hr]; simp⟩
end

/-- What comes up next. -/
inductive Pl where
  | nil
  | one (i : Nat) (p : Pl)
  | two (i : Nat) (p : Pl) (j : Nat) (q : Pl)

def planOK (ops : Array Oper) : Pl → Nat → Array Bool → Bool
  | .nil, _, listed => (Region.ready .any ops listed).isEmpty
  | .one _ _, 0, _ => false
  | .one i p, fuel + 1, listed =>
    (match ops[i]? with
     | some o => match quietOp o.op with
       | true => (Region.ready .any ops listed).contains i && Region.free .any ops listed i
       | false => Region.ready .any ops listed == [i]
     | none => false) && planOK ops p fuel (listed.setIfInBounds i true)
  | .two _ _ _ _, 0, _ => false
  | .two i p j q, fuel + 1, listed =>
    (match ops[i]?, ops[j]? with
     | some oi, some oj => !quietOp oi.op && !quietOp oj.op && Region.ready .any ops listed == [i, j]
     | _, _ => false) && planOK ops p fuel (listed.setIfInBounds i true) && planOK ops q fuel (listed.setIfInBounds j true)

def edgeB (o : Oper) (i : Nat) : Bool := o.after.toList.any fun e => Region.binds .any e && e.on == i
def pendE (o : Oper) (H : Heap) (K : Prop) : List (Nat × (Heap → Prop)) → Prop
  | [] => K
  | p :: l => match edgeB o p.1 with
    | true => pendE o H K l
    | false => p.2 H ∧ pendE o H K l
def pendF (o : Oper) : List (Nat × (Heap → Prop)) → List (Nat × (Heap → Prop))
  | [] => []
  | p :: l => match edgeB o p.1 with
    | true => pendF o l
    | false => p :: pendF o l
def addP (τ : Tab) (P : Program) (i : Nat) (op : Op) (ρ : Operand → Value) (v : Value) (pend : List (Nat × (Heap → Prop))) : List (Nat × (Heap → Prop)) :=
  match op with
  | .load t x => (i, fun H' => opE τ P (.load t x) ρ H' fun v' _ => v' = v) :: pend
  | _ => pend
def oneE (τ : Tab) (P : Program) (ops : List Oper) (i : Nat) (K : List (Nat × (Heap → Prop)) → List Value → Heap → Prop) (pend : List (Nat × (Heap → Prop))) (l : List Value) (H : Heap) : Prop :=
  match ops[i]? with
  | none => False
  | some o => match quietOp o.op with
    | true => guardE ops l o.guard (fun l => opE τ P o.op (evL l) H fun v _ => K (addP τ P i o.op (evL l) v pend) (putL l o.dst v) H) (fun l => K pend (putL l o.dst undef) H)
    | false => guardE ops l o.guard (fun l => opE τ P o.op (evL l) H fun v H' => pendE o H' (K (pendF o pend) (putL l o.dst v) H') pend) (fun l => K (pendF o pend) (putL l o.dst undef) H)
def planE (τ : Tab) (P : Program) (ops : List Oper) (K : List Value → Heap → Prop) : Pl → List (Nat × (Heap → Prop)) → List Value → Heap → Prop
  | .nil, _, l, H => K l H
  | .one i p, pend, l, H => oneE τ P ops i (planE τ P ops K p) pend l H
  | .two i p j q, pend, l, H => oneE τ P ops i (planE τ P ops K p) pend l H ∧ oneE τ P ops j (planE τ P ops K q) pend l H

section
variable {P : Program} {τ : Tab} {r : Option Nat}
/-- F asks one value, the same at every heap. -/
def Asks (F : Heap → (Value → Heap → Prop) → Prop) : Prop := ∃ o : Option Value, ∀ H k, F H k ↔ bnd o fun v => k v H
theorem asks_no {F : Heap → (Value → Heap → Prop) → Prop} (h : ∀ H k, F H k ↔ False) : Asks F := ⟨none, fun H k => by rw [h]; simp⟩
theorem asks_elemE {t : TypeId} {f : TypeId → TI → Option Value} : Asks fun H k => elemE τ t fun e te => bnd (f e te) fun v => k v H := by
  unfold elemE
  cases τ.ti t with
  | none => exact asks_no fun _ _ => Iff.rfl
  | some ti => cases hd : ti.desc <;> first
    | (simp only [hd]; exact asks_no fun _ _ => Iff.rfl)
    | (rename_i e; simp only [hd]; cases τ.ti e with
        | none => exact asks_no fun _ _ => Iff.rfl
        | some te => exact ⟨_, fun _ _ => Iff.rfl⟩)
theorem asks_op {op : Op} {ρ : Operand → Value} (hq : quietOp op = true) (hl : ∀ t x, op ≠ .load t x) : Asks fun H k => opE τ P op ρ H k := by
  cases op <;> try exact absurd hq Bool.false_ne_true
  all_goals (delta opE; try dsimp only)
  case move x => exact ⟨some (ρ x), fun _ _ => by simp⟩
  case assign x => exact ⟨some (ρ x), fun _ _ => by simp⟩
  case pick c a b =>
    unfold pickE
    split
    · exact ⟨some (ρ a), fun _ _ => by simp⟩
    · exact ⟨some (ρ b), fun _ _ => by simp⟩
    · exact asks_no fun _ _ => Iff.rfl
  case build t parts =>
    cases τ.ti t with
    | none => exact asks_no fun _ _ => Iff.rfl
    | some ti =>
      dsimp only
      split
      · split
        · exact ⟨_, fun _ _ => Iff.rfl⟩
        · exact asks_no fun _ _ => Iff.rfl
      · split
        · exact ⟨_, fun _ _ => Iff.rfl⟩
        · exact asks_no fun _ _ => Iff.rfl
      · exact asks_no fun _ _ => Iff.rfl
  case load t x => exact absurd rfl (hl t x)
  case nilCheck => exact ⟨_, fun _ _ => Iff.rfl⟩
  case binOp => exact ⟨_, fun _ _ => Iff.rfl⟩
  case unOp => exact ⟨_, fun _ _ => Iff.rfl⟩
  case convert s t x =>
    split
    · split
      · exact ⟨_, fun _ _ => Iff.rfl⟩
      · exact asks_no fun _ _ => Iff.rfl
    · exact asks_no fun _ _ => Iff.rfl
  case makeFunc => exact ⟨some _, fun _ _ => by rw [bnd_some]⟩
  case slice t x lo hi mx =>
    cases mx with
    | some m => cases hi with
      | none => exact asks_no fun _ _ => Iff.rfl
      | some hi => exact asks_elemE
    | none => exact asks_elemE
  case fieldAddr s x f =>
    split
    · split
      · split
        · split
          · split
            · exact asks_no fun _ _ => Iff.rfl
            · exact ⟨_, fun _ _ => Iff.rfl⟩
          · exact asks_no fun _ _ => Iff.rfl
        · exact asks_no fun _ _ => Iff.rfl
      · exact asks_no fun _ _ => Iff.rfl
    · exact asks_no fun _ _ => Iff.rfl
  case field s x f =>
    split
    · split
      · split
        · split
          · exact ⟨_, fun _ _ => Iff.rfl⟩
          · exact asks_no fun _ _ => Iff.rfl
        · exact asks_no fun _ _ => Iff.rfl
      · exact asks_no fun _ _ => Iff.rfl
    · exact asks_no fun _ _ => Iff.rfl
  case indexAddr t x i =>
    split
    · split
      · split
        · exact ⟨_, fun _ _ => Iff.rfl⟩
        · exact asks_no fun _ _ => Iff.rfl
      · split
        · exact ⟨_, fun _ _ => Iff.rfl⟩
        · exact asks_no fun _ _ => Iff.rfl
      · exact asks_no fun _ _ => Iff.rfl
    · exact asks_no fun _ _ => Iff.rfl
  case index t x i =>
    split
    · split
      · split
        · exact ⟨_, fun _ _ => Iff.rfl⟩
        · exact asks_no fun _ _ => Iff.rfl
      · exact asks_no fun _ _ => Iff.rfl
    · exact asks_no fun _ _ => Iff.rfl
  case extract => exact ⟨_, fun _ _ => Iff.rfl⟩
  case call c =>
    obtain ⟨ce, as, ats⟩ := c
    cases ce with
    | value f => exact absurd hq Bool.false_ne_true
    | invoke f m => exact absurd hq Bool.false_ne_true
    | builtin b =>
      cases b <;> try exact absurd hq Bool.false_ne_true
      all_goals (try dsimp only); generalize ats.toList = l1; generalize as.toList.map ρ = l2; unfold biE
      all_goals (split <;> first | exact asks_elemE | exact ⟨_, fun _ _ => Iff.rfl⟩ | exact asks_no (fun _ _ => Iff.rfl) | (rename_i h; cases h))
theorem quiet_val {op : Op} {ρ : Operand → Value} {H : Heap} {k : Value → Heap → Prop} (hq : quietOp op = true) (h : opE τ P op ρ H k) :
    ∃ v, k v H ∧ (opE τ P op ρ H fun v' _ => v' = v) ∧ ((∀ t x, op ≠ .load t x) → ∀ H', opE τ P op ρ H' fun v' _ => v' = v) := by
  by_cases hl : ∃ t x, op = .load t x
  · obtain ⟨t, x, rfl⟩ := hl
    delta opE at h ⊢
    dsimp only at h ⊢
    cases ht : τ.ti t with
    | none => rw [ht] at h; exact h.elim
    | some ti =>
      rw [ht] at h
      obtain ⟨v, hv, hk⟩ := h
      exact ⟨v, hk, ⟨v, hv, rfl⟩, fun hn => absurd rfl (hn t x)⟩
  · obtain ⟨o, ho⟩ := asks_op (τ := τ) (P := P) (ρ := ρ) hq (fun t x e => hl ⟨t, x, e⟩)
    obtain ⟨v, hv, hk⟩ := (ho H k).1 h
    exact ⟨v, hk, (ho H _).2 ⟨v, hv, rfl⟩, fun _ H' => (ho H' _).2 ⟨v, hv, rfl⟩⟩
def liftP (pend : List (Nat × (Heap → Prop))) : List (Nat × (World → Prop)) := pend.map fun p => (p.1, fun w => p.2 w.hp)

theorem edgeB_eq {ops : List Oper} {j : Nat} {o : Oper} (ho : ops[j]? = some o) (i : Nat) : hasEdge ops.toArray j i = edgeB o i := by
  unfold hasEdge edgeB
  rw [List.getElem?_toArray, ho, Option.any_some]
  simp
theorem pendF_lift {ops : List Oper} {j : Nat} {o : Oper} (ho : ops[j]? = some o) : ∀ (pend : List (Nat × (Heap → Prop))),
    (liftP pend).filter (fun p => !hasEdge ops.toArray j p.1) = liftP (pendF o pend)
  | [] => rfl
  | p :: l => by
    have ih := pendF_lift ho l
    simp only [liftP, List.map_cons, List.filter_cons, edgeB_eq ho, pendF] at ih ⊢
    cases he : edgeB o p.1
    · simp only [Bool.not_false, if_true, List.map_cons]; rw [← ih]
    · simp only [Bool.not_true, Bool.false_eq_true, if_false]; rw [← ih]
theorem pendE_spec {o : Oper} {H : Heap} {K : Prop} : ∀ {pend : List (Nat × (Heap → Prop))}, pendE o H K pend → K ∧ ∀ p ∈ pend, edgeB o p.1 = false → p.2 H
  | [], h => ⟨h, by simp⟩
  | p :: l, h => by
    simp only [pendE] at h
    cases he : edgeB o p.1
    · simp only [he] at h
      obtain ⟨h1, h2⟩ := pendE_spec h.2
      refine ⟨h1, fun q hq hqe => ?_⟩
      rcases List.mem_cons.1 hq with rfl | hq
      · exact h.1
      · exact h2 q hq hqe
    · simp only [he] at h
      obtain ⟨h1, h2⟩ := pendE_spec h
      refine ⟨h1, fun q hq hqe => ?_⟩
      rcases List.mem_cons.1 hq with rfl | hq
      · rw [he] at hqe; cases hqe
      · exact h2 q hq hqe
theorem pendF_mem {o : Oper} : ∀ {pend : List (Nat × (Heap → Prop))} {p : Nat × (Heap → Prop)}, p ∈ pendF o pend → p ∈ pend ∧ edgeB o p.1 = false
  | [], _, h => by cases h
  | q :: l, p, h => by
    simp only [pendF] at h
    cases he : edgeB o q.1
    · simp only [he] at h
      rcases List.mem_cons.1 h with rfl | h
      · exact ⟨List.mem_cons_self, he⟩
      · exact ⟨List.mem_cons_of_mem _ (pendF_mem h).1, (pendF_mem h).2⟩
    · simp only [he] at h
      exact ⟨List.mem_cons_of_mem _ (pendF_mem h).1, (pendF_mem h).2⟩
theorem liftP_true {pend : List (Nat × (Heap → Prop))} {w : World} (h : ∀ p ∈ pend, p.2 w.hp) : ∀ p ∈ liftP pend, p.2 w := by
  intro p hp
  obtain ⟨q, hq, rfl⟩ := List.mem_map.1 hp
  exact h q hq
theorem pend_of_lift {pend : List (Nat × (Heap → Prop))} {ops : List Oper} {j : Nat} {o : Oper} {w : World} (ho : ops[j]? = some o) (h : ∀ p ∈ pend, edgeB o p.1 = false → p.2 w.hp) :
    ∀ p ∈ liftP pend, hasEdge ops.toArray j p.1 = false → p.2 w := by
  intro p hp he
  obtain ⟨q, hq, rfl⟩ := List.mem_map.1 hp
  rw [edgeB_eq ho] at he
  exact h q hq he

/-- An operation that may write, carried out next. -/
theorem eff_wp (hτ : TabOK P τ) {ops : List Oper} {Q : Exit → Act → World → Prop} {d : List Deferred} {i : Nat} {o : Oper} (ho : ops[i]? = some o) (hq : quietOp o.op = false)
    {K : List (Nat × (Heap → Prop)) → List Value → Heap → Prop} {fuel : Nat} {listed : Array Bool} {pend : List (Nat × (Heap → Prop))} {l : List Value} {w : World}
    (hK : ∀ pend l w, (∀ p ∈ pend, p.2 w.hp) → K pend l w.hp → wpP r P ops.toArray Q fuel (listed.setIfInBounds i true) (liftP pend) (actL l d) w)
    (hP : ∀ p ∈ pend, p.2 w.hp) (h : oneE τ P ops i K pend l w.hp) :
    wpOpIn (Fr r) 0 P ops.toArray Q i (fun a' w' => (∀ p ∈ liftP pend, hasEdge ops.toArray i p.1 = false → p.2 w') ∧
      wpP r P ops.toArray Q fuel (listed.setIfInBounds i true) ((liftP pend).filter fun p => !hasEdge ops.toArray i p.1) a' w') (actL l d) w := by
  unfold oneE at h
  rw [ho] at h
  simp only [hq] at h
  rw [pendF_lift ho]
  unfold wpOpIn
  rw [List.getElem?_toArray, ho]
  dsimp only
  rcases guardE_spec (d := d) (o := o) h with ⟨hw, h⟩ | ⟨hw, h⟩
  · rw [if_pos hw]
    refine Oper.wpIn_mono ?_ (opE_wp hτ (by rw [eval_actL]; exact h) Q)
    rintro a' w' ⟨v, rfl, hv⟩
    obtain ⟨h1, h2⟩ := pendE_spec hv
    rw [put_actL]
    exact ⟨pend_of_lift ho h2, hK _ _ _ (fun p hp => h2 p (pendF_mem hp).1 (pendF_mem hp).2) h1⟩
  · rw [if_neg (by rw [hw]; exact Bool.false_ne_true)]
    refine ⟨fun _ _ => trivial, ?_⟩
    rw [put_actL]
    exact ⟨pend_of_lift ho (fun p hp _ => hP p hp), hK _ _ _ (fun p hp => hP p (pendF_mem hp).1) h⟩

theorem planE_wp (hτ : TabOK P τ) {ops : List Oper} {K : List Value → Heap → Prop} {Q : Exit → Act → World → Prop} {d : List Deferred}
    (hpl : ∀ (j : Nat) (o : Oper), ops.toArray[j]? = some o → plainOp o = true) (hQ : ∀ c a w, ¬ Q (.panic c) a w)
    (hK : ∀ l w, K l w.hp → Q .normal (actL l d) w) : ∀ (pl : Pl) (fuel : Nat) (listed : Array Bool) (pend : List (Nat × (Heap → Prop))) (l : List Value) (w : World),
    planOK ops.toArray pl fuel listed = true → (∀ p ∈ pend, p.2 w.hp) → planE τ P ops K pl pend l w.hp → wpP r P ops.toArray Q fuel listed (liftP pend) (actL l d) w
  | .nil, fuel, listed, pend, l, w, hc, _, h => wpP_done (by simpa [planOK] using hc) (hK l w h) fuel
  | .one i p, 0, listed, pend, l, w, hc, _, h => by cases hc
  | .one i p, fuel + 1, listed, pend, l, w, hc, hP, h => by
    simp only [planOK, Bool.and_eq_true] at hc
    obtain ⟨hc1, hc2⟩ := hc
    split at hc1
    · rename_i o ho
      have ho' : ops[i]? = some o := by simpa using ho
      split at hc1
      · rename_i hq
        simp only [Bool.and_eq_true] at hc1
        have hr : i ∈ Region.ready .any ops.toArray listed := by simpa using hc1.1
        simp only [planE, oneE, ho', hq] at h
        rcases guardE_spec (d := d) (o := o) h with ⟨hw, h⟩ | ⟨hw, h⟩
        · obtain ⟨v, hk, h1, h2⟩ := quiet_val hq h
          have run : ∀ w' : World, (opE τ P o.op (evL l) w'.hp fun v' _ => v' = v) → (execOp (actL l d).eval o).run P w' = .ok (.value v) w' := by
            intro w' hw'
            have hnc : ∀ c f, o.op = .call c → c.callee = .value f → False := by
              intro c f e1 e2
              rw [e1] at hq
              obtain ⟨ce, as, ats⟩ := c
              dsimp only at e2
              subst e2
              exact Bool.false_ne_true hq
            obtain ⟨v1, w1, _, he, hrun⟩ := opE_value hτ hw' hnc
            rw [eval_actL, hrun hq, he]
          by_cases hl : ∃ t x, o.op = .load t x
          · obtain ⟨t, x, hl⟩ := hl
            refine wpP_first (S := fun w' => opE τ P o.op (evL l) w'.hp fun v' _ => v' = v) (v := v) ho hpl hQ fuel listed (liftP pend) (actL l d) w (Region.free_spec ho hc1.2) hr
              (.inl ⟨hw, fun w' hw' => run w' hw'⟩) h1 (liftP_true hP) ?_
            rw [put_actL]
            have hadd : addP τ P i o.op (evL l) v pend = (i, fun H' => opE τ P o.op (evL l) H' fun v' _ => v' = v) :: pend := by rw [hl]; rfl
            rw [hadd] at hk
            refine planE_wp hτ hpl hQ hK p fuel _ _ _ w hc2 ?_ hk
            intro q hq'
            rcases List.mem_cons.1 hq' with rfl | hq'
            · exact h1
            · exact hP q hq'
          · have hl' : ∀ t x, o.op ≠ .load t x := fun t x e => hl ⟨t, x, e⟩
            refine wpP_first (S := fun _ => True) (v := v) ho hpl hQ fuel listed (liftP pend) (actL l d) w (Region.free_spec ho hc1.2) hr
              (.inl ⟨hw, fun w' _ => run w' (h2 hl' w'.hp)⟩) trivial (liftP_true hP) ?_
            rw [put_actL]
            have hadd : addP τ P i o.op (evL l) v pend = pend := by
              unfold addP
              split
              · rename_i e; exact absurd e (hl' _ _)
              · rfl
            rw [hadd] at hk
            refine wpP_weak _ _ (liftP pend) _ _ _ ?_ (planE_wp hτ hpl hQ hK p fuel _ _ _ w hc2 hP hk)
            intro q hq'
            rcases List.mem_cons.1 hq' with rfl | hq'
            · exact .inr fun _ => trivial
            · exact .inl hq'
        · refine wpP_first (S := fun _ => True) (v := undef) ho hpl hQ fuel listed (liftP pend) (actL l d) w (Region.free_spec ho hc1.2) hr
            (.inr ⟨hw, rfl⟩) trivial (liftP_true hP) ?_
          rw [put_actL]
          refine wpP_weak _ _ (liftP pend) _ _ _ ?_ (planE_wp hτ hpl hQ hK p fuel _ _ _ w hc2 hP h)
          intro q hq'
          rcases List.mem_cons.1 hq' with rfl | hq'
          · exact .inr fun _ => trivial
          · exact .inl hq'
      · rename_i hq
        have hr : Region.ready .any ops.toArray listed = [i] := by simpa using hc1
        refine ⟨fun h0 => (by rw [hr] at h0; cases h0), fun j hj => ?_⟩
        rw [hr] at hj
        rcases List.mem_singleton.1 hj with rfl
        exact eff_wp hτ ho' hq (fun pend l w hp hk => planE_wp hτ hpl hQ hK p fuel _ _ _ w hc2 hp hk) hP h
    · cases hc1
  | .two i p j q, 0, listed, pend, l, w, hc, _, h => by cases hc
  | .two i p j q, fuel + 1, listed, pend, l, w, hc, hP, h => by
    simp only [planOK, Bool.and_eq_true] at hc
    obtain ⟨⟨hc1, hc2⟩, hc3⟩ := hc
    split at hc1
    · rename_i oi oj hoi hoj
      simp only [Bool.and_eq_true, Bool.not_eq_true', beq_iff_eq] at hc1
      have hoi' : ops[i]? = some oi := by simpa using hoi
      have hoj' : ops[j]? = some oj := by simpa using hoj
      obtain ⟨h1, h2⟩ := h
      refine ⟨fun h0 => (by rw [hc1.2] at h0; cases h0), fun k hk => ?_⟩
      rw [hc1.2] at hk
      rcases List.mem_cons.1 hk with rfl | hk
      · exact eff_wp hτ hoi' hc1.1.1 (fun pend l w hp hk => planE_wp hτ hpl hQ hK p fuel _ _ _ w hc2 hp hk) hP h1
      · rcases List.mem_singleton.1 hk with rfl
        exact eff_wp hτ hoj' hc1.1.2 (fun pend l w hp hk => planE_wp hτ hpl hQ hK q fuel _ _ _ w hc3 hp hk) hP h2
    · cases hc1
end
end Go.Hc
