/- Of lists as the laws make them: what the walk over the pairs finds. -/
import Derived.Test.YtbchcnmghcmaoaaS10F
set_option linter.unusedSimpArgs false
set_option linter.unusedVariables false
namespace Go.Hc
open Go

/-- lists as the laws make them -/
structure Rise (l : List Pkt) : Prop where
  few : l.length ≤ 40
  each : ∀ p ∈ l, 0 ≤ p.num ∧ p.num ≤ 200 ∧ 0 ≤ p.time ∧ p.time ≤ 1099511627776 ∧ p.size = 100
  up : l.Pairwise fun a b => a.num < b.num ∧ a.time ≤ b.time
theorem Rise.sub {l m : List Pkt} (h : Rise l) (hs : m.Sublist l) : Rise m :=
  ⟨Nat.le_trans hs.length_le h.few, fun p hp => h.each p (hs.subset hp), h.up.sublist hs⟩
theorem Rise.check {l : List Pkt} (h : Rise l) : checkE l = 0 := by
  have hok : okL l = true := okL_of fun k hk => okP_spec.2 (by
    obtain ⟨h1, h2, h3, h4, h5⟩ := h.each _ (List.getElem_mem hk)
    refine ⟨?_, by omega, h3, by omega, by omega, by omega⟩
    unfold lastN
    split
    · omega
    · rw [getDP (by omega)]
      exact (List.pairwise_iff_getElem.1 h.up (k - 1) k (by omega) hk (by omega)).1)
  have := h.few
  unfold checkE
  rw [if_neg (by omega), if_pos hok]
theorem Rise.period {l : List Pkt} (h : Rise l) {rs : List Rng} {first : Int} (hf : 0 ≤ first ∧ first ≤ 9007199254740991) : period rs first l = perS rs first l := if_pos ⟨h.check, hf⟩
/-- what the walk over the pairs finds, and that it is the greatest -/
def Finds (s : Per) (Q : Pkt → Pkt → Prop) : Prop :=
  (s.2.2.2 = false → s = (0, 0, 0, false) ∧ ∀ a b, ¬ Q a b) ∧ (s.2.2.2 = true → (∃ a b, Q a b ∧ s = (b.time - a.time, a.num, b.num, true)) ∧ ∀ a b, Q a b → b.time - a.time ≤ s.1)
theorem Finds.keep {s : Per} {Q : Pkt → Pkt → Prop} (h : Finds s Q) (a b : Pkt) : Finds (keepS s a b) fun x y => Q x y ∨ (x = a ∧ y = b) := by
  unfold keepS
  by_cases hc : s.2.2.2 = false ∨ s.1 < b.time - a.time
  · rw [if_pos hc]
    refine ⟨fun h => (by cases h), fun _ => ⟨⟨a, b, .inr ⟨rfl, rfl⟩, rfl⟩, ?_⟩⟩
    rintro x y (hq | ⟨rfl, rfl⟩)
    · cases hs : s.2.2.2 with
      | false => exact absurd hq ((h.1 hs).2 x y)
      | true =>
        have := (h.2 hs).2 x y hq
        rw [hs] at hc
        simp at hc; omega
    · exact Int.le_refl _
  · rw [if_neg hc]
    have hs : s.2.2.2 = true := by cases hs : s.2.2.2 with
      | false => exact absurd (.inl hs) hc
      | true => rfl
    refine ⟨fun h => (by rw [hs] at h; cases h), fun _ => ⟨?_, ?_⟩⟩
    · obtain ⟨x, y, hq, e⟩ := (h.2 hs).1
      exact ⟨x, y, .inl hq, e⟩
    · rintro x y (hq | ⟨rfl, rfl⟩)
      · exact (h.2 hs).2 x y hq
      · have : ¬ s.1 < y.time - x.time := fun h => hc (.inr h)
        omega
theorem Finds.congr {s : Per} {Q Q' : Pkt → Pkt → Prop} (h : Finds s Q) (e : ∀ a b, Q a b ↔ Q' a b) : Finds s Q' :=
  ⟨fun hs => ⟨(h.1 hs).1, fun a b hq => (h.1 hs).2 a b ((e a b).2 hq)⟩, fun hs => ⟨by obtain ⟨x, y, hq, e2⟩ := (h.2 hs).1; exact ⟨x, y, (e x y).1 hq, e2⟩, fun a b hq => (h.2 hs).2 a b ((e a b).2 hq)⟩⟩
theorem Finds.inner {ok : Pkt → Pkt → Bool} {a : Pkt} : ∀ {l : List Pkt} {s : Per} {Q : Pkt → Pkt → Prop}, Finds s Q → Finds (innerF keepS ok a l s) fun x y => Q x y ∨ (x = a ∧ y ∈ l ∧ ok a y = true)
  | [], s, Q, h => h.congr fun x y => by simp
  | b :: l, s, Q, h => by
    show Finds (innerF keepS ok a l (if ok a b then keepS s a b else s)) _
    by_cases hb : ok a b = true
    · rw [if_pos hb]
      refine ((h.keep a b).inner (l := l)).congr fun x y => ?_
      constructor
      · rintro ((h1 | ⟨rfl, rfl⟩) | ⟨rfl, h2, h3⟩)
        · exact .inl h1
        · exact .inr ⟨rfl, by simp, hb⟩
        · exact .inr ⟨rfl, by simp [h2], h3⟩
      · rintro (h1 | ⟨rfl, h2, h3⟩)
        · exact .inl (.inl h1)
        · rcases List.mem_cons.1 h2 with rfl | h2
          · exact .inl (.inr ⟨rfl, rfl⟩)
          · exact .inr ⟨rfl, h2, h3⟩
    · rw [if_neg hb]
      refine (h.inner (l := l)).congr fun x y => ?_
      constructor
      · rintro (h1 | ⟨rfl, h2, h3⟩)
        · exact .inl h1
        · exact .inr ⟨rfl, by simp [h2], h3⟩
      · rintro (h1 | ⟨rfl, h2, h3⟩)
        · exact .inl h1
        · rcases List.mem_cons.1 h2 with rfl | h2
          · exact absurd h3 hb
          · exact .inr ⟨rfl, h2, h3⟩
/-- a pair, the first one ahead -/
def PairIn (ok : Pkt → Pkt → Bool) : List Pkt → Pkt → Pkt → Prop
  | [], _, _ => False
  | a :: l, x, y => (x = a ∧ y ∈ l ∧ ok a y = true) ∨ PairIn ok l x y
theorem Finds.outer {ok : Pkt → Pkt → Bool} : ∀ {l : List Pkt} {s : Per} {Q : Pkt → Pkt → Prop}, Finds s Q → Finds (outerF keepS ok l s) fun x y => Q x y ∨ PairIn ok l x y
  | [], s, Q, h => h.congr fun x y => by simp [PairIn]
  | a :: l, s, Q, h => by
    refine ((h.inner (ok := ok) (a := a) (l := l)).outer (l := l)).congr fun x y => ?_
    simp only [PairIn]; exact or_assoc
theorem perS_finds (rs : List Rng) (first : Int) (l : List Pkt) : Finds (perS rs first l) (PairIn (pairOK rs first) l) := by
  have h0 : Finds (0, 0, 0, false) (fun _ _ => False) := ⟨fun _ => ⟨rfl, fun _ _ h => h⟩, fun h => by cases h⟩
  exact (h0.outer (ok := pairOK rs first) (l := l)).congr fun x y => by simp
theorem PairIn.mono {ok ok' : Pkt → Pkt → Bool} (hk : ∀ a b, ok a b = true → ok' a b = true) {x y : Pkt} : ∀ {l m : List Pkt}, l.Sublist m → PairIn ok l x y → PairIn ok' m x y
  | _, _, .slnil, h => h
  | _, _, .cons b hs, h => .inr (PairIn.mono hk hs h)
  | _, _, .cons_cons a hs, h => h.elim (fun h => .inl ⟨h.1, hs.subset h.2.1, hk _ _ h.2.2⟩) fun h => .inr (PairIn.mono hk hs h)
theorem PairIn.mem {ok : Pkt → Pkt → Bool} {x y : Pkt} : ∀ {l : List Pkt}, PairIn ok l x y → x ∈ l ∧ y ∈ l ∧ ok x y = true
  | _ :: _, .inl ⟨e, h1, h2⟩ => ⟨by simp [e], by simp [h1], e ▸ h2⟩
  | _ :: _, .inr h => ⟨by simp [h.mem.1], by simp [h.mem.2.1], h.mem.2.2⟩
/-- of more pairs the greatest is not less -/
theorem Finds.le {s t : Per} {Q Q' : Pkt → Pkt → Prop} (h : Finds s Q) (h' : Finds t Q') (hq : ∀ a b, Q a b → Q' a b) : s.2.2.2 = true → t.2.2.2 = true ∧ s.1 ≤ t.1 := fun hs => by
  obtain ⟨⟨a, b, hab, e⟩, _⟩ := h.2 hs
  have ht : t.2.2.2 = true := by cases ht : t.2.2.2 with
    | false => exact absurd (hq _ _ hab) ((h'.1 ht).2 a b)
    | true => rfl
  refine ⟨ht, ?_⟩
  have := (h'.2 ht).2 a b (hq _ _ hab)
  rw [e]; exact this
theorem betw_iff {rs : List Rng} (h : Okr rs) {a b : Pkt} : betw rs a b = true ↔ ∃ n, a.num < n ∧ n < b.num ∧ Mem rs n := by
  unfold betw
  rw [List.any_eq_true]
  constructor
  · rintro ⟨r, hr, hd⟩
    have := h.each r hr
    simp only [decide_eq_true_eq] at hd
    exact ⟨max r.1 (a.num + 1), by omega, by omega, r, hr, by omega, by omega⟩
  · rintro ⟨n, h1, h2, r, hr, h3, h4⟩
    exact ⟨r, hr, by simp only [decide_eq_true_eq]; omega⟩
theorem pairOK_mono {rs rs' : List Rng} (h : Okr rs) (h' : Okr rs') (hm : ∀ n, Mem rs' n → Mem rs n) {first : Int} {a b : Pkt} (hp : pairOK rs first a b = true) : pairOK rs' first a b = true := by
  unfold pairOK at hp ⊢
  simp only [Bool.and_eq_true, Bool.not_eq_true'] at hp ⊢
  refine ⟨hp.1, hp.2.1, hp.2.2.1, ?_⟩
  cases hb : betw rs' a b with
  | false => rfl
  | true =>
    obtain ⟨n, h1, h2, h3⟩ := (betw_iff h').1 hb
    have := (betw_iff h).2 ⟨n, h1, h2, hm n h3⟩
    rw [hp.2.2.2] at this; cases this
/-- what is not to be acknowledged does not count -/
theorem inner_el {ok : Pkt → Pkt → Bool} (hk : ∀ a b, ok a b = true → b.el = true) {a : Pkt} : ∀ {l : List Pkt} {s : Per}, innerF keepS ok a (l.filter (·.el)) s = innerF keepS ok a l s
  | [], _ => rfl
  | b :: l, s => by
    cases hb : b.el with
    | true => rw [List.filter_cons_of_pos hb]; exact inner_el hk
    | false =>
      rw [List.filter_cons_of_neg (by simp [hb])]
      have : ¬ ok a b = true := fun h => by rw [hk a b h] at hb; cases hb
      show _ = innerF keepS ok a l (if ok a b then keepS s a b else s)
      rw [if_neg this]; exact inner_el hk
theorem inner_no {ok : Pkt → Pkt → Bool} {a : Pkt} {s : Per} : ∀ {l : List Pkt}, (∀ b ∈ l, ok a b = false) → innerF keepS ok a l s = s
  | [], _ => rfl
  | b :: l, h => by
    show innerF keepS ok a l (if ok a b then keepS s a b else s) = s
    rw [h b (by simp)]
    exact inner_no fun b hb => h b (by simp [hb])
theorem outer_el {ok : Pkt → Pkt → Bool} (hk : ∀ a b, ok a b = true → a.el = true ∧ b.el = true) : ∀ {l : List Pkt} {s : Per}, outerF keepS ok (l.filter (·.el)) s = outerF keepS ok l s
  | [], _ => rfl
  | a :: l, s => by
    cases ha : a.el with
    | true =>
      rw [List.filter_cons_of_pos ha]
      show outerF keepS ok (l.filter (·.el)) (innerF keepS ok a (l.filter (·.el)) s) = outerF keepS ok l (innerF keepS ok a l s)
      rw [inner_el fun a b h => (hk a b h).2]; exact outer_el hk
    | false =>
      rw [List.filter_cons_of_neg (by simp [ha])]
      show _ = outerF keepS ok l (innerF keepS ok a l s)
      rw [inner_no fun b _ => by
        cases h : ok a b with
        | false => rfl
        | true => rw [(hk a b h).1] at ha; cases ha]
      exact outer_el hk
theorem pairOK_el {rs : List Rng} {first : Int} (a b : Pkt) (h : pairOK rs first a b = true) : a.el = true ∧ b.el = true := by
  unfold pairOK cntP at h
  simp only [Bool.and_eq_true] at h
  exact ⟨h.1.1, h.2.1.1⟩
theorem perS_el {rs : List Rng} {first : Int} {l : List Pkt} : perS rs first (l.filter (·.el)) = perS rs first l := outer_el pairOK_el
/-- the last one that can be come to -/
def lastF (rs : List Rng) (a : Pkt) : List Pkt → Option Pkt → Option Pkt
  | [], cur => cur
  | b :: l, cur => if betw rs a b then cur else lastF rs a l (if b.el = true ∧ (∀ c, cur = some c → c.time < b.time) then some b else cur)
def comb (s : Per) (a : Pkt) : Option Pkt → Per
  | none => s
  | some b => keepS s a b
theorem comb_next {s : Per} {a b : Pkt} {cur : Option Pkt} : keepS (comb s a cur) a b = comb s a (if ∀ c, cur = some c → c.time < b.time then some b else cur) := by
  cases cur with
  | none => rw [if_pos (by simp)]; rfl
  | some c =>
    obtain ⟨s1, s2, s3, s4⟩ := s
    by_cases h : c.time < b.time
    · rw [if_pos (fun d hd => by cases hd; exact h)]
      simp only [comb, keepS]
      cases s4 <;> simp
      · intro h; omega
      · split
        · simp; split <;> simp <;> omega
        · simp
    · rw [if_neg (fun hc => h (hc c rfl))]
      simp only [comb, keepS]
      cases s4 <;> simp
      · omega
      · split
        · simp; omega
        · simp; omega
theorem inner_last {rs : List Rng} {first : Int} (hr : Okr rs) {a : Pkt} (ha : cntP first a = true) {s : Per} : ∀ {l : List Pkt} {cur : Option Pkt}, (a :: l).Pairwise (fun a b => a.num < b.num ∧ a.time ≤ b.time) →
    innerF keepS (pairOK rs first) a l (comb s a cur) = comb s a (lastF rs a l cur)
  | [], _, _ => rfl
  | b :: l, cur, hp => by
    have hp1 := List.pairwise_cons.1 hp
    have hp2 := List.pairwise_cons.1 hp1.2
    have hab := hp1.1 b (by simp)
    have htail : (a :: l).Pairwise (fun a b => a.num < b.num ∧ a.time ≤ b.time) := List.pairwise_cons.2 ⟨fun x hx => hp1.1 x (by simp [hx]), hp2.2⟩
    show innerF keepS _ a l (if pairOK rs first a b then keepS (comb s a cur) a b else comb s a cur) = comb s a (if betw rs a b then cur else lastF rs a l (if b.el = true ∧ (∀ c, cur = some c → c.time < b.time) then some b else cur))
    by_cases hb : betw rs a b = true
    · rw [if_pos hb, if_neg (by unfold pairOK; rw [hb]; simp)]
      refine inner_no fun c hc => ?_
      obtain ⟨n, h1, h2, h3⟩ := (betw_iff hr).1 hb
      have : betw rs a c = true := (betw_iff hr).2 ⟨n, h1, by have := hp2.1 c hc; omega, h3⟩
      unfold pairOK; rw [this]; simp
    · rw [if_neg hb]
      have ha' := ha
      unfold cntP at ha'
      simp only [Bool.and_eq_true, decide_eq_true_eq] at ha'
      have hok : pairOK rs first a b = b.el := by
        unfold pairOK; rw [ha]
        unfold cntP
        rw [decide_eq_true (show first < b.time by omega), decide_eq_true hab.2, show betw rs a b = false by simpa using hb]; simp
      rw [hok]
      cases hel : b.el with
      | false =>
        rw [if_neg (by simp), if_neg (by simp)]
        exact inner_last hr ha htail
      | true =>
        simp only [if_true, true_and]
        rw [comb_next]
        exact inner_last hr ha htail
/-- the statement's own search -/
def bestF (rs : List Rng) (first : Int) : List Pkt → Per → Per
  | [], s => s
  | a :: l, s => bestF rs first l (if cntP first a = true then comb s a (lastF rs a l none) else s)
theorem best_eq {rs : List Rng} {first : Int} (hr : Okr rs) : ∀ {l : List Pkt} {s : Per}, l.Pairwise (fun a b => a.num < b.num ∧ a.time ≤ b.time) → outerF keepS (pairOK rs first) l s = bestF rs first l s
  | [], _, _ => rfl
  | a :: l, s, hp => by
    show outerF keepS _ l (innerF keepS _ a l s) = bestF rs first l _
    by_cases ha : cntP first a = true
    · rw [if_pos ha]
      have := inner_last (s := s) hr ha (cur := none) hp
      have e : comb s a none = s := rfl
      rw [e] at this; rw [this]
      exact best_eq hr (List.pairwise_cons.1 hp).2
    · rw [if_neg ha, inner_no fun b _ => by unfold pairOK; rw [show cntP first a = false by simpa using ha]; rfl]
      exact best_eq hr (List.pairwise_cons.1 hp).2
end Go.Hc
