/- The heap calculus, part E: what is built; append, copy, clear. -/
import Derived.Test.YtbchcnmghcmaoaaHcD
set_option linter.unusedSimpArgs false
set_option linter.unusedVariables false
namespace Go.Hc
open Go

theorem arange0 : Array.range 0 = #[] := rfl
theorem repZ_size (zero : Array Value) (n : Nat) : (repZ zero n).size = n * zero.size := by
  simp [repZ, List.length_flatten]
theorem repZ_get (zero : Array Value) : ∀ (n i : Nat), i < n * zero.size → (repZ zero n)[i]? = zero[i % zero.size]?
  | 0, i, h => by simp at h
  | n + 1, i, h => by
    have e : (repZ zero (n + 1)).toList = zero.toList ++ (repZ zero n).toList := by simp [repZ, List.replicate_succ]
    have e2 : (repZ zero (n + 1))[i]? = (zero.toList ++ (repZ zero n).toList)[i]? := by rw [← e]; simp
    rw [e2]
    by_cases hi : i < zero.size
    · rw [List.getElem?_append_left (by simpa using hi), Nat.mod_eq_of_lt hi]; simp
    · rw [List.getElem?_append_right (by simpa using hi)]
      have h2 := repZ_get zero n (i - zero.size) (by rw [Nat.succ_mul] at h; have := Nat.lt_of_lt_of_le h (Nat.le_refl _); generalize n * zero.size = q at *; omega)
      simp only [Array.length_toList, Array.getElem?_toList]
      rw [h2, Nat.mod_eq_sub_mod (a := i) (by omega)]
theorem range_rep (zero : Array Value) (n : Nat) : (Array.range (n * zero.size)).map (zero[· % zero.size]!) = repZ zero n := by
  apply Array.ext_getElem?; intro i
  by_cases h : i < n * zero.size
  · rw [repZ_get zero n i h]
    have h0 : 0 < zero.size := by
      rcases Nat.eq_zero_or_pos zero.size with h0 | h0
      · rw [h0] at h; simp at h
      · exact h0
    have hz : i % zero.size < zero.size := Nat.mod_lt _ h0
    rw [Array.getElem?_map, Array.getElem?_range, if_pos h]
    simp [hz]
  · rw [Array.getElem?_eq_none (by simp; omega), Array.getElem?_eq_none (by rw [repZ_size]; omega)]
theorem zeroCells_rep (zero : Array Value) (n : Nat) : Builtin.zeroCells zero n = repZ zero n := range_rep zero n

theorem zipIdx_splice (l : List Value) : ∀ (c : Array Value) (off j : Nat),
    (l.zipIdx j).foldl (fun cs (p : Value × Nat) => cs.setIfInBounds (off + p.2) p.1) c = splice c (off + j) l := by
  induction l with
  | nil => intro c off j; rfl
  | cons v l ih => intro c off j; simp only [List.zipIdx_cons, List.foldl_cons, splice]; rw [ih]; rfl
theorem fold_splice (vs c : Array Value) (off : Nat) : vs.zipIdx.foldl (fun cs (p : Value × Nat) => cs.setIfInBounds (off + p.2) p.1) c = splice c off vs.toList := by
  rw [← Array.foldl_toList, Array.toList_zipIdx, zipIdx_splice]; rfl
theorem fill_of {place : Nat → Option (Nat × Nat)} : ∀ (parts : List (Nat × Value)) (c cs : Array Value), fillA place c parts = some cs → Instr.fill place c parts = some cs
  | [], c, cs, h => h
  | (i, v) :: rest, c, cs, h => by
    simp only [fillA] at h
    simp only [Instr.fill]
    split at h
    · rename_i off sz hp
      split at h
      · rename_i hh
        have h1 : (v.cells.size ≠ sz || decide (off + v.cells.size > c.size)) = false := by simp [hh.1]; omega
        rw [hp]
        simp only [h1, Bool.false_eq_true, if_false]
        exact fill_of rest _ cs (by rw [fold_splice]; exact h)
      · cases h
    · cases h

theorem a0 {α : Type} (x y : α) : (#[x, y] : Array α)[0]? = some x := rfl
theorem a1 {α : Type} (x y : α) : (#[x, y] : Array α)[1]? = some y := rfl
section
variable {P : Program} {w : World}
theorem build_run_arr {t e : TypeId} {i ie : TypeInfo} {z : Value} {n : Nat} {parts : Array (Nat × Value)} {v : Value}
    (hi : P.info? t = some i) (hz : i.zero = some z) (hd : P.underlying t = some (.array n e)) (he : P.info? e = some ie) (h : buildV z.cells (every ie.size) parts.toList = some v) :
    (Instr.build t parts).run P w = .ok v w := by
  unfold buildV at h
  split at h
  · rename_i cs hcs
    cases h
    have hf := fill_of _ _ _ hcs
    have hfun : (fun j => some (j * ie.size, ie.size)) = every ie.size := rfl
    simp only [Instr.build, Sem.run_bind, zero_run hi hz, under_run hd, size_run he, Result.andThen]
    rw [hfun, hf]
    simp [go_sem]
  · cases h
theorem build_run {t : TypeId} {i : TypeInfo} {z : Value} {fs : Array Field} {pl : List (Nat × Nat)} {parts : Array (Nat × Value)} {v : Value}
    (hi : P.info? t = some i) (hz : i.zero = some z) (hd : P.underlying t = some (.struct fs))
    (hp : fs.toList.mapM (fun f => (P.info? f.type).map fun j => (f.offset, j.size)) = some pl) (h : buildV z.cells (places pl) parts.toList = some v) :
    (Instr.build t parts).run P w = .ok v w := by
  have hpl : ∀ (l : List Field) (q : List (Nat × Nat)), l.mapM (fun f => (P.info? f.type).map fun j => (f.offset, j.size)) = some q →
      (l.mapM (m := Sem) fun f => do pure (f.offset, ← sizeOf f.type)).run P w = .ok q w := by
    intro l
    induction l with
    | nil => intro q hq; simp at hq; subst hq; simp [go_sem]
    | cons f l ih =>
      intro q hq
      simp only [List.mapM_cons] at hq ⊢
      cases hf : P.info? f.type with
      | none => simp [hf] at hq
      | some j =>
        simp only [hf, Option.map_some] at hq
        cases hl : l.mapM (fun f => (P.info? f.type).map fun j => (f.offset, j.size)) with
        | none => simp [hl] at hq
        | some q' =>
          simp [hl] at hq
          subst hq
          simp only [Sem.run_bind, size_run hf, Result.andThen, Sem.run_pure, ih q' hl]
  have h2 : (fs.mapM (m := Sem) fun f => do pure (f.offset, ← sizeOf f.type)).run P w = .ok pl.toArray w := by
    rw [Array.mapM_eq_mapM_toList, Sem.run_map, hpl _ _ hp]; rfl
  unfold buildV at h
  split at h
  · rename_i cs hcs
    cases h
    have hf := fill_of _ _ _ hcs
    have hfun : (fun x => pl.toArray[x]?) = places pl := by funext x; simp [places]
    simp only [Instr.build, Sem.run_bind, zero_run hi hz, under_run hd, Result.andThen, h2]
    rw [hfun, hf]
    simp [go_sem]
  · cases h
theorem bslE_run {t e : TypeId} {i : TypeInfo} {z : Value} {len : Nat} {parts : Array (Nat × Value)} {k : Value → Heap → Prop}
    (hd : P.underlying t = some (.slice e)) (hi : P.info? e = some i) (hz : i.zero = some z) (hs : z.cells.size = i.size) (h : bslE e z.cells i.size len parts.toList w.hp k) :
    ∃ v w', (Instr.buildSlice t len parts).run P w = .ok v w' ∧ k v w'.hp := by
  obtain ⟨hle, cs, hcs, hk⟩ := h
  have hf := fill_of _ _ _ hcs
  obtain ⟨w', h1, h2⟩ := newRow_run (P := P) (w := w) e cs
  refine ⟨_, w', ?_, by rw [h2]; exact hk⟩
  have hnot : ¬ (len * i.size > 2 ^ 24) := by omega
  have hev : (fun j => some (j * i.size, i.size)) = every i.size := rfl
  simp only [Instr.buildSlice, Sem.run_bind, under_run hd, size_run hi, Result.andThen, hnot, if_false]
  rw [hev]
  by_cases h0 : len * i.size = 0
  · have e0 : (repZ z.cells len).size = 0 := by rw [repZ_size, hs]; exact h0
    have e1 : repZ z.cells len = #[] := Array.eq_empty_of_size_eq_zero e0
    rw [e1] at hf
    simp only [h0, if_true, Sem.run_bind, Sem.run_pure, Result.andThen, arange0, Array.map_empty, hf, h1]
  · have e1 := range_rep z.cells len
    rw [hs] at e1
    simp only [h0, if_false, Sem.run_bind, zero_run hi hz, Sem.run_pure, Result.andThen, hs, e1, hf, h1]
theorem i64_wrap {n : Int} (h0 : 0 ≤ n) (h1 : n ≤ 2 ^ 48) : IntKind.i64.wrap n = n := by
  exact IntWalk.i64_in _ (by omega)
theorem ask_run (n : Nat) : (askRoom n).run P w = .ok () w := by
  unfold askRoom; split
  · simp [mark, Sem.run]
  · simp [go_sem]
theorem mslE_run {t e : TypeId} {i : TypeInfo} {z : Value} {l c : Value} {k : Value → Heap → Prop}
    (hd : P.underlying t = some (.slice e)) (hi : P.info? e = some i) (hz : i.zero = some z) (hs : z.cells.size = i.size) (h : mslE e z.cells i.bytes l c w.hp k) :
    ∃ v w', (Instr.makeSlice t l c).run P w = .ok v w' ∧ k v w'.hp := by
  unfold mslE at h
  split at h
  · rename_i k1 l k2 c
    obtain ⟨⟨h0, h1, h2, h3⟩, hk⟩ := h
    obtain ⟨w', e1, e2⟩ := newRow_run (P := P) (w := w) e (repZ z.cells c.toNat)
    refine ⟨_, w', ?_, by rw [e2]; exact hk⟩
    have wl := i64_wrap h0 (by omega)
    have wc := i64_wrap (n := c) (by omega) (by omega)
    have hc1 : ¬ c < 0 := by omega
    have hl1 : ¬ l < 0 := by omega
    have hlc : ¬ l > c := by omega
    have hb : ¬ ((i.bytes : Int) * c > 2 ^ 48) := by omega
    have hrep := range_rep z.cells c.toNat
    rw [hs] at hrep
    simp only [Instr.makeSlice, Sem.run_bind, under_run hd, info_run hi, asInt, asIntOf, Sem.run_pure, Result.andThen, wl, wc]
    simp only [hc1, hl1, hlc, hb, decide_false, Bool.or_false, Bool.false_eq_true, if_false, Sem.run_bind, ask_run, Result.andThen, size_run hi]
    by_cases h0 : c.toNat * i.size = 0
    · have e0 : (repZ z.cells c.toNat).size = 0 := by rw [repZ_size, hs]; exact h0
      have e3 : repZ z.cells c.toNat = #[] := Array.eq_empty_of_size_eq_zero e0
      rw [e3] at e1
      simp only [h0, if_true, Sem.run_bind, Sem.run_pure, Result.andThen, arange0, Array.map_empty, e1]
    · simp only [h0, if_false, Sem.run_bind, zero_run hi hz, Sem.run_pure, Result.andThen, hs, hrep, e1]
  · exact h.elim
theorem rdS_run {size n m cap : Nat} {a : Option Addr} {cs : Array Value} (h : rdS w.hp size n a = some cs) : (Builtin.firstCells size n (.slice a m cap)).run P w = .ok cs w := by
  unfold rdS at h
  split at h
  · cases h; simp [Builtin.firstCells, go_sem]
  · simp only [Builtin.firstCells, rdA_run h]
  · cases h
theorem growBy_le (n : Nat) : ∀ (r c : Nat), c ≤ 2 * n + 200 → Builtin.growBy n r c ≤ 2 * n + 200
  | 0, c, h => h
  | r + 1, c, h => by
    unfold Builtin.growBy
    split
    · exact h
    · exact growBy_le n r _ (by omega)
theorem nextcap_le {n c : Nat} (h : c < n) : Builtin.nextslicecap n c ≤ 2 * n + 200 := by
  unfold Builtin.nextslicecap
  split
  · omega
  · split
    · omega
    · exact growBy_le n 4 c (by omega)
theorem wrS_run {o : Nat} {l : List Value} {a : Option Addr} {H' : Heap} (h : wrS w.hp o l a = some H') :
    ∃ w', (match a with | none => (pure () : Sem Unit) | some a => storeCells (a.add o) l).run P w = .ok () w' ∧ w'.hp = H' := by
  unfold wrS at h
  split at h
  · cases h; exact ⟨w, by simp [go_sem], rfl⟩
  · obtain ⟨w', h1, h2⟩ := wrA_run (P := P) h
    exact ⟨w', by simp only [addr_add, h1], h2⟩
  · cases h
theorem choose_run (q : Question) (h : q.forced = false) : ∃ n, (choose q).run P w = .ok (q.cut n) { w with drawn := w.drawn + 1 } :=
  ⟨w.tape w.drawn q, by simp [choose, Sem.run, h]⟩
theorem appE_run {t t2 e e2 : TypeId} {ty : TypeId} {i : TypeInfo} {z s x : Value} {k : Value → Heap → Prop}
    (hd : P.underlying t = some (.slice e)) (hd2 : P.underlying t2 = some (.slice e2)) (hi : P.info? e = some i) (hz : i.zero = some z)
    (h : appE e z.cells i.size i.bytes s x w.hp k) :
    ∃ v w', (Builtin.append_ #[t, t2] ty #[s, x]).run P w = .ok v w' ∧ k v w'.hp := by
  unfold appE at h
  split at h
  · rename_i base n cap xb m xcap
    obtain ⟨new, hnew, h⟩ := h
    have r1 : ∀ {w' : World}, w'.hp = w.hp → (Builtin.firstCells i.size m (.slice xb m xcap)).run P w' = .ok new w' := fun {w'} hw => rdS_run (w := w') (by rw [hw]; exact hnew)
    split at h
    · rename_i hle
      obtain ⟨H', hw, hk⟩ := h
      obtain ⟨w', s1, s2⟩ := wrS_run (P := P) hw
      refine ⟨_, w', ?_, by rw [s2]; exact hk⟩
      simp only [Builtin.append_, a0, a1]
      simp only [Sem.run_bind, under_run hd, under_run hd2, size_run hi, Result.andThen, Sem.run_pure, Bool.false_eq_true, if_false, Builtin.lenOf, hle, if_true, Bool.not_false]
      rw [r1 rfl]
      cases base with
      | none => simp only [Sem.run_pure, Result.ok.injEq, true_and] at s1 ⊢; exact s1
      | some a => simp only [Sem.run_bind, s1, Result.andThen, Sem.run_pure]
    · rename_i hle
      obtain ⟨old, hold, ⟨hb, hb0⟩, hk⟩ := h
      have hn1 : n + m ≤ 2 ^ 48 := by
        have : 1 ≤ i.bytes := by omega
        have h2 : (2 * (n + m) + 200) * 1 ≤ (2 * (n + m) + 200) * i.bytes := Nat.mul_le_mul_left _ this
        omega
      have hcap := nextcap_le (n := n + m) (c := cap) (by omega)
      have hbig : ¬ (Builtin.nextslicecap (n + m) cap * i.bytes > 2 ^ 48) := by
        have := Nat.mul_le_mul_right i.bytes hcap
        omega
      obtain ⟨q, hq⟩ := choose_run (P := P) (w := w) (.appendCap (n + m) cap e) rfl
      have hc0 : n + m ≤ (Question.appendCap (n + m) cap e).cut q := by simp only [Question.cut]; omega
      have hc1 : (Question.appendCap (n + m) cap e).cut q < 2 ^ 63 := by
        simp only [Question.cut]
        have := Nat.mod_lt q (show 0 < 2 ^ 63 - (n + m) by omega)
        omega
      generalize (Question.appendCap (n + m) cap e).cut q = c at hq hc0 hc1
      obtain ⟨w', e1, e2⟩ := newRow_run (P := P) (w := { w with drawn := w.drawn + 1 }) e (old ++ new ++ repZ z.cells (c - (n + m)))
      refine ⟨_, w', ?_, by rw [e2]; exact hk c hc0 hc1⟩
      simp only [Builtin.append_, a0, a1]
      simp only [Sem.run_bind, under_run hd, under_run hd2, size_run hi, info_run hi, Result.andThen, Sem.run_pure, Bool.false_eq_true, if_false, Builtin.lenOf, hle, Bool.not_false, if_true]
      have hno' : ¬ ((((n + m : Nat) : Int) > IntKind.i64.max) ∧ (False ∨ i.bytes = 0)) := fun h => hb0 (h.2.resolve_left id)
      have r2 : ∀ {w' : World}, w'.hp = w.hp → (Builtin.firstCells i.size n (.slice base n cap)).run P w' = .ok old w' := fun {w'} hw => rdS_run (w := w') (by rw [hw]; exact hold)
      have r1' := r1 (w' := { w with drawn := w.drawn + 1 }) rfl
      have r2' := r2 (w' := { w with drawn := w.drawn + 1 }) rfl
      have e1 : (newRow e (old ++ new ++ repZ z.cells (c - (n + m)))).run P { w with drawn := w.drawn + 1 } = .ok ⟨w.hp.size, 0, none⟩ w' := e1
      simp only [hno', if_false, Sem.run_bind, info_run hi, Result.andThen, hbig, hq, ask_run, r1', r2', zero_run hi hz, zeroCells_rep, e1, Sem.run_pure]
  · exact h.elim
theorem appZE_run {t t2 e : TypeId} {ik : IntKind} {ty : TypeId} {i : TypeInfo} {z s x : Value} {k : Value → Heap → Prop}
    (hd : P.underlying t = some (.slice e)) (hd2 : P.underlying t2 = some (.int ik)) (hi : P.info? e = some i) (hz : i.zero = some z) (hs : z.cells.size = i.size)
    (h : appZE e z.cells i.size i.bytes s x w.hp k) :
    ∃ v w', (Builtin.append_ #[t, t2] ty #[s, x]).run P w = .ok v w' ∧ k v w'.hp := by
  unfold appZE at h
  split at h
  · rename_i base n cap xk j
    obtain ⟨⟨hj0, hj1, hj2⟩, h⟩ := h
    have wj : IntKind.i64.wrap j = j := i64_wrap hj0 hj1
    have hl : ¬ j < 0 := by omega
    have hb2 : ¬ (j * (i.bytes : Int) > 2 ^ 48) := by omega
    have hint : (match (TypeDesc.int ik : TypeDesc) with | .int _ => true | _ => false) = true := rfl
    have hnew : ∀ w' : World, Sem.run P (if j.toNat * i.size = 0 then (pure #[] : Sem (Array Value)) else do pure (Builtin.zeroCells (← zeroValue e).cells j.toNat)) w' = .ok (repZ z.cells j.toNat) w' := fun w' => by
      by_cases h0 : j.toNat * i.size = 0
      · have e0 : (repZ z.cells j.toNat).size = 0 := by rw [repZ_size, hs]; exact h0
        rw [if_pos h0, Array.eq_empty_of_size_eq_zero e0, Sem.run_pure]
      · rw [if_neg h0]
        simp only [Sem.run_bind, zero_run hi hz, Result.andThen, Sem.run_pure, zeroCells_rep]
    split at h
    · rename_i hle
      obtain ⟨H', hw, hk⟩ := h
      obtain ⟨w', s1, s2⟩ := wrS_run (P := P) hw
      refine ⟨_, w', ?_, by rw [s2]; exact hk⟩
      simp only [Builtin.append_, a0, a1]
      simp only [Sem.run_bind, under_run hd, under_run hd2, size_run hi, info_run hi, Result.andThen, Sem.run_pure, asInt, asIntOf, wj, hl, hb2, if_false, if_true, Bool.not_true, Bool.false_eq_true, hle]
      rw [hnew]
      cases base with
      | none => simp only [Sem.run_pure, Result.ok.injEq, true_and] at s1 ⊢; exact s1
      | some a => simp only [Sem.run_bind, s1, Result.andThen, Sem.run_pure]
    · rename_i hle
      obtain ⟨old, hold, ⟨hb, hb0⟩, hk⟩ := h
      have hn1 : n + j.toNat ≤ 2 ^ 48 := by
        have : 1 ≤ i.bytes := by omega
        have h2 : (2 * (n + j.toNat) + 200) * 1 ≤ (2 * (n + j.toNat) + 200) * i.bytes := Nat.mul_le_mul_left _ this
        omega
      have hcap := nextcap_le (n := n + j.toNat) (c := cap) (by omega)
      have hbig : ¬ (Builtin.nextslicecap (n + j.toNat) cap * i.bytes > 2 ^ 48) := by
        have := Nat.mul_le_mul_right i.bytes hcap
        omega
      obtain ⟨q, hq⟩ := choose_run (P := P) (w := w) (.appendCap (n + j.toNat) cap e) rfl
      have hc0 : n + j.toNat ≤ (Question.appendCap (n + j.toNat) cap e).cut q := by simp only [Question.cut]; omega
      have hc1 : (Question.appendCap (n + j.toNat) cap e).cut q < 2 ^ 63 := by
        simp only [Question.cut]
        have := Nat.mod_lt q (show 0 < 2 ^ 63 - (n + j.toNat) by omega)
        omega
      generalize (Question.appendCap (n + j.toNat) cap e).cut q = c at hq hc0 hc1
      obtain ⟨w', e1, e2⟩ := newRow_run (P := P) (w := { w with drawn := w.drawn + 1 }) e (old ++ repZ z.cells j.toNat ++ repZ z.cells (c - (n + j.toNat)))
      refine ⟨_, w', ?_, by rw [e2]; exact hk c hc0 hc1⟩
      have hmax : ¬ (((n + j.toNat : Nat) : Int) > IntKind.i64.max) := by
        have : IntKind.i64.max = 9223372036854775807 := by decide
        rw [this]; omega
      have r2 : ∀ {w' : World}, w'.hp = w.hp → (Builtin.firstCells i.size n (.slice base n cap)).run P w' = .ok old w' := fun {w'} hw => rdS_run (w := w') (by rw [hw]; exact hold)
      have r2' := r2 (w' := { w with drawn := w.drawn + 1 }) rfl
      have e1 : (newRow e (old ++ repZ z.cells j.toNat ++ repZ z.cells (c - (n + j.toNat)))).run P { w with drawn := w.drawn + 1 } = .ok ⟨w.hp.size, 0, none⟩ w' := e1
      simp only [Builtin.append_, a0, a1]
      simp only [Sem.run_bind, under_run hd, under_run hd2, size_run hi, info_run hi, Result.andThen, Sem.run_pure, asInt, asIntOf, wj, hl, hb2, if_false, if_true, Bool.not_true, Bool.false_eq_true, hle, hmax, false_and, hbig, hq, ask_run, r2']
      rw [hnew]
      simp only [Sem.run_bind, zero_run hi hz, Result.andThen, zeroCells_rep, e1, Sem.run_pure]
  · exact h.elim
theorem cpyE_run {t t2 e : TypeId} {ty : TypeId} {i : TypeInfo} {d s : Value} {k : Value → Heap → Prop}
    (hd : P.underlying t = some (.slice e)) (hi : P.info? e = some i) (h : cpyE i.size d s w.hp k) :
    ∃ v w', (Builtin.copy_ #[t, t2] ty #[d, s]).run P w = .ok v w' ∧ k v w'.hp := by
  unfold cpyE at h
  split at h
  · rename_i base n cap sb m cap2
    obtain ⟨cs, hcs, H', hw, hk⟩ := h
    obtain ⟨w', s1, s2⟩ := wrS_run (P := P) hw
    refine ⟨_, w', ?_, by rw [s2]; exact hk⟩
    have r0 : ((#[t, t2] : Array TypeId)[0]?, (#[Value.slice base n cap, Value.slice sb m cap2] : Array Value)[0]?, (#[Value.slice base n cap, Value.slice sb m cap2] : Array Value)[1]?) = (some t, some (Value.slice base n cap), some (Value.slice sb m cap2)) := rfl
    have r1 : (Builtin.firstCells i.size (Nat.min m n) (.slice sb m cap2)).run P w = .ok cs w := rdS_run hcs
    simp only [Builtin.copy_, r0]
    simp only [Sem.run_bind, under_run hd, Result.andThen, Builtin.lenOf, Sem.run_pure, size_run hi, r1]
    cases base with
    | none => simp only [Sem.run_pure, Result.ok.injEq, true_and, goInt] at s1 ⊢; exact s1
    | some a =>
      have : a.add 0 = a := by simp [Addr.add]
      have s1 : (storeCells a cs.toList).run P w = .ok () w' := by rw [← this]; exact s1
      simp only [Sem.run_bind, s1, Result.andThen, Sem.run_pure, goInt]
  · exact h.elim
theorem clrE_run {t e : TypeId} {ty : TypeId} {i : TypeInfo} {z x : Value} {k : Value → Heap → Prop}
    (hd : P.underlying t = some (.slice e)) (hi : P.info? e = some i) (hz : i.zero = some z) (h : clrE z.cells x w.hp k) :
    ∃ v w', (Builtin.clear_ #[t] ty #[x]).run P w = .ok v w' ∧ k v w'.hp := by
  unfold clrE at h
  have r0 : ∀ y : Value, ((#[t] : Array TypeId)[0]?, (#[y] : Array Value)[0]?) = (some t, some y) := fun _ => rfl
  split at h
  · refine ⟨_, w, ?_, h⟩
    simp only [Builtin.clear_, r0]
    simp [go_sem, under_run hd]
  · rename_i b o n cap
    split at h
    · rename_i h0; subst h0
      refine ⟨_, w, ?_, h⟩
      simp only [Builtin.clear_, r0]
      simp [go_sem, under_run hd]
    · rename_i h0
      obtain ⟨H', hw, hk⟩ := h
      obtain ⟨w', s1, s2⟩ := wrA_run (P := P) hw
      refine ⟨_, w', ?_, by rw [s2]; exact hk⟩
      simp only [Builtin.clear_, r0]
      cases n with
      | zero => exact absurd rfl h0
      | succ n => simp only [Sem.run_bind, under_run hd, Result.andThen, zero_run hi hz, zeroCells_rep, s1, Sem.run_pure]
  · exact h.elim
end
end Go.Hc
