/- The heap calculus, part B: that the machine's operations do what part A says of them. -/
import Derived.Test.YtbchcnmghcmaoaaHcA
set_option linter.unusedSimpArgs false
set_option linter.unusedVariables false
namespace Go.Hc
open Go

section
variable {P : Program} {w : World}

theorem under_run {t : TypeId} {d : TypeDesc} (h : P.underlying t = some d) : (underlying t).run P w = .ok d w := by
  simp [underlying, go_sem, h]
theorem info_run {t : TypeId} {i : TypeInfo} (h : P.info? t = some i) : (typeInfo t).run P w = .ok i w := by
  simp [typeInfo, go_sem, h]
theorem size_run {t : TypeId} {i : TypeInfo} (h : P.info? t = some i) : (sizeOf t).run P w = .ok i.size w := by
  simp [sizeOf, go_sem, info_run h]
theorem zero_run {t : TypeId} {i : TypeInfo} {v : Value} (h : P.info? t = some i) (hz : i.zero = some v) : (zeroValue t).run P w = .ok v w := by
  simp [zeroValue, go_sem, info_run h, hz]
theorem agg_run {t : TypeId} {d : TypeDesc} (h : P.underlying t = some d) : (isAgg t).run P w = .ok (isAggD d) w := by
  simp only [isAgg, Sem.run_bind, under_run h, Result.andThen]
  cases d <;> simp [isAggD, go_sem]

theorem cell_of_blk {b o : Nat} {c : Array Value} {v : Value} (h : blk w.hp b = some c) (hv : c[o]? = some v) : w.cell? ⟨b, o, none⟩ = some v := by
  unfold blk at h
  unfold World.cell?
  split at h
  · rename_i hb; cases h; rw [hp_arr] at hb; simp [hb, hv]
  · cases h

theorem loadFrom_run {b o : Nat} {c : Array Value} (hc : blk w.hp b = some c) : ∀ (n i : Nat) (acc : Array Value), o + i + n ≤ c.size →
    (loadCellsFrom ⟨b, o, none⟩ i n acc).run P w = .ok (acc ++ c.extract (o + i) (o + i + n)) w := by
  intro n
  induction n with
  | zero => intro i acc h; simp [loadCellsFrom, go_sem]; omega
  | succ n ih =>
    intro i acc h
    have hlt : o + i < c.size := by omega
    have hcell : w.cell? (Addr.add ⟨b, o, none⟩ i) = some c[o + i] := by
      have : Addr.add ⟨b, o, none⟩ i = ⟨b, o + i, none⟩ := by
        unfold Addr.add; split <;> simp_all
      rw [this]; exact cell_of_blk hc (by simp [hlt])
    simp only [loadCellsFrom, load, Sem.run_bind]
    simp only [Sem.run, hcell, Result.andThen]
    rw [ih (i + 1) _ (by omega)]
    congr 1
    apply Array.ext'
    simp [Array.toList_extract, List.extract]
    rw [show o + (i + 1) = o + i + 1 from by omega, List.drop_eq_getElem_cons (i := o + i) (by simpa using hlt)]
    simp
theorem rdA_run {b o n : Nat} {cs : Array Value} (h : rdA w.hp b o n = some cs) : (loadCells ⟨b, o, none⟩ n).run P w = .ok cs w := by
  unfold rdA at h
  split at h
  · rename_i c hc
    unfold getC at h
    split at h
    · cases h
      rw [loadCells, loadFrom_run hc _ _ _ (by omega)]; simp
    · cases h
  · cases h
theorem ldE_run {t : TypeId} {i : TypeInfo} {d : TypeDesc} {x v : Value} (hi : P.info? t = some i) (hd : P.underlying t = some d)
    (h : ldE (isAggD d) i.size x w.hp = some v) : (Instr.loadAt t x).run P w = .ok v w := by
  unfold ldE at h
  split at h
  · rename_i b o
    simp only [Instr.loadAt, Instr.sureAddr, Sem.run_bind, Sem.run_pure, Result.andThen, loadVar, agg_run hd]
    cases hg : isAggD d
    · simp only [hg, if_false, Bool.false_eq_true] at h ⊢
      split at h
      · rename_i c hc
        simp only [load, Sem.run, cell_of_blk hc h]
      · cases h
    · simp only [hg, if_true] at h ⊢
      split at h
      · rename_i cs hcs
        cases h
        simp only [Sem.run_bind, size_run hi, Result.andThen, rdA_run hcs, Sem.run_pure]
      · cases h
  · cases h

theorem own_blk {H : Heap} {b : Nat} {c : Array Value} (h : own H b = some c) : blk H b = some c := by
  unfold own at h; unfold blk
  split at h
  · rename_i hb; split at h
    · cases h; simp [hb]
    · cases h
  · cases h
theorem own_frozen {b o : Nat} {c : Array Value} (h : own w.hp b = some c) : w.frozen? ⟨b, o, none⟩ = false := by
  unfold own at h; unfold World.frozen?
  split at h
  · rename_i hb; split at h
    · rw [hp_arr] at hb; simp [hb]; omega
    · cases h
  · cases h
theorem size_setB (H : Heap) (b : Nat) (c : Array Value) : (setB H b c).size = H.size := by simp [setB, Heap.size]
theorem own_lt {H : Heap} {b : Nat} {c : Array Value} (h : own H b = some c) : b < H.size := by
  unfold own at h; split at h
  · rename_i hb; exact (Array.getElem?_eq_some_iff.1 hb).1
  · cases h
theorem blk_lt {H : Heap} {b : Nat} {c : Array Value} (h : blk H b = some c) : b < H.size := by
  unfold blk at h; split at h
  · rename_i hb; exact (Array.getElem?_eq_some_iff.1 hb).1
  · cases h
theorem own_setB_same {H : Heap} {b : Nat} {c c' : Array Value} (h : own H b = some c) : own (setB H b c') b = some c' := by
  have hlt := own_lt h
  unfold own at h ⊢
  split at h
  · rename_i hb
    split at h
    · rename_i hle
      unfold setB; rw [Array.getElem?_modify]; simp [hb, hle]
    · cases h
  · cases h
theorem own_setB_ne {H : Heap} {b b' : Nat} {c' : Array Value} (h : b' ≠ b) : own (setB H b c') b' = own H b' := by
  unfold own setB; rw [Array.getElem?_modify]; simp [Ne.symm h]
theorem blk_setB_same {H : Heap} {b : Nat} {c c' : Array Value} (h : blk H b = some c) : blk (setB H b c') b = some c' := by
  have hlt := blk_lt h
  unfold blk at h ⊢
  split at h
  · rename_i hb
    unfold setB; rw [Array.getElem?_modify]; simp [hb]
  · cases h
theorem blk_setB_ne {H : Heap} {b b' : Nat} {c' : Array Value} (h : b' ≠ b) : blk (setB H b c') b' = blk H b' := by
  unfold blk setB; rw [Array.getElem?_modify]; simp [Ne.symm h]
theorem setB_setB (H : Heap) (b : Nat) (c c' : Array Value) : setB (setB H b c) b c' = setB H b c' := by
  refine heap_ext (fun i => ?_) rfl rfl rfl
  simp only [setB, Array.getElem?_modify]
  by_cases h : b = i
  · subst h; simp only [if_true]
    cases H.arr[b]? with
    | none => rfl
    | some o => cases o <;> rfl
  · simp [h]
theorem setB_self {H : Heap} {b : Nat} {c : Array Value} (h : blk H b = some c) : setB H b c = H := by
  refine heap_ext (fun i => ?_) rfl rfl rfl
  simp only [setB, Array.getElem?_modify]
  by_cases hb : b = i
  · subst hb
    unfold blk at h
    split at h
    · rename_i hq; cases h; simp [hq]
    · cases h
  · simp [hb]
theorem setCell_heap {b o : Nat} {c : Array Value} {v : Value} (h : blk w.hp b = some c) : (w.setCell ⟨b, o, none⟩ v).hp = setB w.hp b (c.setIfInBounds o v) := by
  unfold World.setCell setB
  refine heap_ext (fun i => ?_) rfl rfl rfl
  simp only [Array.getElem?_modify, hp_arr, World.hp]
  by_cases hb : b = i
  · subst hb
    unfold blk at h
    split at h
    · rename_i hq; rw [hp_arr] at hq; cases h; simp [hq]
    · cases h
  · simp [hb]
theorem store_run {b o : Nat} {c : Array Value} {v : Value} (h : own w.hp b = some c) (ho : o < c.size) (hv : isCell v = true) :
    (store ⟨b, o, none⟩ v).run P w = .ok () (w.setCell ⟨b, o, none⟩ v) := by
  have hc := cell_of_blk (w := w) (own_blk h) (o := o) (v := c[o]) (by simp [ho])
  have hf : w.frozen? ⟨b, o, none⟩ = false := own_frozen h
  unfold store
  cases v <;> simp [isCell] at hv <;> simp [Sem.run, hc, hf]
theorem addr_add (b o i : Nat) : Addr.add ⟨b, o, none⟩ i = ⟨b, o + i, none⟩ := by
  unfold Addr.add; split <;> simp_all
theorem splice_size (l : List Value) : ∀ (c : Array Value) (o : Nat), (splice c o l).size = c.size := by
  induction l with
  | nil => intro c o; rfl
  | cons v l ih => intro c o; simp [splice, ih]
theorem storeCells_run {b o : Nat} : ∀ (l : List Value) (i : Nat) (w : World) (c : Array Value), own w.hp b = some c → o + i + l.length ≤ c.size → l.all isCell = true →
    ∃ w', (storeCells ⟨b, o, none⟩ l i).run P w = .ok () w' ∧ w'.hp = setB w.hp b (splice c (o + i) l)
  | [], i, w, c, h, _, _ => ⟨w, by simp [storeCells, go_sem], by simp [splice]; exact (setB_self (own_blk h)).symm⟩
  | v :: l, i, w, c, h, hs, ha => by
    simp only [List.length_cons] at hs
    simp only [List.all_cons, Bool.and_eq_true] at ha
    have h1 := setCell_heap (w := w) (o := o + i) (v := v) (own_blk h)
    have h2 : own (w.setCell ⟨b, o + i, none⟩ v).hp b = some (c.setIfInBounds (o + i) v) := by rw [h1]; exact own_setB_same h
    obtain ⟨w', hr, hw⟩ := storeCells_run (o := o) l (i + 1) (w.setCell ⟨b, o + i, none⟩ v) _ h2 (by simp; omega) ha.2
    refine ⟨w', ?_, ?_⟩
    · unfold storeCells
      rw [Sem.run_bind, addr_add, store_run (o := o + i) h (by omega) ha.1]
      exact hr
    · rw [hw, h1, setB_setB]; rfl
theorem wrA_run {b o : Nat} {l : List Value} {H' : Heap} (h : wrA w.hp b o l = some H') : ∃ w', (storeCells ⟨b, o, none⟩ l).run P w = .ok () w' ∧ w'.hp = H' := by
  unfold wrA at h
  split at h
  · rename_i c hc
    split at h
    · rename_i hh
      cases h
      obtain ⟨w', h1, h2⟩ := storeCells_run (P := P) (o := o) l 0 w c hc (by omega) hh.2
      exact ⟨w', h1, h2⟩
    · cases h
  · cases h
theorem stE_run {t : TypeId} {i : TypeInfo} {x v : Value} {H' : Heap} (hi : P.info? t = some i) (h : stE i.size x v w.hp = some H') :
    ∃ w', (Instr.storeAt t x v).run P w = .ok () w' ∧ w'.hp = H' := by
  unfold stE at h
  split at h
  · rename_i b o
    split at h
    · rename_i hs
      obtain ⟨w', h1, h2⟩ := wrA_run (P := P) h
      refine ⟨w', ?_, h2⟩
      simp only [Instr.storeAt, Instr.sureAddr, Sem.run_bind, Sem.run_pure, Result.andThen, storeVar, size_run hi, hs, ne_eq, not_true_eq_false, if_false, h1]
    · cases h
  · cases h
theorem newRow_run (t : TypeId) (c : Array Value) : ∃ w', (newRow t c).run P w = .ok ⟨w.hp.size, 0, none⟩ w' ∧ w'.hp = newB w.hp t c :=
  ⟨{ w with heap := w.heap.push (.cells c t) }, by simp only [newRow, newObj, Sem.run_bind, Sem.run, Result.andThen, Sem.run_pure]; rfl, rfl⟩
theorem box_run (t : TypeId) (v : Value) : ∃ w', (Instr.box t v).run P w = .ok (adr w.hp) w' ∧ w'.hp = newB w.hp t v.cells := by
  obtain ⟨w', h1, h2⟩ := newRow_run (P := P) (w := w) t v.cells
  exact ⟨w', by simp only [Instr.box, newVar, Sem.run_bind, h1, Result.andThen, Sem.run_pure, adr], h2⟩
theorem alloc_run {t : TypeId} {i : TypeInfo} {z : Value} (hi : P.info? t = some i) (hz : i.zero = some z) :
    ∃ w', (Instr.alloc t true (.tuple #[])).run P w = .ok (adr w.hp) w' ∧ w'.hp = newB w.hp t z.cells := by
  obtain ⟨w', h1, h2⟩ := newRow_run (P := P) (w := w) t z.cells
  exact ⟨w', by simp only [Instr.alloc, newVar, Sem.run_bind, zero_run hi hz, h1, Result.andThen, Sem.run_pure, adr], h2⟩
end
end Go.Hc
