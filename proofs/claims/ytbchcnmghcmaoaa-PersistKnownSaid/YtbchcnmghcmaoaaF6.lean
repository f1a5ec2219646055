/- Functions, printed by gen.py. -/
import Derived.Test.YtbchcnmghcmaoaaT
set_option linter.unusedSimpArgs false
set_option linter.unusedVariables false
set_option maxRecDepth 100000
namespace Go.Hc
open Go Go.Proofs
/- 74: sounder/sounderref07.time -/
def z74_rs : List ResultVar := [.tmp 2]
noncomputable def z74_c2 : Code := subC (bodyC Try.f74) [0]
noncomputable def z74_c4 : Code := subC (bodyC Try.f74) [1, 0]
noncomputable def z74_c3 : Code := .seq z74_c4 Code.ret
noncomputable def z74_c1 : Code := .seq z74_c2 z74_c3
def z74_pi (_ : Nat) : Pl := .nil
def z74_g5 (S : Value → Heap → Prop) (x0 : Value) (H : Heap) : Prop :=
  S x0 H
theorem z74_g5_e (S : Value → Heap → Prop) (x : Nat → Value) (H : Heap) : wpE tab P z74_pi z74_c2 (nQ fun l H => S (l.getD 0 undef) H) ((List.range 9).map x) H = z74_g5 S (x 0) H := by kernel_rfl
def z74_g6 (S : Value → Heap → Prop) (x0 : Value) (H : Heap) : Prop :=
  bnd (binV .int .geq x0 (.int .i64 0)) fun v4 =>
  brV v4
  (bnd (binV .int .leq x0 (.int .i64 9007199254740991)) fun v7 =>
  S v7 H)
  (S (.bool false) H)
theorem z74_g6_e (S : Value → Heap → Prop) (x : Nat → Value) (H : Heap) : wpE tab P z74_pi z74_c4 (nQ fun l H => S (l.getD 2 undef) H) ((List.range 9).map x) H = z74_g6 S (x 0) H := by kernel_rfl
def sounderref07_time (x0 : Value) (R : Value → Heap → Prop) (H : Heap) : Prop :=
  z74_g5 (fun x0 H => z74_g6 (fun x2 H => R x2 H) x0 H) x0 H
theorem z74_i (R : Value → Heap → Prop) (x0 : Value) (H : Heap) (h : sounderref07_time x0 R H) : wpE tab P z74_pi z74_c1 (retQ tab z74_rs R) [x0, undef, undef, undef, undef, undef, undef, undef, undef] H := by
  obtain ⟨l, hl, el⟩ : ∃ l : List Value, l.length = 9 ∧ l = [x0, undef, undef, undef, undef, undef, undef, undef, undef] := ⟨_, rfl, rfl⟩
  rw [← el]
  have h : (fun (x0 : Value) => z74_g5 (fun x0 H => z74_g6 (fun x2 H => R x2 H) x0 H) x0 H) (l.getD 0 undef) := by rw [el]; exact h
  clear el
  refine seqI (c := z74_c1) rfl ?_
  refine regI hl (Eq.mpr (z74_g5_e _ (fun i => l.getD i undef) _) h) ?_
  clear h hl
  intro l H hl h
  refine thenN ?_
  refine seqI (c := z74_c3) rfl ?_
  refine regI hl (Eq.mpr (z74_g6_e _ (fun i => l.getD i undef) _) h) ?_
  clear h hl
  intro l H hl h
  refine thenN ?_
  refine retI rfl ?_
  exact h
theorem z74_ok : okB z74_pi z74_c1 = true := by kernel_rfl
theorem z74_ev0 (x0 : Value) (R : Value → Heap → Prop) (H : Heap) (h : sounderref07_time x0 R H) : EvL P N.sounderref07_time #[x0] H R :=
  EvF_intro (args := [x0]) (k := 8) (rs := z74_rs) tab_ok mixed Try.func74 (show Try.f74.body = some z74_c1 by kernel_rfl) Try.call74 Try.ntmps74 (by kernel_rfl) (okCode_of _ z74_ok) rfl (z74_i R x0 H h)
theorem z74_ev (x0 : Value) (R : Value → Heap → Prop) (H : Heap) (h : sounderref07_time x0 R H) : EvF P N.sounderref07_time #[x0] H R := .inl (z74_ev0 x0 R H h)
/- 75: sounder/sounderref08.time -/
def z75_rs : List ResultVar := [.tmp 2]
noncomputable def z75_c2 : Code := subC (bodyC Try.f75) [0]
noncomputable def z75_c4 : Code := subC (bodyC Try.f75) [1, 0]
noncomputable def z75_c3 : Code := .seq z75_c4 Code.ret
noncomputable def z75_c1 : Code := .seq z75_c2 z75_c3
def z75_pi (_ : Nat) : Pl := .nil
def z75_g5 (S : Value → Heap → Prop) (x0 : Value) (H : Heap) : Prop :=
  S x0 H
theorem z75_g5_e (S : Value → Heap → Prop) (x : Nat → Value) (H : Heap) : wpE tab P z75_pi z75_c2 (nQ fun l H => S (l.getD 0 undef) H) ((List.range 6).map x) H = z75_g5 S (x 0) H := by kernel_rfl
def z75_g6 (S : Value → Heap → Prop) (x0 : Value) (H : Heap) : Prop :=
  bnd (foldV min2V x0 [(.int .i64 9007199254740991)]) fun v4 =>
  bnd (foldV max2V (.int .i64 0) [v4]) fun v5 =>
  S v5 H
theorem z75_g6_e (S : Value → Heap → Prop) (x : Nat → Value) (H : Heap) : wpE tab P z75_pi z75_c4 (nQ fun l H => S (l.getD 2 undef) H) ((List.range 6).map x) H = z75_g6 S (x 0) H := by kernel_rfl
def sounderref08_time (x0 : Value) (R : Value → Heap → Prop) (H : Heap) : Prop :=
  z75_g5 (fun x0 H => z75_g6 (fun x2 H => R x2 H) x0 H) x0 H
theorem z75_i (R : Value → Heap → Prop) (x0 : Value) (H : Heap) (h : sounderref08_time x0 R H) : wpE tab P z75_pi z75_c1 (retQ tab z75_rs R) [x0, undef, undef, undef, undef, undef] H := by
  obtain ⟨l, hl, el⟩ : ∃ l : List Value, l.length = 6 ∧ l = [x0, undef, undef, undef, undef, undef] := ⟨_, rfl, rfl⟩
  rw [← el]
  have h : (fun (x0 : Value) => z75_g5 (fun x0 H => z75_g6 (fun x2 H => R x2 H) x0 H) x0 H) (l.getD 0 undef) := by rw [el]; exact h
  clear el
  refine seqI (c := z75_c1) rfl ?_
  refine regI hl (Eq.mpr (z75_g5_e _ (fun i => l.getD i undef) _) h) ?_
  clear h hl
  intro l H hl h
  refine thenN ?_
  refine seqI (c := z75_c3) rfl ?_
  refine regI hl (Eq.mpr (z75_g6_e _ (fun i => l.getD i undef) _) h) ?_
  clear h hl
  intro l H hl h
  refine thenN ?_
  refine retI rfl ?_
  exact h
theorem z75_ok : okB z75_pi z75_c1 = true := by kernel_rfl
theorem z75_ev0 (x0 : Value) (R : Value → Heap → Prop) (H : Heap) (h : sounderref08_time x0 R H) : EvL P N.sounderref08_time #[x0] H R :=
  EvF_intro (args := [x0]) (k := 5) (rs := z75_rs) tab_ok mixed Try.func75 (show Try.f75.body = some z75_c1 by kernel_rfl) Try.call75 Try.ntmps75 (by kernel_rfl) (okCode_of _ z75_ok) rfl (z75_i R x0 H h)
theorem z75_ev (x0 : Value) (R : Value → Heap → Prop) (H : Heap) (h : sounderref08_time x0 R H) : EvF P N.sounderref08_time #[x0] H R := .inl (z75_ev0 x0 R H h)
/- 76: sounder/sounderref08.Base -/
def z76_rs : List ResultVar := [.tmp 6]
noncomputable def z76_c2 : Code := subC (bodyC Try.f76) [0]
noncomputable def z76_c5 : Code := subC (bodyC Try.f76) [1, 0, 0]
noncomputable def z76_c8 : Code := subC (bodyC Try.f76) [1, 0, 1, 0, 0]
noncomputable def z76_c7 : Code := .seq z76_c8 Code.ret
noncomputable def z76_c6 : Code := .cond (.tmp 18) z76_c7 Code.skip
noncomputable def z76_c4 : Code := .seq z76_c5 z76_c6
noncomputable def z76_c10 : Code := subC (bodyC Try.f76) [1, 1, 0]
noncomputable def z76_c13 : Code := subC (bodyC Try.f76) [1, 1, 1, 0, 0]
noncomputable def z76_c15 : Code := subC (bodyC Try.f76) [1, 1, 1, 0, 1, 0]
noncomputable def z76_c14 : Code := .cond (.tmp 27) z76_c15 Code.skip
noncomputable def z76_c12 : Code := .seq z76_c13 z76_c14
noncomputable def z76_c17 : Code := subC (bodyC Try.f76) [1, 1, 1, 1, 0]
noncomputable def z76_c16 : Code := .seq z76_c17 Code.ret
noncomputable def z76_c11 : Code := .seq z76_c12 z76_c16
noncomputable def z76_c9 : Code := .seq z76_c10 z76_c11
noncomputable def z76_c3 : Code := .seq z76_c4 z76_c9
noncomputable def z76_c1 : Code := .seq z76_c2 z76_c3
def z76_pi (_ : Nat) : Pl := .nil
def z76_g18 (S : Value → Value → Value → Heap → Prop) (x0 x1 x2 : Value) (H : Heap) : Prop :=
  newE 36 (Value.cells x0) H fun v3 H1 =>
  S x1 x2 v3 H1
theorem z76_g18_e (S : Value → Value → Value → Heap → Prop) (x : Nat → Value) (H : Heap) : wpE tab P z76_pi z76_c2 (nQ fun l H => S (l.getD 1 undef) (l.getD 2 undef) (l.getD 3 undef) H) ((List.range 34).map x) H = z76_g18 S (x 0) (x 1) (x 2) H := by kernel_rfl
def z76_g19 (S : Value → Value → Value → Value → Heap → Prop) (x1 x2 x3 : Value) (H : Heap) : Prop :=
  bnd (ldE true 5 x3 H) fun v8 =>
  EvF P N.sounderref07_Check #[v8] H fun v9 H1 =>
  bnd (binV .int .neq v9 (.int .i64 0)) fun v10 =>
  brV v10
  (S x1 x2 x3 (.bool true) H1)
  (bnd (binV .int .lss x1 (.int .i64 0)) fun v13 =>
  brV v13
  (S x1 x2 x3 (.bool true) H1)
  (bnd (binV .int .geq x1 (.int .i64 3)) fun v17 =>
  S x1 x2 x3 v17 H1))
theorem z76_g19_e (S : Value → Value → Value → Value → Heap → Prop) (x : Nat → Value) (H : Heap) : wpE tab P z76_pi z76_c5 (nQ fun l H => S (l.getD 1 undef) (l.getD 2 undef) (l.getD 3 undef) (l.getD 18 undef) H) ((List.range 34).map x) H = z76_g19 S (x 1) (x 2) (x 3) H := by kernel_rfl
def z76_g20 (S : Value → Heap → Prop) (H : Heap) : Prop :=
  S (.int .i64 0) H
theorem z76_g20_e (S : Value → Heap → Prop) (x : Nat → Value) (H : Heap) : wpE tab P z76_pi z76_c8 (nQ fun l H => S (l.getD 6 undef) H) ((List.range 34).map x) H = z76_g20 S  H := by kernel_rfl
def z76_g21 (S : Value → Value → Value → Heap → Prop) (x1 x2 x3 : Value) (H : Heap) : Prop :=
  bnd (faV 2 x3) fun v19 =>
  bnd (ldE false 1 v19 H) fun v20 =>
  bnd (faV 3 x3) fun v21 =>
  bnd (ldE false 1 v21 H) fun v22 =>
  bnd (binV .int .mul (.int .i64 4) v22) fun v23 =>
  bnd (foldV max2V v23 [(.int .i64 1000000)]) fun v24 =>
  bnd (binV .int .add v20 v24) fun v25 =>
  S x1 x2 v25 H
theorem z76_g21_e (S : Value → Value → Value → Heap → Prop) (x : Nat → Value) (H : Heap) : wpE tab P z76_pi z76_c10 (nQ fun l H => S (l.getD 1 undef) (l.getD 2 undef) (l.getD 7 undef) H) ((List.range 34).map x) H = z76_g21 S (x 1) (x 2) (x 3) H := by kernel_rfl
def z76_g23 (S : Value → Heap → Prop) (x7 : Value) (H : Heap) : Prop :=
  EvF P N.sounderref08_time #[x7] H fun v33 H1 =>
  S v33 H1
theorem z76_g23_e (S : Value → Heap → Prop) (x : Nat → Value) (H : Heap) : wpE tab P z76_pi z76_c17 (nQ fun l H => S (l.getD 6 undef) H) ((List.range 34).map x) H = z76_g23 S (x 7) H := by kernel_rfl
def z76_s22 (x7 : Value) (R : Value → Heap → Prop) (H : Heap) : Prop :=
  z76_g23 (fun x6 H => R x6 H) x7 H
noncomputable def z76_q24 (R : Value → Heap → Prop) : Exit → List Value → Heap → Prop := (retQ tab z76_rs R)
theorem z76_s22_i (R : Value → Heap → Prop) (l : List Value) (H : Heap) (hl : l.length = 34) (h : z76_s22 (l.getD 7 undef) R H) : wpE tab P z76_pi z76_c16 (z76_q24 R) l H := by
  refine seqI (c := z76_c16) rfl ?_
  refine regI hl (Eq.mpr (z76_g23_e _ (fun i => l.getD i undef) _) h) ?_
  clear h hl
  intro l H hl h
  refine thenN ?_
  refine retI rfl ?_
  exact h
def z76_g25 (S : Value → Value → Value → Heap → Prop) (x1 x2 x7 : Value) (H : Heap) : Prop :=
  bnd (binV .int .eql x1 (.int .i64 2)) fun v27 =>
  S x2 x7 v27 H
theorem z76_g25_e (S : Value → Value → Value → Heap → Prop) (x : Nat → Value) (H : Heap) : wpE tab P z76_pi z76_c13 (nQ fun l H => S (l.getD 2 undef) (l.getD 7 undef) (l.getD 27 undef) H) ((List.range 34).map x) H = z76_g25 S (x 1) (x 2) (x 7) H := by kernel_rfl
def z76_g26 (S : Value → Heap → Prop) (x2 x7 : Value) (H : Heap) : Prop :=
  EvF P N.sounderref08_time #[x2] H fun v30 H1 =>
  bnd (binV .int .add x7 v30) fun v31 =>
  S v31 H1
theorem z76_g26_e (S : Value → Heap → Prop) (x : Nat → Value) (H : Heap) : wpE tab P z76_pi z76_c15 (nQ fun l H => S (l.getD 7 undef) H) ((List.range 34).map x) H = z76_g26 S (x 2) (x 7) H := by kernel_rfl
def sounderref08_Base (x0 x1 x2 : Value) (R : Value → Heap → Prop) (H : Heap) : Prop :=
  z76_g18 (fun x1 x2 x3 H => z76_g19 (fun x1 x2 x3 x18 H => brV x18
  (z76_g20 (fun x6 H => R x6 H) H)
  (z76_g21 (fun x1 x2 x7 H => z76_g25 (fun x2 x7 x27 H => brV x27
  (z76_g26 (fun x7 H => z76_s22 x7 R H) x2 x7 H)
  (z76_s22 x7 R H)) x1 x2 x7 H) x1 x2 x3 H)) x1 x2 x3 H) x0 x1 x2 H
theorem z76_i (R : Value → Heap → Prop) (x0 x1 x2 : Value) (H : Heap) (h : sounderref08_Base x0 x1 x2 R H) : wpE tab P z76_pi z76_c1 (retQ tab z76_rs R) [x0, x1, x2, undef, undef, undef, undef, undef, undef, undef, undef, undef, undef, undef, undef, undef, undef, undef, undef, undef, undef, undef, undef, undef, undef, undef, undef, undef, undef, undef, undef, undef, undef, undef] H := by
  obtain ⟨l, hl, el⟩ : ∃ l : List Value, l.length = 34 ∧ l = [x0, x1, x2, undef, undef, undef, undef, undef, undef, undef, undef, undef, undef, undef, undef, undef, undef, undef, undef, undef, undef, undef, undef, undef, undef, undef, undef, undef, undef, undef, undef, undef, undef, undef] := ⟨_, rfl, rfl⟩
  rw [← el]
  have h : (fun (x0 x1 x2 : Value) => z76_g18 (fun x1 x2 x3 H => z76_g19 (fun x1 x2 x3 x18 H => brV x18
(z76_g20 (fun x6 H => R x6 H) H)
(z76_g21 (fun x1 x2 x7 H => z76_g25 (fun x2 x7 x27 H => brV x27
(z76_g26 (fun x7 H => z76_s22 x7 R H) x2 x7 H)
(z76_s22 x7 R H)) x1 x2 x7 H) x1 x2 x3 H)) x1 x2 x3 H) x0 x1 x2 H) (l.getD 0 undef) (l.getD 1 undef) (l.getD 2 undef) := by rw [el]; exact h
  clear el
  refine seqI (c := z76_c1) rfl ?_
  refine regI hl (Eq.mpr (z76_g18_e _ (fun i => l.getD i undef) _) h) ?_
  clear h hl
  intro l H hl h
  refine thenN ?_
  refine seqI (c := z76_c3) rfl ?_
  refine seqI (c := z76_c4) rfl ?_
  refine regI hl (Eq.mpr (z76_g19_e _ (fun i => l.getD i undef) _) h) ?_
  clear h hl
  intro l H hl h
  refine thenN ?_
  refine condI (c := z76_c6) rfl h ?_ ?_
  · clear h; intro h
    refine seqI (c := z76_c7) rfl ?_
    refine regI hl (Eq.mpr (z76_g20_e _ (fun i => l.getD i undef) _) h) ?_
    clear h hl
    intro l H hl h
    refine thenN ?_
    refine retI rfl ?_
    refine thenR ?_
    exact h
  · clear h; intro h
    refine skipI rfl ?_
    refine thenN ?_
    refine seqI (c := z76_c9) rfl ?_
    refine regI hl (Eq.mpr (z76_g21_e _ (fun i => l.getD i undef) _) h) ?_
    clear h hl
    intro l H hl h
    refine thenN ?_
    refine seqI (c := z76_c11) rfl ?_
    refine seqI (c := z76_c12) rfl ?_
    refine regI hl (Eq.mpr (z76_g25_e _ (fun i => l.getD i undef) _) h) ?_
    clear h hl
    intro l H hl h
    refine thenN ?_
    refine condI (c := z76_c14) rfl h ?_ ?_
    · clear h; intro h
      refine regI hl (Eq.mpr (z76_g26_e _ (fun i => l.getD i undef) _) h) ?_
      clear h hl
      intro l H hl h
      refine thenN ?_
      exact z76_s22_i R l H hl h
    · clear h; intro h
      refine skipI rfl ?_
      refine thenN ?_
      exact z76_s22_i R l H hl h
theorem z76_ok : okB z76_pi z76_c1 = true := by kernel_rfl
theorem z76_ev0 (x0 x1 x2 : Value) (R : Value → Heap → Prop) (H : Heap) (h : sounderref08_Base x0 x1 x2 R H) : EvL P N.sounderref08_Base #[x0, x1, x2] H R :=
  EvF_intro (args := [x0, x1, x2]) (k := 31) (rs := z76_rs) tab_ok mixed Try.func76 (show Try.f76.body = some z76_c1 by kernel_rfl) Try.call76 Try.ntmps76 (by kernel_rfl) (okCode_of _ z76_ok) rfl (z76_i R x0 x1 x2 H h)
theorem z76_ev (x0 x1 x2 : Value) (R : Value → Heap → Prop) (H : Heap) (h : sounderref08_Base x0 x1 x2 R H) : EvF P N.sounderref08_Base #[x0, x1, x2] H R := .inl (z76_ev0 x0 x1 x2 R H h)
/- 77: slices.rotateLeft[sounder/api.Range] -/
def z77_rs : List ResultVar := []
noncomputable def z77_c2 : Code := subC (bodyC Try.f77) [0]
noncomputable def z77_c4 : Code := subC (bodyC Try.f77) [1, 0]
noncomputable def z77_c5 : Code := subC (bodyC Try.f77) [1, 1]
noncomputable def z77_c3 : Code := .seq z77_c4 z77_c5
noncomputable def z77_c1 : Code := .seq z77_c2 z77_c3
def z77_pi (_ : Nat) : Pl := .nil
def z77_g6 (S : Value → Value → Heap → Prop) (x0 x1 : Value) (H : Heap) : Prop :=
  bnd (sliceV 2 x0 none (some x1)) fun v6 =>
  EvF P N.slices_Reverse_Range #[v6] H fun _ H1 =>
  S x0 x1 H1
theorem z77_g6_e (S : Value → Value → Heap → Prop) (x : Nat → Value) (H : Heap) : wpE tab P z77_pi z77_c2 (nQ fun l H => S (l.getD 0 undef) (l.getD 1 undef) H) ((List.range 14).map x) H = z77_g6 S (x 0) (x 1) H := by kernel_rfl
def z77_g7 (S : Value → Heap → Prop) (x0 x1 : Value) (H : Heap) : Prop :=
  bnd (sliceV 2 x0 (some x1) none) fun v10 =>
  EvF P N.slices_Reverse_Range #[v10] H fun _ H1 =>
  S x0 H1
theorem z77_g7_e (S : Value → Heap → Prop) (x : Nat → Value) (H : Heap) : wpE tab P z77_pi z77_c4 (nQ fun l H => S (l.getD 0 undef) H) ((List.range 14).map x) H = z77_g7 S (x 0) (x 1) H := by kernel_rfl
def z77_g8 (S : Heap → Prop) (x0 : Value) (H : Heap) : Prop :=
  EvF P N.slices_Reverse_Range #[x0] H fun _ H1 =>
  S H1
theorem z77_g8_e (S : Heap → Prop) (x : Nat → Value) (H : Heap) : wpE tab P z77_pi z77_c5 (nQ fun _ H => S  H) ((List.range 14).map x) H = z77_g8 S (x 0) H := by kernel_rfl
def slices_rotateLeft_Range (x0 x1 : Value) (R : Value → Heap → Prop) (H : Heap) : Prop :=
  z77_g6 (fun x0 x1 H => z77_g7 (fun x0 H => z77_g8 (fun H => R (.tuple #[]) H) x0 H) x0 x1 H) x0 x1 H
theorem z77_i (R : Value → Heap → Prop) (x0 x1 : Value) (H : Heap) (h : slices_rotateLeft_Range x0 x1 R H) : wpE tab P z77_pi z77_c1 (retQ tab z77_rs R) [x0, x1, undef, undef, undef, undef, undef, undef, undef, undef, undef, undef, undef, undef] H := by
  obtain ⟨l, hl, el⟩ : ∃ l : List Value, l.length = 14 ∧ l = [x0, x1, undef, undef, undef, undef, undef, undef, undef, undef, undef, undef, undef, undef] := ⟨_, rfl, rfl⟩
  rw [← el]
  have h : (fun (x0 x1 : Value) => z77_g6 (fun x0 x1 H => z77_g7 (fun x0 H => z77_g8 (fun H => R (.tuple #[]) H) x0 H) x0 x1 H) x0 x1 H) (l.getD 0 undef) (l.getD 1 undef) := by rw [el]; exact h
  clear el
  refine seqI (c := z77_c1) rfl ?_
  refine regI hl (Eq.mpr (z77_g6_e _ (fun i => l.getD i undef) _) h) ?_
  clear h hl
  intro l H hl h
  refine thenN ?_
  refine seqI (c := z77_c3) rfl ?_
  refine regI hl (Eq.mpr (z77_g7_e _ (fun i => l.getD i undef) _) h) ?_
  clear h hl
  intro l H hl h
  refine thenN ?_
  refine regI hl (Eq.mpr (z77_g8_e _ (fun i => l.getD i undef) _) h) ?_
  clear h hl
  intro l H hl h
  exact h
theorem z77_ok : okB z77_pi z77_c1 = true := by kernel_rfl
theorem z77_ev0 (x0 x1 : Value) (R : Value → Heap → Prop) (H : Heap) (h : slices_rotateLeft_Range x0 x1 R H) : EvL P N.slices_rotateLeft_Range #[x0, x1] H R :=
  EvF_intro (args := [x0, x1]) (k := 12) (rs := z77_rs) tab_ok mixed Try.func77 (show Try.f77.body = some z77_c1 by kernel_rfl) Try.call77 Try.ntmps77 (by kernel_rfl) (okCode_of _ z77_ok) rfl (z77_i R x0 x1 H h)
theorem z77_ev (x0 x1 : Value) (R : Value → Heap → Prop) (H : Heap) (h : slices_rotateLeft_Range x0 x1 R H) : EvF P N.slices_rotateLeft_Range #[x0, x1] H R := .inl (z77_ev0 x0 x1 R H h)
/- 78: slices.AppendSeq[[]sounder/api.Range,sounder/api.Range] -/
def z78_rs : List ResultVar := [.tmp 4]
noncomputable def z78_c2 : Code := subC (bodyC Try.f78) [0]
noncomputable def z78_c5 : Code := subC (bodyC Try.f78) [1, 0, 0]
noncomputable def z78_c8 : Code := subC (bodyC Try.f78) [1, 0, 1, 0, 0]
noncomputable def z78_c10 : Code := subC (bodyC Try.f78) [1, 0, 1, 0, 1, 0]
noncomputable def z78_c9 : Code := .block 1 z78_c10
noncomputable def z78_c7 : Code := .rangeFunc (.tmp 6) #[7] z78_c8 z78_c9
noncomputable def z78_c6 : Code := .block 0 z78_c7
noncomputable def z78_c4 : Code := .seq z78_c5 z78_c6
noncomputable def z78_c12 : Code := subC (bodyC Try.f78) [1, 1, 0]
noncomputable def z78_c11 : Code := .seq z78_c12 Code.ret
noncomputable def z78_c3 : Code := .seq z78_c4 z78_c11
noncomputable def z78_c1 : Code := .seq z78_c2 z78_c3
def z78_pi (_ : Nat) : Pl := .nil
def z78_g13 (S : Value → Value → Heap → Prop) (x0 x1 : Value) (H : Heap) : Prop :=
  newE 46 (Value.cells x0) H fun v2 H1 =>
  S x1 v2 H1
theorem z78_g13_e (S : Value → Value → Heap → Prop) (x : Nat → Value) (H : Heap) : wpE tab P z78_pi z78_c2 (nQ fun l H => S (l.getD 1 undef) (l.getD 2 undef) H) ((List.range 13).map x) H = z78_g13 S (x 0) (x 1) H := by kernel_rfl
def z78_g14 (S : Value → Value → Heap → Prop) (x1 x2 : Value) (H : Heap) : Prop :=
  S x2 x1 H
theorem z78_g14_e (S : Value → Value → Heap → Prop) (x : Nat → Value) (H : Heap) : wpE tab P z78_pi z78_c5 (nQ fun l H => S (l.getD 2 undef) (l.getD 6 undef) H) ((List.range 13).map x) H = z78_g14 S (x 1) (x 2) H := by kernel_rfl
noncomputable def z78_L (fn : FuncId) (l : List Value) (d : Nat) : Loop := mkL fn l #[7] z78_c8 z78_c9 d
def z78_g16 (S : Heap → Prop) (x2 x5 : Value) (H : Heap) : Prop :=
  bnd (ldE false 1 x2 H) fun v8 =>
  bnd (ldE true 2 x5 H) fun v9 =>
  bslE 45 #[(.int .i64 0), (.int .i64 0)] 2 1 [(0, v9)] H fun v10 H1 =>
  appE 45 #[(.int .i64 0), (.int .i64 0)] 2 16 v8 v10 H1 fun v11 H2 =>
  bnd (stE 1 x2 v11 H2) fun H3 =>
  S H3
theorem z78_g16_e (S : Heap → Prop) (x : Nat → Value) (H : Heap) : wpE tab P z78_pi z78_c10 (nQ fun _ H => S  H) ((List.range 13).map x) H = z78_g16 S (x 2) (x 5) H := by kernel_rfl
def z78_s15 (x2 x5 : Value) (lp : Nat) (r : Loop) (R : Value → Heap → Prop) (H : Heap) : Prop :=
  z78_g16 (fun H => (H.arr[lp]? = some (.loop (busy r)) ∧ R (.bool true) (setO H lp (.loop r)))) x2 x5 H
noncomputable def z78_q17 (lp : Nat) (r : Loop) (R : Value → Heap → Prop) : Exit → List Value → Heap → Prop := (nQ fun _ H2 => H2.arr[lp]? = some (.loop (busy r)) ∧ R (.bool true) (setO H2 lp (.loop r)))
theorem z78_s15_i (lp : Nat) (r : Loop) (R : Value → Heap → Prop) (l : List Value) (H : Heap) (hl : l.length = 13) (h : z78_s15 (l.getD 2 undef) (l.getD 5 undef) lp r R H) : wpE tab P z78_pi z78_c9 (z78_q17 lp r R) l H := by
  refine blockI (c := z78_c9) rfl ?_
  refine regI hl (Eq.mpr (z78_g16_e _ (fun i => l.getD i undef) _) h) ?_
  clear h hl
  intro l H hl h
  refine blkN ?_
  exact h
def z78_g18 (S : Value → Value → Heap → Prop) (x2 x7 : Value) (H : Heap) : Prop :=
  newE 45 #[(.int .i64 0), (.int .i64 0)] H fun v5 H1 =>
  bnd (stE 2 v5 x7 H1) fun H2 =>
  S x2 v5 H2
theorem z78_g18_e (S : Value → Value → Heap → Prop) (x : Nat → Value) (H : Heap) : wpE tab P z78_pi z78_c8 (nQ fun l H => S (l.getD 2 undef) (l.getD 5 undef) H) ((List.range 13).map x) H = z78_g18 S (x 2) (x 7) H := by kernel_rfl
def z78_r (lp : Nat) (r : Loop) (R : Value → Heap → Prop) (x2 x7 : Value) (H : Heap) : Prop :=
  z78_g18 (fun x2 x5 H => (H.arr[lp]? = some (.loop r) ∧
  z78_s15 x2 x5 lp r R (setO H lp (.loop (busy r))))) x2 x7 H
theorem z78_ri (lp : Nat) (r : Loop) (R : Value → Heap → Prop) (l : List Value) (H : Heap) (hl : l.length = 13) (h : z78_r lp r R (l.getD 2 undef) (l.getD 7 undef) H) : wpE tab P z78_pi z78_c8 (nQ fun l H => H.arr[lp]? = some (.loop r) ∧ wpE tab P z78_pi z78_c9 (nQ fun _ H2 => H2.arr[lp]? = some (.loop (busy r)) ∧ R (.bool true) (setO H2 lp (.loop r))) l (setO H lp (.loop (busy r)))) l H := by
  refine regI hl (Eq.mpr (z78_g18_e _ (fun i => l.getD i undef) _) h) ?_
  clear h hl
  intro l H hl h
  exact ⟨h.1, z78_s15_i lp r R l _ hl h.2⟩
theorem z78_y (fn : FuncId) (d : Nat) (l : List Value) (hl : l.length = 13) (lp : Nat) (v7 : Value) (K : Heap) (R : Value → Heap → Prop) (hK : K.arr[lp]? = some (.loop (z78_L fn l d))) (h : z78_r lp (z78_L fn l d) R (l.getD 2 undef) v7 K) : EvY P lp #[v7] K R := by
  refine EvY_intro (t := (l.set 7 v7)) tab_ok mixed hK rfl rfl rfl (by simp [z78_L, mkL]) ⟨okCode_of _ (show okB z78_pi z78_c8 = true by kernel_rfl), okCode_of _ (show okB z78_pi z78_c9 = true by kernel_rfl)⟩ ?_
  have e2 : (l.set 7 v7).getD 2 undef = l.getD 2 undef := by simp [hl]
  have e7 : (l.set 7 v7).getD 7 undef = v7 := by simp [hl]
  exact z78_ri lp (z78_L fn l d) R (l.set 7 v7) K (by simp [hl]) (by rw [e2, e7]; exact h)
def z78_g19 (S : Value → Heap → Prop) (x2 : Value) (H : Heap) : Prop :=
  bnd (ldE false 1 x2 H) fun v12 =>
  S v12 H
theorem z78_g19_e (S : Value → Heap → Prop) (x : Nat → Value) (H : Heap) : wpE tab P z78_pi z78_c12 (nQ fun l H => S (l.getD 4 undef) H) ((List.range 13).map x) H = z78_g19 S (x 2) H := by kernel_rfl
def slices_AppendSeq_Range (x0 x1 : Value) (R : Value → Heap → Prop) (H : Heap) : Prop :=
  z78_g13 (fun x1 x2 H => z78_g14 (fun x2 x6 H => (∀ (fn : FuncId) (l : List Value), l.length = 13 → l.getD 2 undef = x2 → callL P x6 [.func (.yield (H.size + 1)) #[] #[]] (pushO (pushO H (.deferred (some []))) (.loop (z78_L fn l H.size))) fun _ H2 =>
  H2.arr[H.size + 1]? = some (.loop (z78_L fn l H.size)) ∧
  (fun (m : Nat) (H : Heap) =>
  z78_g19 (fun x4 H => (H.arr[m]? = some (.deferred (some [])) ∧ (fun H : Heap =>
  R x4 H) (setO H m (.deferred none)))) x2 H) H.size (setO H2 (H.size + 1) (.loop (done (z78_L fn l H.size)))))) x1 x2 H) x0 x1 H
theorem z78_i (R : Value → Heap → Prop) (x0 x1 : Value) (H : Heap) (h : slices_AppendSeq_Range x0 x1 R H) : wpR tab P z78_pi z78_c1 (retQ tab z78_rs R) (retQM tab z78_rs R) [x0, x1, undef, undef, undef, undef, undef, undef, undef, undef, undef, undef, undef] H := by
  obtain ⟨l, hl, el⟩ : ∃ l : List Value, l.length = 13 ∧ l = [x0, x1, undef, undef, undef, undef, undef, undef, undef, undef, undef, undef, undef] := ⟨_, rfl, rfl⟩
  rw [← el]
  have h : (fun (x0 x1 : Value) => z78_g13 (fun x1 x2 H => z78_g14 (fun x2 x6 H => (∀ (fn : FuncId) (l : List Value), l.length = 13 → l.getD 2 undef = x2 → callL P x6 [.func (.yield (H.size + 1)) #[] #[]] (pushO (pushO H (.deferred (some []))) (.loop (z78_L fn l H.size))) fun _ H2 =>
H2.arr[H.size + 1]? = some (.loop (z78_L fn l H.size)) ∧
(fun (m : Nat) (H : Heap) =>
z78_g19 (fun x4 H => (H.arr[m]? = some (.deferred (some [])) ∧ (fun H : Heap =>
R x4 H) (setO H m (.deferred none)))) x2 H) H.size (setO H2 (H.size + 1) (.loop (done (z78_L fn l H.size)))))) x1 x2 H) x0 x1 H) (l.getD 0 undef) (l.getD 1 undef) := by rw [el]; exact h
  clear el
  refine seqR (c := z78_c1) rfl ?_
  refine wpR_of _ hl ?_
  refine regI hl (Eq.mpr (z78_g13_e _ (fun i => l.getD i undef) _) h) ?_
  clear h hl
  intro l H hl h
  refine thenN ?_
  refine seqR (c := z78_c3) rfl ?_
  refine seqR (c := z78_c4) rfl ?_
  refine wpR_of _ hl ?_
  refine regI hl (Eq.mpr (z78_g14_e _ (fun i => l.getD i undef) _) h) ?_
  clear h hl
  intro l H hl h
  refine thenN ?_
  refine blockR (c := z78_c6) rfl ?_
  refine rangeR (c := z78_c7) rfl ?_
  intro fn
  have h := h fn l hl rfl
  refine callL_mono (fun _ H2 h => ?_) h
  refine ⟨h.1, ?_⟩
  have h := h.2
  refine blkN ?_
  refine thenN ?_
  refine seqI (c := z78_c11) rfl ?_
  refine regI hl (Eq.mpr (z78_g19_e _ (fun i => l.getD i undef) _) h) ?_
  clear h hl
  intro l H hl h
  refine thenN ?_
  refine retI rfl ?_
  exact h
theorem z78_ok : okBR z78_pi z78_c1 = true := by kernel_rfl
theorem z78_ev0 (x0 x1 : Value) (R : Value → Heap → Prop) (H : Heap) (h : slices_AppendSeq_Range x0 x1 R H) : EvL P N.slices_AppendSeq_Range #[x0, x1] H R :=
  EvR_intro (args := [x0, x1]) (k := 11) (rs := z78_rs) tab_ok mixed Try.func78 (show Try.f78.body = some z78_c1 by kernel_rfl) Try.call78 Try.ntmps78 (by kernel_rfl) (okCodeR_of _ z78_ok) rfl (z78_i R x0 x1 H h)
theorem z78_ev (x0 x1 : Value) (R : Value → Heap → Prop) (H : Heap) (h : slices_AppendSeq_Range x0 x1 R H) : EvF P N.slices_AppendSeq_Range #[x0, x1] H R := .inl (z78_ev0 x0 x1 R H h)
/- 79: (*sounder/span.Set).falling$1 -/
def z79_rs : List ResultVar := []
noncomputable def z79_c2 : Code := subC (bodyC Try.f79) [0]
noncomputable def z79_c7 : Code := subC (bodyC Try.f79) [1, 0, 0, 0, 0]
noncomputable def z79_c9 : Code := .exit 0
noncomputable def z79_c8 : Code := .cond (.tmp 22) Code.skip z79_c9
noncomputable def z79_c6 : Code := .seq z79_c7 z79_c8
noncomputable def z79_c11 : Code := .block 1 Code.skip
noncomputable def z79_c12 : Code := subC (bodyC Try.f79) [1, 0, 0, 1, 1]
noncomputable def z79_c10 : Code := .seq z79_c11 z79_c12
noncomputable def z79_c5 : Code := .seq z79_c6 z79_c10
noncomputable def z79_c4 : Code := .loop z79_c5
noncomputable def z79_c3 : Code := .block 0 z79_c4
noncomputable def z79_c1 : Code := .seq z79_c2 z79_c3
def z79_pi (_ : Nat) : Pl := .nil
def z79_g13 (S : Value → Value → Value → Heap → Prop) (x0 x1 : Value) (H : Heap) : Prop :=
  bnd (ldE false 1 x1 H) fun v4 =>
  bnd (nilV v4) fun v5 =>
  bnd (faV 1 v5) fun v6 =>
  bnd (ldE false 1 v6 H) fun v7 =>
  bnd (lenV v7) fun v8 =>
  bnd (binV .int .sub v8 (.int .i64 1)) fun v9 =>
  S x0 x1 v9 H
theorem z79_g13_e (S : Value → Value → Value → Heap → Prop) (x : Nat → Value) (H : Heap) : wpE tab P z79_pi z79_c2 (nQ fun l H => S (l.getD 0 undef) (l.getD 1 undef) (l.getD 3 undef) H) ((List.range 25).map x) H = z79_g13 S (x 0) (x 1) H := by kernel_rfl
def z79_g15 (S : Value → Value → Value → Value → Heap → Prop) (x0 x1 x3 : Value) (H : Heap) : Prop :=
  bnd (binV .int .geq x3 (.int .i64 0)) fun v11 =>
  brV v11
  (bnd (ldE false 1 x1 H) fun v14 =>
  bnd (nilV v14) fun v15 =>
  bnd (faV 1 v15) fun v16 =>
  bnd (ldE false 1 v16 H) fun v17 =>
  bnd (ixSV 2 v17 x3) fun v19 =>
  bnd (ldE true 2 v19 H) fun v20 =>
  callV P x0 [v20] H fun v21 H1 =>
  S x0 x1 x3 v21 H1)
  (S x0 x1 x3 (.bool false) H)
theorem z79_g15_e (S : Value → Value → Value → Value → Heap → Prop) (x : Nat → Value) (H : Heap) : wpE tab P z79_pi z79_c7 (nQ fun l H => S (l.getD 0 undef) (l.getD 1 undef) (l.getD 3 undef) (l.getD 22 undef) H) ((List.range 25).map x) H = z79_g15 S (x 0) (x 1) (x 3) H := by kernel_rfl
def z79_g16 (S : Value → Value → Value → Heap → Prop) (x0 x1 x3 : Value) (H : Heap) : Prop :=
  bnd (binV .int .sub x3 (.int .i64 1)) fun v24 =>
  S x0 x1 v24 H
theorem z79_g16_e (S : Value → Value → Value → Heap → Prop) (x : Nat → Value) (H : Heap) : wpE tab P z79_pi z79_c12 (nQ fun l H => S (l.getD 0 undef) (l.getD 1 undef) (l.getD 3 undef) H) ((List.range 25).map x) H = z79_g16 S (x 0) (x 1) (x 3) H := by kernel_rfl
def z79_s14 (x0 x1 x3 : Value) (K1 : Value → Value → Value →  Heap → Prop) (R : Value → Heap → Prop) (H : Heap) : Prop :=
  z79_g15 (fun x0 x1 x3 x22 H => brV x22
  (z79_g16 (fun x0 x1 x3 H => K1 x0 x1 x3 H) x0 x1 x3 H)
  (R (.tuple #[]) H)) x0 x1 x3 H
noncomputable def z79_q17 (R : Value → Heap → Prop) : Exit → List Value → Heap → Prop := (retQ tab z79_rs R)
noncomputable def z79_q18 (R : Value → Heap → Prop) : Exit → List Value → Heap → Prop := (blkE 0 (z79_q17 R))
noncomputable def z79_q19 (K1 : Value → Value → Value →  Heap → Prop) (R : Value → Heap → Prop) : Exit → List Value → Heap → Prop := (thenE (fun l H => K1 (l.getD 0 undef) (l.getD 1 undef) (l.getD 3 undef) H) (z79_q18 R))
theorem z79_s14_i (K1 : Value → Value → Value →  Heap → Prop) (R : Value → Heap → Prop) (l : List Value) (H : Heap) (hl : l.length = 25) (h : z79_s14 (l.getD 0 undef) (l.getD 1 undef) (l.getD 3 undef) K1 R H) : wpE tab P z79_pi z79_c5 (z79_q19 K1 R) l H := by
  refine seqI (c := z79_c5) rfl ?_
  refine seqI (c := z79_c6) rfl ?_
  refine regI hl (Eq.mpr (z79_g15_e _ (fun i => l.getD i undef) _) h) ?_
  clear h hl
  intro l H hl h
  refine thenN ?_
  refine condI (c := z79_c8) rfl h ?_ ?_
  · clear h; intro h
    refine skipI rfl ?_
    refine thenN ?_
    refine seqI (c := z79_c10) rfl ?_
    refine blockI (c := z79_c11) rfl ?_
    refine skipI rfl ?_
    refine blkN ?_
    refine thenN ?_
    refine regI hl (Eq.mpr (z79_g16_e _ (fun i => l.getD i undef) _) h) ?_
    clear h hl
    intro l H hl h
    refine thenN ?_
    exact h
  · clear h; intro h
    refine exitI (c := z79_c9) rfl ?_
    refine thenX ?_
    refine thenX ?_
    refine blkX ?_
    exact h
def z79_l20 (x0 x1 x3 : Value) (R : Value → Heap → Prop) (H : Heap) : Prop :=
  ∃ (I : Value → Heap → Prop) (μ : Value → Heap → Nat), I x3 H ∧ ∀ (y3 : Value) (H : Heap), I y3 H → z79_s14 x0 x1 y3 (fun z0 z1 z3 H' => z0 = x0 ∧ z1 = x1 ∧ (I z3 H' ∧ μ z3 H' < μ y3 H)) R H
def span_Set_falling_1 (x0 x1 : Value) (R : Value → Heap → Prop) (H : Heap) : Prop :=
  z79_g13 (fun x0 x1 x3 H => z79_l20 x0 x1 x3 R H) x0 x1 H
theorem z79_i (R : Value → Heap → Prop) (x0 x1 : Value) (H : Heap) (h : span_Set_falling_1 x0 x1 R H) : wpE tab P z79_pi z79_c1 (retQ tab z79_rs R) [x0, x1, undef, undef, undef, undef, undef, undef, undef, undef, undef, undef, undef, undef, undef, undef, undef, undef, undef, undef, undef, undef, undef, undef, undef] H := by
  obtain ⟨l, hl, el⟩ : ∃ l : List Value, l.length = 25 ∧ l = [x0, x1, undef, undef, undef, undef, undef, undef, undef, undef, undef, undef, undef, undef, undef, undef, undef, undef, undef, undef, undef, undef, undef, undef, undef] := ⟨_, rfl, rfl⟩
  rw [← el]
  have h : (fun (x0 x1 : Value) => z79_g13 (fun x0 x1 x3 H => z79_l20 x0 x1 x3 R H) x0 x1 H) (l.getD 0 undef) (l.getD 1 undef) := by rw [el]; exact h
  clear el
  refine seqI (c := z79_c1) rfl ?_
  refine regI hl (Eq.mpr (z79_g13_e _ (fun i => l.getD i undef) _) h) ?_
  clear h hl
  intro l H hl h
  refine thenN ?_
  refine blockI (c := z79_c3) rfl ?_
  obtain ⟨I, μ, h0, hr⟩ := h
  refine loopI (c := z79_c4) rfl (fun l' H' => l'.getD 0 undef = l.getD 0 undef ∧ l'.getD 1 undef = l.getD 1 undef ∧ I (l'.getD 3 undef) H') (fun l' H' => μ (l'.getD 3 undef) H') hl ⟨rfl, rfl, h0⟩ ?_
  rintro l1 H1 hl1 ⟨e0, e1, hI⟩
  have hb := hr (l1.getD 3 undef) H1 hI
  rw [← e0, ← e1] at hb
  refine wpE_mono _ l1 H1 hl1 ?_ (z79_s14_i _ R l1 H1 hl1 hb)
  intro e l2 H2 hl2 hq
  cases e with
  | normal => exact fun _ => (by obtain ⟨d0, d1, g1, g2⟩ := hq; exact ⟨⟨d0.trans e0, d1.trans e1, g1⟩, g2⟩)
  | _ => exact hq
theorem z79_ok : okB z79_pi z79_c1 = true := by kernel_rfl
theorem z79_ev0 (x0 x1 : Value) (R : Value → Heap → Prop) (H : Heap) (h : span_Set_falling_1 x0 x1 R H) : EvL P N.span_Set_falling_1 #[x0, x1] H R :=
  EvF_intro (args := [x0, x1]) (k := 23) (rs := z79_rs) tab_ok mixed Try.func79 (show Try.f79.body = some z79_c1 by kernel_rfl) Try.call79 Try.ntmps79 (by kernel_rfl) (okCode_of _ z79_ok) rfl (z79_i R x0 x1 H h)
theorem z79_ev (x0 x1 : Value) (R : Value → Heap → Prop) (H : Heap) (h : span_Set_falling_1 x0 x1 R H) : EvF P N.span_Set_falling_1 #[x0, x1] H R := .inl (z79_ev0 x0 x1 R H h)
/- 80: slices.Reverse[[]sounder/api.Range,sounder/api.Range] -/
def z80_rs : List ResultVar := []
noncomputable def z80_c2 : Code := subC (bodyC Try.f80) [0]
noncomputable def z80_c7 : Code := subC (bodyC Try.f80) [1, 0, 0, 0, 0]
noncomputable def z80_c9 : Code := .exit 0
noncomputable def z80_c8 : Code := .cond (.tmp 9) Code.skip z80_c9
noncomputable def z80_c6 : Code := .seq z80_c7 z80_c8
noncomputable def z80_c12 : Code := subC (bodyC Try.f80) [1, 0, 0, 1, 0, 0]
noncomputable def z80_c11 : Code := .block 1 z80_c12
noncomputable def z80_c13 : Code := subC (bodyC Try.f80) [1, 0, 0, 1, 1]
noncomputable def z80_c10 : Code := .seq z80_c11 z80_c13
noncomputable def z80_c5 : Code := .seq z80_c6 z80_c10
noncomputable def z80_c4 : Code := .loop z80_c5
noncomputable def z80_c3 : Code := .block 0 z80_c4
noncomputable def z80_c1 : Code := .seq z80_c2 z80_c3
def z80_pi (i : Nat) : Pl := match i with
  | 3 => (ones [0, 1, 2, 3, 4, 5, 6, 7, 8, 9, 10, 11, 12, 13, 14, 15] .nil)
  | _ => .nil
def z80_g14 (S : Value → Value → Value → Heap → Prop) (x0 : Value) (H : Heap) : Prop :=
  bnd (lenV x0) fun v5 =>
  bnd (binV .int .sub v5 (.int .i64 1)) fun v6 =>
  S x0 (.int .i64 0) v6 H
theorem z80_g14_e (S : Value → Value → Value → Heap → Prop) (x : Nat → Value) (H : Heap) : wpE tab P z80_pi z80_c2 (nQ fun l H => S (l.getD 0 undef) (l.getD 2 undef) (l.getD 3 undef) H) ((List.range 28).map x) H = z80_g14 S (x 0) H := by kernel_rfl
def z80_g16 (S : Value → Value → Value → Value → Heap → Prop) (x0 x2 x3 : Value) (H : Heap) : Prop :=
  bnd (binV .int .lss x2 x3) fun v9 =>
  S x0 x2 x3 v9 H
theorem z80_g16_e (S : Value → Value → Value → Value → Heap → Prop) (x : Nat → Value) (H : Heap) : wpE tab P z80_pi z80_c7 (nQ fun l H => S (l.getD 0 undef) (l.getD 2 undef) (l.getD 3 undef) (l.getD 9 undef) H) ((List.range 28).map x) H = z80_g16 S (x 0) (x 2) (x 3) H := by kernel_rfl
def z80_g17 (S : Value → Value → Value → Heap → Prop) (x0 x2 x3 : Value) (H : Heap) : Prop :=
  bnd (ixSV 2 x0 x3) fun v20 =>
  bnd (ldE true 2 v20 H) fun v21 =>
  bnd (ixSV 2 x0 x2) fun v24 =>
  bnd (ldE true 2 v24 H) fun v25 =>
  bnd (ixSV 2 x0 x2) fun v26 =>
  bnd (stE 2 v26 v21 H) fun H1 =>
  bnd (ixSV 2 x0 x3) fun v27 =>
  bnd (stE 2 v27 v25 H1) fun H2 =>
  S x0 x2 x3 H2
theorem z80_g17_e (S : Value → Value → Value → Heap → Prop) (x : Nat → Value) (H : Heap) : wpE tab P z80_pi z80_c12 (nQ fun l H => S (l.getD 0 undef) (l.getD 2 undef) (l.getD 3 undef) H) ((List.range 28).map x) H = z80_g17 S (x 0) (x 2) (x 3) H := by kernel_rfl
def z80_g18 (S : Value → Value → Value → Heap → Prop) (x0 x2 x3 : Value) (H : Heap) : Prop :=
  bnd (binV .int .add x2 (.int .i64 1)) fun v11 =>
  bnd (binV .int .sub x3 (.int .i64 1)) fun v13 =>
  S x0 v11 v13 H
theorem z80_g18_e (S : Value → Value → Value → Heap → Prop) (x : Nat → Value) (H : Heap) : wpE tab P z80_pi z80_c13 (nQ fun l H => S (l.getD 0 undef) (l.getD 2 undef) (l.getD 3 undef) H) ((List.range 28).map x) H = z80_g18 S (x 0) (x 2) (x 3) H := by kernel_rfl
def z80_s15 (x0 x2 x3 : Value) (K1 : Value → Value → Value →  Heap → Prop) (R : Value → Heap → Prop) (H : Heap) : Prop :=
  z80_g16 (fun x0 x2 x3 x9 H => brV x9
  (z80_g17 (fun x0 x2 x3 H => z80_g18 (fun x0 x2 x3 H => K1 x0 x2 x3 H) x0 x2 x3 H) x0 x2 x3 H)
  (R (.tuple #[]) H)) x0 x2 x3 H
noncomputable def z80_q19 (R : Value → Heap → Prop) : Exit → List Value → Heap → Prop := (retQ tab z80_rs R)
noncomputable def z80_q20 (R : Value → Heap → Prop) : Exit → List Value → Heap → Prop := (blkE 0 (z80_q19 R))
noncomputable def z80_q21 (K1 : Value → Value → Value →  Heap → Prop) (R : Value → Heap → Prop) : Exit → List Value → Heap → Prop := (thenE (fun l H => K1 (l.getD 0 undef) (l.getD 2 undef) (l.getD 3 undef) H) (z80_q20 R))
theorem z80_s15_i (K1 : Value → Value → Value →  Heap → Prop) (R : Value → Heap → Prop) (l : List Value) (H : Heap) (hl : l.length = 28) (h : z80_s15 (l.getD 0 undef) (l.getD 2 undef) (l.getD 3 undef) K1 R H) : wpE tab P z80_pi z80_c5 (z80_q21 K1 R) l H := by
  refine seqI (c := z80_c5) rfl ?_
  refine seqI (c := z80_c6) rfl ?_
  refine regI hl (Eq.mpr (z80_g16_e _ (fun i => l.getD i undef) _) h) ?_
  clear h hl
  intro l H hl h
  refine thenN ?_
  refine condI (c := z80_c8) rfl h ?_ ?_
  · clear h; intro h
    refine skipI rfl ?_
    refine thenN ?_
    refine seqI (c := z80_c10) rfl ?_
    refine blockI (c := z80_c11) rfl ?_
    refine regI hl (Eq.mpr (z80_g17_e _ (fun i => l.getD i undef) _) h) ?_
    clear h hl
    intro l H hl h
    refine blkN ?_
    refine thenN ?_
    refine regI hl (Eq.mpr (z80_g18_e _ (fun i => l.getD i undef) _) h) ?_
    clear h hl
    intro l H hl h
    refine thenN ?_
    exact h
  · clear h; intro h
    refine exitI (c := z80_c9) rfl ?_
    refine thenX ?_
    refine thenX ?_
    refine blkX ?_
    exact h
def z80_l22 (x0 x2 x3 : Value) (R : Value → Heap → Prop) (H : Heap) : Prop :=
  ∃ (I : Value → Value → Heap → Prop) (μ : Value → Value → Heap → Nat), I x2 x3 H ∧ ∀ (y2 : Value) (y3 : Value) (H : Heap), I y2 y3 H → z80_s15 x0 y2 y3 (fun z0 z2 z3 H' => z0 = x0 ∧ (I z2 z3 H' ∧ μ z2 z3 H' < μ y2 y3 H)) R H
def slices_Reverse_Range (x0 : Value) (R : Value → Heap → Prop) (H : Heap) : Prop :=
  z80_g14 (fun x0 x2 x3 H => z80_l22 x0 x2 x3 R H) x0 H
theorem z80_i (R : Value → Heap → Prop) (x0 : Value) (H : Heap) (h : slices_Reverse_Range x0 R H) : wpE tab P z80_pi z80_c1 (retQ tab z80_rs R) [x0, undef, undef, undef, undef, undef, undef, undef, undef, undef, undef, undef, undef, undef, undef, undef, undef, undef, undef, undef, undef, undef, undef, undef, undef, undef, undef, undef] H := by
  obtain ⟨l, hl, el⟩ : ∃ l : List Value, l.length = 28 ∧ l = [x0, undef, undef, undef, undef, undef, undef, undef, undef, undef, undef, undef, undef, undef, undef, undef, undef, undef, undef, undef, undef, undef, undef, undef, undef, undef, undef, undef] := ⟨_, rfl, rfl⟩
  rw [← el]
  have h : (fun (x0 : Value) => z80_g14 (fun x0 x2 x3 H => z80_l22 x0 x2 x3 R H) x0 H) (l.getD 0 undef) := by rw [el]; exact h
  clear el
  refine seqI (c := z80_c1) rfl ?_
  refine regI hl (Eq.mpr (z80_g14_e _ (fun i => l.getD i undef) _) h) ?_
  clear h hl
  intro l H hl h
  refine thenN ?_
  refine blockI (c := z80_c3) rfl ?_
  obtain ⟨I, μ, h0, hr⟩ := h
  refine loopI (c := z80_c4) rfl (fun l' H' => l'.getD 0 undef = l.getD 0 undef ∧ I (l'.getD 2 undef) (l'.getD 3 undef) H') (fun l' H' => μ (l'.getD 2 undef) (l'.getD 3 undef) H') hl ⟨rfl, h0⟩ ?_
  rintro l1 H1 hl1 ⟨e0, hI⟩
  have hb := hr (l1.getD 2 undef) (l1.getD 3 undef) H1 hI
  rw [← e0] at hb
  refine wpE_mono _ l1 H1 hl1 ?_ (z80_s15_i _ R l1 H1 hl1 hb)
  intro e l2 H2 hl2 hq
  cases e with
  | normal => exact fun _ => (by obtain ⟨d0, g1, g2⟩ := hq; exact ⟨⟨d0.trans e0, g1⟩, g2⟩)
  | _ => exact hq
theorem z80_ok : okB z80_pi z80_c1 = true := by kernel_rfl
theorem z80_ev0 (x0 : Value) (R : Value → Heap → Prop) (H : Heap) (h : slices_Reverse_Range x0 R H) : EvL P N.slices_Reverse_Range #[x0] H R :=
  EvF_intro (args := [x0]) (k := 27) (rs := z80_rs) tab_ok mixed Try.func80 (show Try.f80.body = some z80_c1 by kernel_rfl) Try.call80 Try.ntmps80 (by kernel_rfl) (okCode_of _ z80_ok) rfl (z80_i R x0 H h)
theorem z80_ev (x0 : Value) (R : Value → Heap → Prop) (H : Heap) (h : slices_Reverse_Range x0 R H) : EvF P N.slices_Reverse_Range #[x0] H R := .inl (z80_ev0 x0 R H h)
end Go.Hc
