/- Functions, printed by gen.py. -/
import Derived.Test.YtecomjpmajbpgaaT
set_option linter.unusedSimpArgs false
set_option linter.unusedVariables false
set_option maxRecDepth 100000
namespace Go.Hc
open Go Go.Proofs
/- 24: sounder/sounderlaw04.equal -/
def sounderlaw04_equal_rs : List ResultVar := [.tmp 4]
noncomputable def sounderlaw04_equal_c2 : Code := subC (bodyC Try.f24) [0]
noncomputable def sounderlaw04_equal_c5 : Code := subC (bodyC Try.f24) [1, 0, 0]
noncomputable def sounderlaw04_equal_c8 : Code := subC (bodyC Try.f24) [1, 0, 1, 0, 0]
noncomputable def sounderlaw04_equal_c7 : Code := .seq sounderlaw04_equal_c8 Code.ret
noncomputable def sounderlaw04_equal_c6 : Code := .cond (.tmp 10) sounderlaw04_equal_c7 Code.skip
noncomputable def sounderlaw04_equal_c4 : Code := .seq sounderlaw04_equal_c5 sounderlaw04_equal_c6
noncomputable def sounderlaw04_equal_c11 : Code := subC (bodyC Try.f24) [1, 1, 0, 0]
noncomputable def sounderlaw04_equal_c16 : Code := subC (bodyC Try.f24) [1, 1, 0, 1, 0, 0, 0, 0]
noncomputable def sounderlaw04_equal_c18 : Code := .exit 0
noncomputable def sounderlaw04_equal_c17 : Code := .cond (.tmp 14) Code.skip sounderlaw04_equal_c18
noncomputable def sounderlaw04_equal_c15 : Code := .seq sounderlaw04_equal_c16 sounderlaw04_equal_c17
noncomputable def sounderlaw04_equal_c22 : Code := subC (bodyC Try.f24) [1, 1, 0, 1, 0, 0, 1, 0, 0, 0]
noncomputable def sounderlaw04_equal_c25 : Code := subC (bodyC Try.f24) [1, 1, 0, 1, 0, 0, 1, 0, 0, 1, 0, 0]
noncomputable def sounderlaw04_equal_c24 : Code := .seq sounderlaw04_equal_c25 Code.ret
noncomputable def sounderlaw04_equal_c23 : Code := .cond (.tmp 25) sounderlaw04_equal_c24 Code.skip
noncomputable def sounderlaw04_equal_c21 : Code := .seq sounderlaw04_equal_c22 sounderlaw04_equal_c23
noncomputable def sounderlaw04_equal_c20 : Code := .block 1 sounderlaw04_equal_c21
noncomputable def sounderlaw04_equal_c26 : Code := subC (bodyC Try.f24) [1, 1, 0, 1, 0, 0, 1, 1]
noncomputable def sounderlaw04_equal_c19 : Code := .seq sounderlaw04_equal_c20 sounderlaw04_equal_c26
noncomputable def sounderlaw04_equal_c14 : Code := .seq sounderlaw04_equal_c15 sounderlaw04_equal_c19
noncomputable def sounderlaw04_equal_c13 : Code := .loop sounderlaw04_equal_c14
noncomputable def sounderlaw04_equal_c12 : Code := .block 0 sounderlaw04_equal_c13
noncomputable def sounderlaw04_equal_c10 : Code := .seq sounderlaw04_equal_c11 sounderlaw04_equal_c12
noncomputable def sounderlaw04_equal_c28 : Code := subC (bodyC Try.f24) [1, 1, 1, 0]
noncomputable def sounderlaw04_equal_c27 : Code := .seq sounderlaw04_equal_c28 Code.ret
noncomputable def sounderlaw04_equal_c9 : Code := .seq sounderlaw04_equal_c10 sounderlaw04_equal_c27
noncomputable def sounderlaw04_equal_c3 : Code := .seq sounderlaw04_equal_c4 sounderlaw04_equal_c9
noncomputable def sounderlaw04_equal_c1 : Code := .seq sounderlaw04_equal_c2 sounderlaw04_equal_c3
def sounderlaw04_equal_pi (i : Nat) : Pl := match i with
  | 6 => (ones [0, 1, 2, 3, 4, 5, 6, 7, 8] .nil)
  | _ => .nil
def sounderlaw04_equal_g29 (S : Value → Value → Heap → Prop) (x0 x1 : Value) (H : Heap) : Prop :=
  S x0 x1 H
theorem sounderlaw04_equal_g29_e (S : Value → Value → Heap → Prop) (x : Nat → Value) (H : Heap) : wpE tab P sounderlaw04_equal_pi sounderlaw04_equal_c2 (nQ fun l H => S (l.getD 0 undef) (l.getD 1 undef) H) ((List.range 26).map x) H = sounderlaw04_equal_g29 S (x 0) (x 1) H := by kernel_rfl
def sounderlaw04_equal_g30 (S : Value → Value → Value → Heap → Prop) (x0 x1 : Value) (H : Heap) : Prop :=
  bnd (lenV x0) fun v7 =>
  bnd (lenV x1) fun v9 =>
  bnd (binV .int .neq v7 v9) fun v10 =>
  S x0 x1 v10 H
theorem sounderlaw04_equal_g30_e (S : Value → Value → Value → Heap → Prop) (x : Nat → Value) (H : Heap) : wpE tab P sounderlaw04_equal_pi sounderlaw04_equal_c5 (nQ fun l H => S (l.getD 0 undef) (l.getD 1 undef) (l.getD 10 undef) H) ((List.range 26).map x) H = sounderlaw04_equal_g30 S (x 0) (x 1) H := by kernel_rfl
def sounderlaw04_equal_g31 (S : Value → Heap → Prop) (H : Heap) : Prop :=
  S (.bool false) H
theorem sounderlaw04_equal_g31_e (S : Value → Heap → Prop) (x : Nat → Value) (H : Heap) : wpE tab P sounderlaw04_equal_pi sounderlaw04_equal_c8 (nQ fun l H => S (l.getD 4 undef) H) ((List.range 26).map x) H = sounderlaw04_equal_g31 S  H := by kernel_rfl
def sounderlaw04_equal_g32 (S : Value → Value → Value → Heap → Prop) (x0 x1 : Value) (H : Heap) : Prop :=
  S x0 x1 (.int .i64 0) H
theorem sounderlaw04_equal_g32_e (S : Value → Value → Value → Heap → Prop) (x : Nat → Value) (H : Heap) : wpE tab P sounderlaw04_equal_pi sounderlaw04_equal_c11 (nQ fun l H => S (l.getD 0 undef) (l.getD 1 undef) (l.getD 5 undef) H) ((List.range 26).map x) H = sounderlaw04_equal_g32 S (x 0) (x 1) H := by kernel_rfl
def sounderlaw04_equal_g34 (S : Value → Value → Value → Value → Heap → Prop) (x0 x1 x5 : Value) (H : Heap) : Prop :=
  bnd (lenV x0) fun v13 =>
  bnd (binV .int .lss x5 v13) fun v14 =>
  S x0 x1 x5 v14 H
theorem sounderlaw04_equal_g34_e (S : Value → Value → Value → Value → Heap → Prop) (x : Nat → Value) (H : Heap) : wpE tab P sounderlaw04_equal_pi sounderlaw04_equal_c16 (nQ fun l H => S (l.getD 0 undef) (l.getD 1 undef) (l.getD 5 undef) (l.getD 14 undef) H) ((List.range 26).map x) H = sounderlaw04_equal_g34 S (x 0) (x 1) (x 5) H := by kernel_rfl
def sounderlaw04_equal_g35 (S : Value → Value → Value → Value → Heap → Prop) (x0 x1 x5 : Value) (H : Heap) : Prop :=
  bnd (ixSV 2 x0 x5) fun v19 =>
  bnd (ldE true 2 v19 H) fun v20 =>
  bnd (ixSV 2 x1 x5) fun v23 =>
  bnd (ldE true 2 v23 H) fun v24 =>
  bnd (binV (.agg [true, true]) .neq v20 v24) fun v25 =>
  S x0 x1 x5 v25 H
theorem sounderlaw04_equal_g35_e (S : Value → Value → Value → Value → Heap → Prop) (x : Nat → Value) (H : Heap) : wpE tab P sounderlaw04_equal_pi sounderlaw04_equal_c22 (nQ fun l H => S (l.getD 0 undef) (l.getD 1 undef) (l.getD 5 undef) (l.getD 25 undef) H) ((List.range 26).map x) H = sounderlaw04_equal_g35 S (x 0) (x 1) (x 5) H := by kernel_rfl
def sounderlaw04_equal_g36 (S : Value → Heap → Prop) (H : Heap) : Prop :=
  S (.bool false) H
theorem sounderlaw04_equal_g36_e (S : Value → Heap → Prop) (x : Nat → Value) (H : Heap) : wpE tab P sounderlaw04_equal_pi sounderlaw04_equal_c25 (nQ fun l H => S (l.getD 4 undef) H) ((List.range 26).map x) H = sounderlaw04_equal_g36 S  H := by kernel_rfl
def sounderlaw04_equal_g37 (S : Value → Value → Value → Heap → Prop) (x0 x1 x5 : Value) (H : Heap) : Prop :=
  bnd (binV .int .add x5 (.int .i64 1)) fun v16 =>
  S x0 x1 v16 H
theorem sounderlaw04_equal_g37_e (S : Value → Value → Value → Heap → Prop) (x : Nat → Value) (H : Heap) : wpE tab P sounderlaw04_equal_pi sounderlaw04_equal_c26 (nQ fun l H => S (l.getD 0 undef) (l.getD 1 undef) (l.getD 5 undef) H) ((List.range 26).map x) H = sounderlaw04_equal_g37 S (x 0) (x 1) (x 5) H := by kernel_rfl
def sounderlaw04_equal_g38 (S : Value → Heap → Prop) (H : Heap) : Prop :=
  S (.bool true) H
theorem sounderlaw04_equal_g38_e (S : Value → Heap → Prop) (x : Nat → Value) (H : Heap) : wpE tab P sounderlaw04_equal_pi sounderlaw04_equal_c28 (nQ fun l H => S (l.getD 4 undef) H) ((List.range 26).map x) H = sounderlaw04_equal_g38 S  H := by kernel_rfl
def sounderlaw04_equal_s33 (x0 x1 x5 : Value) (K1 : Value → Value → Value →  Heap → Prop) (R : Value → Heap → Prop) (H : Heap) : Prop :=
  sounderlaw04_equal_g34 (fun x0 x1 x5 x14 H => brV x14
  (sounderlaw04_equal_g35 (fun x0 x1 x5 x25 H => brV x25
  (sounderlaw04_equal_g36 (fun x4 H => R x4 H) H)
  (sounderlaw04_equal_g37 (fun x0 x1 x5 H => K1 x0 x1 x5 H) x0 x1 x5 H)) x0 x1 x5 H)
  (sounderlaw04_equal_g38 (fun x4 H => R x4 H) H)) x0 x1 x5 H
noncomputable def sounderlaw04_equal_q39 (R : Value → Heap → Prop) : Exit → List Value → Heap → Prop := (retQ tab sounderlaw04_equal_rs R)
noncomputable def sounderlaw04_equal_q40 (R : Value → Heap → Prop) : Exit → List Value → Heap → Prop := (thenE (fun l H => wpE tab P sounderlaw04_equal_pi sounderlaw04_equal_c27 (sounderlaw04_equal_q39 R) l H) (sounderlaw04_equal_q39 R))
noncomputable def sounderlaw04_equal_q41 (R : Value → Heap → Prop) : Exit → List Value → Heap → Prop := (blkE 0 (sounderlaw04_equal_q40 R))
noncomputable def sounderlaw04_equal_q42 (K1 : Value → Value → Value →  Heap → Prop) (R : Value → Heap → Prop) : Exit → List Value → Heap → Prop := (thenE (fun l H => K1 (l.getD 0 undef) (l.getD 1 undef) (l.getD 5 undef) H) (sounderlaw04_equal_q41 R))
theorem sounderlaw04_equal_s33_i (K1 : Value → Value → Value →  Heap → Prop) (R : Value → Heap → Prop) (l : List Value) (H : Heap) (hl : l.length = 26) (h : sounderlaw04_equal_s33 (l.getD 0 undef) (l.getD 1 undef) (l.getD 5 undef) K1 R H) : wpE tab P sounderlaw04_equal_pi sounderlaw04_equal_c14 (sounderlaw04_equal_q42 K1 R) l H := by
  refine seqI (c := sounderlaw04_equal_c14) rfl ?_
  refine seqI (c := sounderlaw04_equal_c15) rfl ?_
  refine regI hl (Eq.mpr (sounderlaw04_equal_g34_e _ (fun i => l.getD i undef) _) h) ?_
  clear h hl
  intro l H hl h
  refine thenN ?_
  refine condI (c := sounderlaw04_equal_c17) rfl h ?_ ?_
  · clear h; intro h
    refine skipI rfl ?_
    refine thenN ?_
    refine seqI (c := sounderlaw04_equal_c19) rfl ?_
    refine blockI (c := sounderlaw04_equal_c20) rfl ?_
    refine seqI (c := sounderlaw04_equal_c21) rfl ?_
    refine regI hl (Eq.mpr (sounderlaw04_equal_g35_e _ (fun i => l.getD i undef) _) h) ?_
    clear h hl
    intro l H hl h
    refine thenN ?_
    refine condI (c := sounderlaw04_equal_c23) rfl h ?_ ?_
    · clear h; intro h
      refine seqI (c := sounderlaw04_equal_c24) rfl ?_
      refine regI hl (Eq.mpr (sounderlaw04_equal_g36_e _ (fun i => l.getD i undef) _) h) ?_
      clear h hl
      intro l H hl h
      refine thenN ?_
      refine retI rfl ?_
      refine blkR ?_
      refine thenR ?_
      refine thenR ?_
      refine blkR ?_
      refine thenR ?_
      exact h
    · clear h; intro h
      refine skipI rfl ?_
      refine blkN ?_
      refine thenN ?_
      refine regI hl (Eq.mpr (sounderlaw04_equal_g37_e _ (fun i => l.getD i undef) _) h) ?_
      clear h hl
      intro l H hl h
      refine thenN ?_
      exact h
  · clear h; intro h
    refine exitI (c := sounderlaw04_equal_c18) rfl ?_
    refine thenX ?_
    refine thenX ?_
    refine blkX ?_
    refine thenN ?_
    refine seqI (c := sounderlaw04_equal_c27) rfl ?_
    refine regI hl (Eq.mpr (sounderlaw04_equal_g38_e _ (fun i => l.getD i undef) _) h) ?_
    clear h hl
    intro l H hl h
    refine thenN ?_
    refine retI rfl ?_
    exact h
def sounderlaw04_equal_l43 (x0 x1 x5 : Value) (R : Value → Heap → Prop) (H : Heap) : Prop :=
  ∃ (I : Value → Heap → Prop) (μ : Value → Heap → Nat), I x5 H ∧ ∀ (y5 : Value) (H : Heap), I y5 H → sounderlaw04_equal_s33 x0 x1 y5 (fun z0 z1 z5 H' => z0 = x0 ∧ z1 = x1 ∧ (I z5 H' ∧ μ z5 H' < μ y5 H)) R H
def sounderlaw04_equal (x0 x1 : Value) (R : Value → Heap → Prop) (H : Heap) : Prop :=
  sounderlaw04_equal_g29 (fun x0 x1 H => sounderlaw04_equal_g30 (fun x0 x1 x10 H => brV x10
  (sounderlaw04_equal_g31 (fun x4 H => R x4 H) H)
  (sounderlaw04_equal_g32 (fun x0 x1 x5 H => sounderlaw04_equal_l43 x0 x1 x5 R H) x0 x1 H)) x0 x1 H) x0 x1 H
theorem sounderlaw04_equal_i (R : Value → Heap → Prop) (x0 x1 : Value) (H : Heap) (h : sounderlaw04_equal x0 x1 R H) : wpE tab P sounderlaw04_equal_pi sounderlaw04_equal_c1 (retQ tab sounderlaw04_equal_rs R) [x0, x1, undef, undef, undef, undef, undef, undef, undef, undef, undef, undef, undef, undef, undef, undef, undef, undef, undef, undef, undef, undef, undef, undef, undef, undef] H := by
  obtain ⟨l, hl, el⟩ : ∃ l : List Value, l.length = 26 ∧ l = [x0, x1, undef, undef, undef, undef, undef, undef, undef, undef, undef, undef, undef, undef, undef, undef, undef, undef, undef, undef, undef, undef, undef, undef, undef, undef] := ⟨_, rfl, rfl⟩
  rw [← el]
  have h : (fun (x0 x1 : Value) => sounderlaw04_equal_g29 (fun x0 x1 H => sounderlaw04_equal_g30 (fun x0 x1 x10 H => brV x10
(sounderlaw04_equal_g31 (fun x4 H => R x4 H) H)
(sounderlaw04_equal_g32 (fun x0 x1 x5 H => sounderlaw04_equal_l43 x0 x1 x5 R H) x0 x1 H)) x0 x1 H) x0 x1 H) (l.getD 0 undef) (l.getD 1 undef) := by rw [el]; exact h
  clear el
  refine seqI (c := sounderlaw04_equal_c1) rfl ?_
  refine regI hl (Eq.mpr (sounderlaw04_equal_g29_e _ (fun i => l.getD i undef) _) h) ?_
  clear h hl
  intro l H hl h
  refine thenN ?_
  refine seqI (c := sounderlaw04_equal_c3) rfl ?_
  refine seqI (c := sounderlaw04_equal_c4) rfl ?_
  refine regI hl (Eq.mpr (sounderlaw04_equal_g30_e _ (fun i => l.getD i undef) _) h) ?_
  clear h hl
  intro l H hl h
  refine thenN ?_
  refine condI (c := sounderlaw04_equal_c6) rfl h ?_ ?_
  · clear h; intro h
    refine seqI (c := sounderlaw04_equal_c7) rfl ?_
    refine regI hl (Eq.mpr (sounderlaw04_equal_g31_e _ (fun i => l.getD i undef) _) h) ?_
    clear h hl
    intro l H hl h
    refine thenN ?_
    refine retI rfl ?_
    refine thenR ?_
    exact h
  · clear h; intro h
    refine skipI rfl ?_
    refine thenN ?_
    refine seqI (c := sounderlaw04_equal_c9) rfl ?_
    refine seqI (c := sounderlaw04_equal_c10) rfl ?_
    refine regI hl (Eq.mpr (sounderlaw04_equal_g32_e _ (fun i => l.getD i undef) _) h) ?_
    clear h hl
    intro l H hl h
    refine thenN ?_
    refine blockI (c := sounderlaw04_equal_c12) rfl ?_
    obtain ⟨I, μ, h0, hr⟩ := h
    refine loopI (c := sounderlaw04_equal_c13) rfl (fun l' H' => l'.getD 0 undef = l.getD 0 undef ∧ l'.getD 1 undef = l.getD 1 undef ∧ I (l'.getD 5 undef) H') (fun l' H' => μ (l'.getD 5 undef) H') hl ⟨rfl, rfl, h0⟩ ?_
    rintro l1 H1 hl1 ⟨e0, e1, hI⟩
    have hb := hr (l1.getD 5 undef) H1 hI
    rw [← e0, ← e1] at hb
    refine wpE_mono _ l1 H1 hl1 ?_ (sounderlaw04_equal_s33_i _ R l1 H1 hl1 hb)
    intro e l2 H2 hl2 hq
    cases e with
    | normal => exact fun _ => (by obtain ⟨d0, d1, g1, g2⟩ := hq; exact ⟨⟨d0.trans e0, d1.trans e1, g1⟩, g2⟩)
    | _ => exact hq
theorem sounderlaw04_equal_ok : okB sounderlaw04_equal_pi sounderlaw04_equal_c1 = true := by kernel_rfl
theorem sounderlaw04_equal_ev0 (x0 x1 : Value) (R : Value → Heap → Prop) (H : Heap) (h : sounderlaw04_equal x0 x1 R H) : EvL P N.sounderlaw04_equal #[x0, x1] H R :=
  EvF_intro (args := [x0, x1]) (k := 24) (rs := sounderlaw04_equal_rs) tab_ok mixed Try.func24 (show Try.f24.body = some sounderlaw04_equal_c1 by kernel_rfl) Try.call24 Try.ntmps24 (by kernel_rfl) (okCode_of _ sounderlaw04_equal_ok) rfl (sounderlaw04_equal_i R x0 x1 H h)
theorem sounderlaw04_equal_ev (x0 x1 : Value) (R : Value → Heap → Prop) (H : Heap) (h : sounderlaw04_equal x0 x1 R H) : EvF P N.sounderlaw04_equal #[x0, x1] H R := .inl (sounderlaw04_equal_ev0 x0 x1 R H h)
/- 25: (*sounder/span.Set).none -/
def span_Set_none_rs : List ResultVar := [.tmp 2]
noncomputable def span_Set_none_c2 : Code := subC (bodyC Try.f25) [0]
noncomputable def span_Set_none_c4 : Code := subC (bodyC Try.f25) [1, 0]
noncomputable def span_Set_none_c3 : Code := .seq span_Set_none_c4 Code.ret
noncomputable def span_Set_none_c1 : Code := .seq span_Set_none_c2 span_Set_none_c3
def span_Set_none_pi (_ : Nat) : Pl := .nil
def span_Set_none_g5 (S : Value → Heap → Prop) (x0 : Value) (H : Heap) : Prop :=
  S x0 H
theorem span_Set_none_g5_e (S : Value → Heap → Prop) (x : Nat → Value) (H : Heap) : wpE tab P span_Set_none_pi span_Set_none_c2 (nQ fun l H => S (l.getD 0 undef) H) ((List.range 12).map x) H = span_Set_none_g5 S (x 0) H := by kernel_rfl
def span_Set_none_g6 (S : Value → Heap → Prop) (x0 : Value) (H : Heap) : Prop :=
  bnd (binV .ptr .eql x0 (.pointer none)) fun v4 =>
  brV v4
  (S (.bool true) H)
  (bnd (nilV x0) fun v7 =>
  bnd (faV 0 v7) fun v8 =>
  bnd (ldE false 1 v8 H) fun v9 =>
  bnd (binV .int .eql v9 (.int .i64 0)) fun v10 =>
  S v10 H)
theorem span_Set_none_g6_e (S : Value → Heap → Prop) (x : Nat → Value) (H : Heap) : wpE tab P span_Set_none_pi span_Set_none_c4 (nQ fun l H => S (l.getD 2 undef) H) ((List.range 12).map x) H = span_Set_none_g6 S (x 0) H := by kernel_rfl
def span_Set_none (x0 : Value) (R : Value → Heap → Prop) (H : Heap) : Prop :=
  span_Set_none_g5 (fun x0 H => span_Set_none_g6 (fun x2 H => R x2 H) x0 H) x0 H
theorem span_Set_none_i (R : Value → Heap → Prop) (x0 : Value) (H : Heap) (h : span_Set_none x0 R H) : wpE tab P span_Set_none_pi span_Set_none_c1 (retQ tab span_Set_none_rs R) [x0, undef, undef, undef, undef, undef, undef, undef, undef, undef, undef, undef] H := by
  obtain ⟨l, hl, el⟩ : ∃ l : List Value, l.length = 12 ∧ l = [x0, undef, undef, undef, undef, undef, undef, undef, undef, undef, undef, undef] := ⟨_, rfl, rfl⟩
  rw [← el]
  have h : (fun (x0 : Value) => span_Set_none_g5 (fun x0 H => span_Set_none_g6 (fun x2 H => R x2 H) x0 H) x0 H) (l.getD 0 undef) := by rw [el]; exact h
  clear el
  refine seqI (c := span_Set_none_c1) rfl ?_
  refine regI hl (Eq.mpr (span_Set_none_g5_e _ (fun i => l.getD i undef) _) h) ?_
  clear h hl
  intro l H hl h
  refine thenN ?_
  refine seqI (c := span_Set_none_c3) rfl ?_
  refine regI hl (Eq.mpr (span_Set_none_g6_e _ (fun i => l.getD i undef) _) h) ?_
  clear h hl
  intro l H hl h
  refine thenN ?_
  refine retI rfl ?_
  exact h
theorem span_Set_none_ok : okB span_Set_none_pi span_Set_none_c1 = true := by kernel_rfl
theorem span_Set_none_ev0 (x0 : Value) (R : Value → Heap → Prop) (H : Heap) (h : span_Set_none x0 R H) : EvL P N.span_Set_none #[x0] H R :=
  EvF_intro (args := [x0]) (k := 11) (rs := span_Set_none_rs) tab_ok mixed Try.func25 (show Try.f25.body = some span_Set_none_c1 by kernel_rfl) Try.call25 Try.ntmps25 (by kernel_rfl) (okCode_of _ span_Set_none_ok) rfl (span_Set_none_i R x0 H h)
theorem span_Set_none_ev (x0 : Value) (R : Value → Heap → Prop) (H : Heap) (h : span_Set_none x0 R H) : EvF P N.span_Set_none #[x0] H R := .inl (span_Set_none_ev0 x0 R H h)
/- 26: sounder/span.is -/
def span_is_rs : List ResultVar := [.tmp 2]
noncomputable def span_is_c2 : Code := subC (bodyC Try.f26) [0]
noncomputable def span_is_c4 : Code := subC (bodyC Try.f26) [1, 0]
noncomputable def span_is_c3 : Code := .seq span_is_c4 Code.ret
noncomputable def span_is_c1 : Code := .seq span_is_c2 span_is_c3
def span_is_pi (_ : Nat) : Pl := .nil
def span_is_g5 (S : Value → Heap → Prop) (x0 : Value) (H : Heap) : Prop :=
  S x0 H
theorem span_is_g5_e (S : Value → Heap → Prop) (x : Nat → Value) (H : Heap) : wpE tab P span_is_pi span_is_c2 (nQ fun l H => S (l.getD 0 undef) H) ((List.range 9).map x) H = span_is_g5 S (x 0) H := by kernel_rfl
def span_is_g6 (S : Value → Heap → Prop) (x0 : Value) (H : Heap) : Prop :=
  bnd (binV .int .geq x0 (.int .i64 0)) fun v4 =>
  brV v4
  (bnd (binV .int .leq x0 (.int .i64 9007199254740991)) fun v7 =>
  S v7 H)
  (S (.bool false) H)
theorem span_is_g6_e (S : Value → Heap → Prop) (x : Nat → Value) (H : Heap) : wpE tab P span_is_pi span_is_c4 (nQ fun l H => S (l.getD 2 undef) H) ((List.range 9).map x) H = span_is_g6 S (x 0) H := by kernel_rfl
def span_is (x0 : Value) (R : Value → Heap → Prop) (H : Heap) : Prop :=
  span_is_g5 (fun x0 H => span_is_g6 (fun x2 H => R x2 H) x0 H) x0 H
theorem span_is_i (R : Value → Heap → Prop) (x0 : Value) (H : Heap) (h : span_is x0 R H) : wpE tab P span_is_pi span_is_c1 (retQ tab span_is_rs R) [x0, undef, undef, undef, undef, undef, undef, undef, undef] H := by
  obtain ⟨l, hl, el⟩ : ∃ l : List Value, l.length = 9 ∧ l = [x0, undef, undef, undef, undef, undef, undef, undef, undef] := ⟨_, rfl, rfl⟩
  rw [← el]
  have h : (fun (x0 : Value) => span_is_g5 (fun x0 H => span_is_g6 (fun x2 H => R x2 H) x0 H) x0 H) (l.getD 0 undef) := by rw [el]; exact h
  clear el
  refine seqI (c := span_is_c1) rfl ?_
  refine regI hl (Eq.mpr (span_is_g5_e _ (fun i => l.getD i undef) _) h) ?_
  clear h hl
  intro l H hl h
  refine thenN ?_
  refine seqI (c := span_is_c3) rfl ?_
  refine regI hl (Eq.mpr (span_is_g6_e _ (fun i => l.getD i undef) _) h) ?_
  clear h hl
  intro l H hl h
  refine thenN ?_
  refine retI rfl ?_
  exact h
theorem span_is_ok : okB span_is_pi span_is_c1 = true := by kernel_rfl
theorem span_is_ev0 (x0 : Value) (R : Value → Heap → Prop) (H : Heap) (h : span_is x0 R H) : EvL P N.span_is #[x0] H R :=
  EvF_intro (args := [x0]) (k := 8) (rs := span_is_rs) tab_ok mixed Try.func26 (show Try.f26.body = some span_is_c1 by kernel_rfl) Try.call26 Try.ntmps26 (by kernel_rfl) (okCode_of _ span_is_ok) rfl (span_is_i R x0 H h)
theorem span_is_ev (x0 : Value) (R : Value → Heap → Prop) (H : Heap) (h : span_is x0 R H) : EvF P N.span_is #[x0] H R := .inl (span_is_ev0 x0 R H h)
/- 27: (*sounder/span.Set).first -/
def span_Set_first_rs : List ResultVar := [.tmp 4]
noncomputable def span_Set_first_c2 : Code := subC (bodyC Try.f27) [0]
noncomputable def span_Set_first_c4 : Code := subC (bodyC Try.f27) [1, 0]
noncomputable def span_Set_first_c3 : Code := .seq span_Set_first_c4 Code.ret
noncomputable def span_Set_first_c1 : Code := .seq span_Set_first_c2 span_Set_first_c3
def span_Set_first_pi (_ : Nat) : Pl := .nil
def span_Set_first_g5 (S : Value → Value → Heap → Prop) (x0 x1 : Value) (H : Heap) : Prop :=
  newE 23 (Value.cells x0) H fun v2 H1 =>
  newE 3 (Value.cells x1) H1 fun v3 H2 =>
  S v2 v3 H2
theorem span_Set_first_g5_e (S : Value → Value → Heap → Prop) (x : Nat → Value) (H : Heap) : wpE tab P span_Set_first_pi span_Set_first_c2 (nQ fun l H => S (l.getD 2 undef) (l.getD 3 undef) H) ((List.range 12).map x) H = span_Set_first_g5 S (x 0) (x 1) H := by kernel_rfl
def span_Set_first_g6 (S : Value → Heap → Prop) (x2 x3 : Value) (H : Heap) : Prop :=
  bnd (ldE false 1 x2 H) fun v5 =>
  bnd (nilV v5) fun v6 =>
  bnd (faV 1 v6) fun v7 =>
  bnd (ldE false 1 v7 H) fun v8 =>
  bnd (lenV v8) fun v9 =>
  EvF P N.sort_Search #[v9, (.func (.func N.span_Set_first_1) #[] #[x2, x3])] H fun v11 H1 =>
  S v11 H1
theorem span_Set_first_g6_e (S : Value → Heap → Prop) (x : Nat → Value) (H : Heap) : wpE tab P span_Set_first_pi span_Set_first_c4 (nQ fun l H => S (l.getD 4 undef) H) ((List.range 12).map x) H = span_Set_first_g6 S (x 2) (x 3) H := by kernel_rfl
def span_Set_first (x0 x1 : Value) (R : Value → Heap → Prop) (H : Heap) : Prop :=
  span_Set_first_g5 (fun x2 x3 H => span_Set_first_g6 (fun x4 H => R x4 H) x2 x3 H) x0 x1 H
theorem span_Set_first_i (R : Value → Heap → Prop) (x0 x1 : Value) (H : Heap) (h : span_Set_first x0 x1 R H) : wpE tab P span_Set_first_pi span_Set_first_c1 (retQ tab span_Set_first_rs R) [x0, x1, undef, undef, undef, undef, undef, undef, undef, undef, undef, undef] H := by
  obtain ⟨l, hl, el⟩ : ∃ l : List Value, l.length = 12 ∧ l = [x0, x1, undef, undef, undef, undef, undef, undef, undef, undef, undef, undef] := ⟨_, rfl, rfl⟩
  rw [← el]
  have h : (fun (x0 x1 : Value) => span_Set_first_g5 (fun x2 x3 H => span_Set_first_g6 (fun x4 H => R x4 H) x2 x3 H) x0 x1 H) (l.getD 0 undef) (l.getD 1 undef) := by rw [el]; exact h
  clear el
  refine seqI (c := span_Set_first_c1) rfl ?_
  refine regI hl (Eq.mpr (span_Set_first_g5_e _ (fun i => l.getD i undef) _) h) ?_
  clear h hl
  intro l H hl h
  refine thenN ?_
  refine seqI (c := span_Set_first_c3) rfl ?_
  refine regI hl (Eq.mpr (span_Set_first_g6_e _ (fun i => l.getD i undef) _) h) ?_
  clear h hl
  intro l H hl h
  refine thenN ?_
  refine retI rfl ?_
  exact h
theorem span_Set_first_ok : okB span_Set_first_pi span_Set_first_c1 = true := by kernel_rfl
theorem span_Set_first_ev0 (x0 x1 : Value) (R : Value → Heap → Prop) (H : Heap) (h : span_Set_first x0 x1 R H) : EvL P N.span_Set_first #[x0, x1] H R :=
  EvF_intro (args := [x0, x1]) (k := 10) (rs := span_Set_first_rs) tab_ok mixed Try.func27 (show Try.f27.body = some span_Set_first_c1 by kernel_rfl) Try.call27 Try.ntmps27 (by kernel_rfl) (okCode_of _ span_Set_first_ok) rfl (span_Set_first_i R x0 x1 H h)
theorem span_Set_first_ev (x0 x1 : Value) (R : Value → Heap → Prop) (H : Heap) (h : span_Set_first x0 x1 R H) : EvF P N.span_Set_first #[x0, x1] H R := .inl (span_Set_first_ev0 x0 x1 R H h)
/- 28: sort.Search -/
def sort_Search_rs : List ResultVar := [.tmp 4]
noncomputable def sort_Search_c2 : Code := subC (bodyC Try.f28) [0]
noncomputable def sort_Search_c4 : Code := subC (bodyC Try.f28) [1, 0]
noncomputable def sort_Search_c10 : Code := subC (bodyC Try.f28) [1, 1, 0, 0, 0, 0, 0]
noncomputable def sort_Search_c12 : Code := .exit 0
noncomputable def sort_Search_c11 : Code := .cond (.tmp 11) Code.skip sort_Search_c12
noncomputable def sort_Search_c9 : Code := .seq sort_Search_c10 sort_Search_c11
noncomputable def sort_Search_c15 : Code := subC (bodyC Try.f28) [1, 1, 0, 0, 0, 1, 0, 0]
noncomputable def sort_Search_c17 : Code := subC (bodyC Try.f28) [1, 1, 0, 0, 0, 1, 0, 1, 0]
noncomputable def sort_Search_c19 : Code := subC (bodyC Try.f28) [1, 1, 0, 0, 0, 1, 0, 1, 1, 0]
noncomputable def sort_Search_c20 : Code := subC (bodyC Try.f28) [1, 1, 0, 0, 0, 1, 0, 1, 1, 1]
noncomputable def sort_Search_c18 : Code := .cond (.tmp 21) sort_Search_c19 sort_Search_c20
noncomputable def sort_Search_c16 : Code := .seq sort_Search_c17 sort_Search_c18
noncomputable def sort_Search_c14 : Code := .seq sort_Search_c15 sort_Search_c16
noncomputable def sort_Search_c13 : Code := .block 1 sort_Search_c14
noncomputable def sort_Search_c8 : Code := .seq sort_Search_c9 sort_Search_c13
noncomputable def sort_Search_c7 : Code := .loop sort_Search_c8
noncomputable def sort_Search_c6 : Code := .block 0 sort_Search_c7
noncomputable def sort_Search_c22 : Code := subC (bodyC Try.f28) [1, 1, 1, 0]
noncomputable def sort_Search_c21 : Code := .seq sort_Search_c22 Code.ret
noncomputable def sort_Search_c5 : Code := .seq sort_Search_c6 sort_Search_c21
noncomputable def sort_Search_c3 : Code := .seq sort_Search_c4 sort_Search_c5
noncomputable def sort_Search_c1 : Code := .seq sort_Search_c2 sort_Search_c3
def sort_Search_pi (_ : Nat) : Pl := .nil
def sort_Search_g23 (S : Value → Value → Heap → Prop) (x0 x1 : Value) (H : Heap) : Prop :=
  S x0 x1 H
theorem sort_Search_g23_e (S : Value → Value → Heap → Prop) (x : Nat → Value) (H : Heap) : wpE tab P sort_Search_pi sort_Search_c2 (nQ fun l H => S (l.getD 0 undef) (l.getD 1 undef) H) ((List.range 26).map x) H = sort_Search_g23 S (x 0) (x 1) H := by kernel_rfl
def sort_Search_g24 (S : Value → Value → Value → Heap → Prop) (x0 x1 : Value) (H : Heap) : Prop :=
  S x1 (.int .i64 0) x0 H
theorem sort_Search_g24_e (S : Value → Value → Value → Heap → Prop) (x : Nat → Value) (H : Heap) : wpE tab P sort_Search_pi sort_Search_c4 (nQ fun l H => S (l.getD 1 undef) (l.getD 5 undef) (l.getD 6 undef) H) ((List.range 26).map x) H = sort_Search_g24 S (x 0) (x 1) H := by kernel_rfl
def sort_Search_g26 (S : Value → Value → Value → Value → Heap → Prop) (x1 x5 x6 : Value) (H : Heap) : Prop :=
  bnd (binV .int .lss x5 x6) fun v11 =>
  S x1 x5 x6 v11 H
theorem sort_Search_g26_e (S : Value → Value → Value → Value → Heap → Prop) (x : Nat → Value) (H : Heap) : wpE tab P sort_Search_pi sort_Search_c10 (nQ fun l H => S (l.getD 1 undef) (l.getD 5 undef) (l.getD 6 undef) (l.getD 11 undef) H) ((List.range 26).map x) H = sort_Search_g26 S (x 1) (x 5) (x 6) H := by kernel_rfl
def sort_Search_g27 (S : Value → Value → Value → Value → Heap → Prop) (x1 x5 x6 : Value) (H : Heap) : Prop :=
  bnd (binV .int .add x5 x6) fun v14 =>
  bnd (cvV .u64 v14) fun v15 =>
  bnd (binV .int .shr v15 (.int .u64 1)) fun v16 =>
  bnd (cvV .i64 v16) fun v17 =>
  S x1 x5 x6 v17 H
theorem sort_Search_g27_e (S : Value → Value → Value → Value → Heap → Prop) (x : Nat → Value) (H : Heap) : wpE tab P sort_Search_pi sort_Search_c15 (nQ fun l H => S (l.getD 1 undef) (l.getD 5 undef) (l.getD 6 undef) (l.getD 7 undef) H) ((List.range 26).map x) H = sort_Search_g27 S (x 1) (x 5) (x 6) H := by kernel_rfl
def sort_Search_g28 (S : Value → Value → Value → Value → Value → Heap → Prop) (x1 x5 x6 x7 : Value) (H : Heap) : Prop :=
  callV P x1 [x7] H fun v20 H1 =>
  bnd (unV .not v20) fun v21 =>
  S x1 x5 x6 x7 v21 H1
theorem sort_Search_g28_e (S : Value → Value → Value → Value → Value → Heap → Prop) (x : Nat → Value) (H : Heap) : wpE tab P sort_Search_pi sort_Search_c17 (nQ fun l H => S (l.getD 1 undef) (l.getD 5 undef) (l.getD 6 undef) (l.getD 7 undef) (l.getD 21 undef) H) ((List.range 26).map x) H = sort_Search_g28 S (x 1) (x 5) (x 6) (x 7) H := by kernel_rfl
def sort_Search_g29 (S : Value → Value → Value → Heap → Prop) (x1 x6 x7 : Value) (H : Heap) : Prop :=
  bnd (binV .int .add x7 (.int .i64 1)) fun v23 =>
  S x1 v23 x6 H
theorem sort_Search_g29_e (S : Value → Value → Value → Heap → Prop) (x : Nat → Value) (H : Heap) : wpE tab P sort_Search_pi sort_Search_c19 (nQ fun l H => S (l.getD 1 undef) (l.getD 5 undef) (l.getD 6 undef) H) ((List.range 26).map x) H = sort_Search_g29 S (x 1) (x 6) (x 7) H := by kernel_rfl
def sort_Search_g30 (S : Value → Value → Value → Heap → Prop) (x1 x5 x7 : Value) (H : Heap) : Prop :=
  S x1 x5 x7 H
theorem sort_Search_g30_e (S : Value → Value → Value → Heap → Prop) (x : Nat → Value) (H : Heap) : wpE tab P sort_Search_pi sort_Search_c20 (nQ fun l H => S (l.getD 1 undef) (l.getD 5 undef) (l.getD 6 undef) H) ((List.range 26).map x) H = sort_Search_g30 S (x 1) (x 5) (x 7) H := by kernel_rfl
def sort_Search_g31 (S : Value → Heap → Prop) (x5 : Value) (H : Heap) : Prop :=
  S x5 H
theorem sort_Search_g31_e (S : Value → Heap → Prop) (x : Nat → Value) (H : Heap) : wpE tab P sort_Search_pi sort_Search_c22 (nQ fun l H => S (l.getD 4 undef) H) ((List.range 26).map x) H = sort_Search_g31 S (x 5) H := by kernel_rfl
def sort_Search_s25 (x1 x5 x6 : Value) (K1 : Value → Value → Value →  Heap → Prop) (R : Value → Heap → Prop) (H : Heap) : Prop :=
  sort_Search_g26 (fun x1 x5 x6 x11 H => brV x11
  (sort_Search_g27 (fun x1 x5 x6 x7 H => sort_Search_g28 (fun x1 x5 x6 x7 x21 H => brV x21
  (sort_Search_g29 (fun x1 x5 x6 H => K1 x1 x5 x6 H) x1 x6 x7 H)
  (sort_Search_g30 (fun x1 x5 x6 H => K1 x1 x5 x6 H) x1 x5 x7 H)) x1 x5 x6 x7 H) x1 x5 x6 H)
  (sort_Search_g31 (fun x4 H => R x4 H) x5 H)) x1 x5 x6 H
noncomputable def sort_Search_q32 (R : Value → Heap → Prop) : Exit → List Value → Heap → Prop := (retQ tab sort_Search_rs R)
noncomputable def sort_Search_q33 (R : Value → Heap → Prop) : Exit → List Value → Heap → Prop := (thenE (fun l H => wpE tab P sort_Search_pi sort_Search_c21 (sort_Search_q32 R) l H) (sort_Search_q32 R))
noncomputable def sort_Search_q34 (R : Value → Heap → Prop) : Exit → List Value → Heap → Prop := (blkE 0 (sort_Search_q33 R))
noncomputable def sort_Search_q35 (K1 : Value → Value → Value →  Heap → Prop) (R : Value → Heap → Prop) : Exit → List Value → Heap → Prop := (thenE (fun l H => K1 (l.getD 1 undef) (l.getD 5 undef) (l.getD 6 undef) H) (sort_Search_q34 R))
theorem sort_Search_s25_i (K1 : Value → Value → Value →  Heap → Prop) (R : Value → Heap → Prop) (l : List Value) (H : Heap) (hl : l.length = 26) (h : sort_Search_s25 (l.getD 1 undef) (l.getD 5 undef) (l.getD 6 undef) K1 R H) : wpE tab P sort_Search_pi sort_Search_c8 (sort_Search_q35 K1 R) l H := by
  refine seqI (c := sort_Search_c8) rfl ?_
  refine seqI (c := sort_Search_c9) rfl ?_
  refine regI hl (Eq.mpr (sort_Search_g26_e _ (fun i => l.getD i undef) _) h) ?_
  clear h hl
  intro l H hl h
  refine thenN ?_
  refine condI (c := sort_Search_c11) rfl h ?_ ?_
  · clear h; intro h
    refine skipI rfl ?_
    refine thenN ?_
    refine blockI (c := sort_Search_c13) rfl ?_
    refine seqI (c := sort_Search_c14) rfl ?_
    refine regI hl (Eq.mpr (sort_Search_g27_e _ (fun i => l.getD i undef) _) h) ?_
    clear h hl
    intro l H hl h
    refine thenN ?_
    refine seqI (c := sort_Search_c16) rfl ?_
    refine regI hl (Eq.mpr (sort_Search_g28_e _ (fun i => l.getD i undef) _) h) ?_
    clear h hl
    intro l H hl h
    refine thenN ?_
    refine condI (c := sort_Search_c18) rfl h ?_ ?_
    · clear h; intro h
      refine regI hl (Eq.mpr (sort_Search_g29_e _ (fun i => l.getD i undef) _) h) ?_
      clear h hl
      intro l H hl h
      refine blkN ?_
      refine thenN ?_
      exact h
    · clear h; intro h
      refine regI hl (Eq.mpr (sort_Search_g30_e _ (fun i => l.getD i undef) _) h) ?_
      clear h hl
      intro l H hl h
      refine blkN ?_
      refine thenN ?_
      exact h
  · clear h; intro h
    refine exitI (c := sort_Search_c12) rfl ?_
    refine thenX ?_
    refine thenX ?_
    refine blkX ?_
    refine thenN ?_
    refine seqI (c := sort_Search_c21) rfl ?_
    refine regI hl (Eq.mpr (sort_Search_g31_e _ (fun i => l.getD i undef) _) h) ?_
    clear h hl
    intro l H hl h
    refine thenN ?_
    refine retI rfl ?_
    exact h
def sort_Search_l36 (x1 x5 x6 : Value) (R : Value → Heap → Prop) (H : Heap) : Prop :=
  ∃ (I : Value → Value → Heap → Prop) (μ : Value → Value → Heap → Nat), I x5 x6 H ∧ ∀ (y5 : Value) (y6 : Value) (H : Heap), I y5 y6 H → sort_Search_s25 x1 y5 y6 (fun z1 z5 z6 H' => z1 = x1 ∧ (I z5 z6 H' ∧ μ z5 z6 H' < μ y5 y6 H)) R H
def sort_Search (x0 x1 : Value) (R : Value → Heap → Prop) (H : Heap) : Prop :=
  sort_Search_g23 (fun x0 x1 H => sort_Search_g24 (fun x1 x5 x6 H => sort_Search_l36 x1 x5 x6 R H) x0 x1 H) x0 x1 H
theorem sort_Search_i (R : Value → Heap → Prop) (x0 x1 : Value) (H : Heap) (h : sort_Search x0 x1 R H) : wpE tab P sort_Search_pi sort_Search_c1 (retQ tab sort_Search_rs R) [x0, x1, undef, undef, undef, undef, undef, undef, undef, undef, undef, undef, undef, undef, undef, undef, undef, undef, undef, undef, undef, undef, undef, undef, undef, undef] H := by
  obtain ⟨l, hl, el⟩ : ∃ l : List Value, l.length = 26 ∧ l = [x0, x1, undef, undef, undef, undef, undef, undef, undef, undef, undef, undef, undef, undef, undef, undef, undef, undef, undef, undef, undef, undef, undef, undef, undef, undef] := ⟨_, rfl, rfl⟩
  rw [← el]
  have h : (fun (x0 x1 : Value) => sort_Search_g23 (fun x0 x1 H => sort_Search_g24 (fun x1 x5 x6 H => sort_Search_l36 x1 x5 x6 R H) x0 x1 H) x0 x1 H) (l.getD 0 undef) (l.getD 1 undef) := by rw [el]; exact h
  clear el
  refine seqI (c := sort_Search_c1) rfl ?_
  refine regI hl (Eq.mpr (sort_Search_g23_e _ (fun i => l.getD i undef) _) h) ?_
  clear h hl
  intro l H hl h
  refine thenN ?_
  refine seqI (c := sort_Search_c3) rfl ?_
  refine regI hl (Eq.mpr (sort_Search_g24_e _ (fun i => l.getD i undef) _) h) ?_
  clear h hl
  intro l H hl h
  refine thenN ?_
  refine seqI (c := sort_Search_c5) rfl ?_
  refine blockI (c := sort_Search_c6) rfl ?_
  obtain ⟨I, μ, h0, hr⟩ := h
  refine loopI (c := sort_Search_c7) rfl (fun l' H' => l'.getD 1 undef = l.getD 1 undef ∧ I (l'.getD 5 undef) (l'.getD 6 undef) H') (fun l' H' => μ (l'.getD 5 undef) (l'.getD 6 undef) H') hl ⟨rfl, h0⟩ ?_
  rintro l1 H1 hl1 ⟨e1, hI⟩
  have hb := hr (l1.getD 5 undef) (l1.getD 6 undef) H1 hI
  rw [← e1] at hb
  refine wpE_mono _ l1 H1 hl1 ?_ (sort_Search_s25_i _ R l1 H1 hl1 hb)
  intro e l2 H2 hl2 hq
  cases e with
  | normal => exact fun _ => (by obtain ⟨d1, g1, g2⟩ := hq; exact ⟨⟨d1.trans e1, g1⟩, g2⟩)
  | _ => exact hq
theorem sort_Search_ok : okB sort_Search_pi sort_Search_c1 = true := by kernel_rfl
theorem sort_Search_ev0 (x0 x1 : Value) (R : Value → Heap → Prop) (H : Heap) (h : sort_Search x0 x1 R H) : EvL P N.sort_Search #[x0, x1] H R :=
  EvF_intro (args := [x0, x1]) (k := 24) (rs := sort_Search_rs) tab_ok mixed Try.func28 (show Try.f28.body = some sort_Search_c1 by kernel_rfl) Try.call28 Try.ntmps28 (by kernel_rfl) (okCode_of _ sort_Search_ok) rfl (sort_Search_i R x0 x1 H h)
theorem sort_Search_ev (x0 x1 : Value) (R : Value → Heap → Prop) (H : Heap) (h : sort_Search x0 x1 R H) : EvF P N.sort_Search #[x0, x1] H R := .inl (sort_Search_ev0 x0 x1 R H h)
/- 29: (*sounder/span.Set).Add$1 -/
def span_Set_Add_1_rs : List ResultVar := [.tmp 4]
noncomputable def span_Set_Add_1_c2 : Code := subC (bodyC Try.f29) [0]
noncomputable def span_Set_Add_1_c4 : Code := subC (bodyC Try.f29) [1, 0]
noncomputable def span_Set_Add_1_c3 : Code := .seq span_Set_Add_1_c4 Code.ret
noncomputable def span_Set_Add_1_c1 : Code := .seq span_Set_Add_1_c2 span_Set_Add_1_c3
def span_Set_Add_1_pi (i : Nat) : Pl := match i with
  | 1 => (ones [0, 1, 2, 3, 4, 5, 6, 7, 8, 9, 10, 11] .nil)
  | _ => .nil
def span_Set_Add_1_g5 (S : Value → Value → Value → Heap → Prop) (x0 x1 x2 : Value) (H : Heap) : Prop :=
  S x0 x1 x2 H
theorem span_Set_Add_1_g5_e (S : Value → Value → Value → Heap → Prop) (x : Nat → Value) (H : Heap) : wpE tab P span_Set_Add_1_pi span_Set_Add_1_c2 (nQ fun l H => S (l.getD 0 undef) (l.getD 1 undef) (l.getD 2 undef) H) ((List.range 16).map x) H = span_Set_Add_1_g5 S (x 0) (x 1) (x 2) H := by kernel_rfl
def span_Set_Add_1_g6 (S : Value → Heap → Prop) (x0 x1 x2 : Value) (H : Heap) : Prop :=
  bnd (ldE false 1 x1 H) fun v5 =>
  bnd (nilV v5) fun v6 =>
  bnd (faV 1 v6) fun v7 =>
  bnd (ldE false 1 v7 H) fun v8 =>
  bnd (ixSV 2 v8 x0) fun v10 =>
  bnd (faV 0 v10) fun v11 =>
  bnd (ldE false 1 v11 H) fun v12 =>
  bnd (ldE false 1 x2 H) fun v13 =>
  bnd (binV .int .add v13 (.int .i64 1)) fun v14 =>
  bnd (binV .int .gtr v12 v14) fun v15 =>
  S v15 H
theorem span_Set_Add_1_g6_e (S : Value → Heap → Prop) (x : Nat → Value) (H : Heap) : wpE tab P span_Set_Add_1_pi span_Set_Add_1_c4 (nQ fun l H => S (l.getD 4 undef) H) ((List.range 16).map x) H = span_Set_Add_1_g6 S (x 0) (x 1) (x 2) H := by kernel_rfl
def span_Set_Add_1 (x0 x1 x2 : Value) (R : Value → Heap → Prop) (H : Heap) : Prop :=
  span_Set_Add_1_g5 (fun x0 x1 x2 H => span_Set_Add_1_g6 (fun x4 H => R x4 H) x0 x1 x2 H) x0 x1 x2 H
theorem span_Set_Add_1_i (R : Value → Heap → Prop) (x0 x1 x2 : Value) (H : Heap) (h : span_Set_Add_1 x0 x1 x2 R H) : wpE tab P span_Set_Add_1_pi span_Set_Add_1_c1 (retQ tab span_Set_Add_1_rs R) [x0, x1, x2, undef, undef, undef, undef, undef, undef, undef, undef, undef, undef, undef, undef, undef] H := by
  obtain ⟨l, hl, el⟩ : ∃ l : List Value, l.length = 16 ∧ l = [x0, x1, x2, undef, undef, undef, undef, undef, undef, undef, undef, undef, undef, undef, undef, undef] := ⟨_, rfl, rfl⟩
  rw [← el]
  have h : (fun (x0 x1 x2 : Value) => span_Set_Add_1_g5 (fun x0 x1 x2 H => span_Set_Add_1_g6 (fun x4 H => R x4 H) x0 x1 x2 H) x0 x1 x2 H) (l.getD 0 undef) (l.getD 1 undef) (l.getD 2 undef) := by rw [el]; exact h
  clear el
  refine seqI (c := span_Set_Add_1_c1) rfl ?_
  refine regI hl (Eq.mpr (span_Set_Add_1_g5_e _ (fun i => l.getD i undef) _) h) ?_
  clear h hl
  intro l H hl h
  refine thenN ?_
  refine seqI (c := span_Set_Add_1_c3) rfl ?_
  refine regI hl (Eq.mpr (span_Set_Add_1_g6_e _ (fun i => l.getD i undef) _) h) ?_
  clear h hl
  intro l H hl h
  refine thenN ?_
  refine retI rfl ?_
  exact h
theorem span_Set_Add_1_ok : okB span_Set_Add_1_pi span_Set_Add_1_c1 = true := by kernel_rfl
theorem span_Set_Add_1_ev0 (x0 x1 x2 : Value) (R : Value → Heap → Prop) (H : Heap) (h : span_Set_Add_1 x0 x1 x2 R H) : EvL P N.span_Set_Add_1 #[x0, x1, x2] H R :=
  EvF_intro (args := [x0, x1, x2]) (k := 13) (rs := span_Set_Add_1_rs) tab_ok mixed Try.func29 (show Try.f29.body = some span_Set_Add_1_c1 by kernel_rfl) Try.call29 Try.ntmps29 (by kernel_rfl) (okCode_of _ span_Set_Add_1_ok) rfl (span_Set_Add_1_i R x0 x1 x2 H h)
theorem span_Set_Add_1_ev (x0 x1 x2 : Value) (R : Value → Heap → Prop) (H : Heap) (h : span_Set_Add_1 x0 x1 x2 R H) : EvF P N.span_Set_Add_1 #[x0, x1, x2] H R := .inl (span_Set_Add_1_ev0 x0 x1 x2 R H h)
/- 30: slices.Replace[[]sounder/api.Range,sounder/api.Range] -/
def slices_Replace_Range_rs : List ResultVar := [.tmp 8]
noncomputable def slices_Replace_Range_c2 : Code := subC (bodyC Try.f30) [0]
noncomputable def slices_Replace_Range_c4 : Code := subC (bodyC Try.f30) [1, 0]
noncomputable def slices_Replace_Range_c7 : Code := subC (bodyC Try.f30) [1, 1, 0, 0]
noncomputable def slices_Replace_Range_c10 : Code := subC (bodyC Try.f30) [1, 1, 0, 1, 0, 0]
noncomputable def slices_Replace_Range_c9 : Code := .seq slices_Replace_Range_c10 Code.ret
noncomputable def slices_Replace_Range_c8 : Code := .cond (.tmp 21) slices_Replace_Range_c9 Code.skip
noncomputable def slices_Replace_Range_c6 : Code := .seq slices_Replace_Range_c7 slices_Replace_Range_c8
noncomputable def slices_Replace_Range_c13 : Code := subC (bodyC Try.f30) [1, 1, 1, 0, 0]
noncomputable def slices_Replace_Range_c16 : Code := subC (bodyC Try.f30) [1, 1, 1, 0, 1, 0, 0]
noncomputable def slices_Replace_Range_c19 : Code := subC (bodyC Try.f30) [1, 1, 1, 0, 1, 0, 1, 0, 0]
noncomputable def slices_Replace_Range_c21 : Code := subC (bodyC Try.f30) [1, 1, 1, 0, 1, 0, 1, 0, 1, 0]
noncomputable def slices_Replace_Range_c20 : Code := .cond (.tmp 39) slices_Replace_Range_c21 Code.skip
noncomputable def slices_Replace_Range_c18 : Code := .seq slices_Replace_Range_c19 slices_Replace_Range_c20
noncomputable def slices_Replace_Range_c23 : Code := subC (bodyC Try.f30) [1, 1, 1, 0, 1, 0, 1, 1, 0]
noncomputable def slices_Replace_Range_c22 : Code := .seq slices_Replace_Range_c23 Code.ret
noncomputable def slices_Replace_Range_c17 : Code := .seq slices_Replace_Range_c18 slices_Replace_Range_c22
noncomputable def slices_Replace_Range_c15 : Code := .seq slices_Replace_Range_c16 slices_Replace_Range_c17
noncomputable def slices_Replace_Range_c14 : Code := .cond (.tmp 29) slices_Replace_Range_c15 Code.skip
noncomputable def slices_Replace_Range_c12 : Code := .seq slices_Replace_Range_c13 slices_Replace_Range_c14
noncomputable def slices_Replace_Range_c25 : Code := subC (bodyC Try.f30) [1, 1, 1, 1, 0]
noncomputable def slices_Replace_Range_c28 : Code := subC (bodyC Try.f30) [1, 1, 1, 1, 1, 0, 0]
noncomputable def slices_Replace_Range_c31 : Code := subC (bodyC Try.f30) [1, 1, 1, 1, 1, 0, 1, 0, 0]
noncomputable def slices_Replace_Range_c33 : Code := subC (bodyC Try.f30) [1, 1, 1, 1, 1, 0, 1, 0, 1, 0]
noncomputable def slices_Replace_Range_c35 : Code := subC (bodyC Try.f30) [1, 1, 1, 1, 1, 0, 1, 0, 1, 1, 0]
noncomputable def slices_Replace_Range_c37 : Code := subC (bodyC Try.f30) [1, 1, 1, 1, 1, 0, 1, 0, 1, 1, 1, 0]
noncomputable def slices_Replace_Range_c36 : Code := .seq slices_Replace_Range_c37 Code.ret
noncomputable def slices_Replace_Range_c34 : Code := .seq slices_Replace_Range_c35 slices_Replace_Range_c36
noncomputable def slices_Replace_Range_c32 : Code := .seq slices_Replace_Range_c33 slices_Replace_Range_c34
noncomputable def slices_Replace_Range_c30 : Code := .seq slices_Replace_Range_c31 slices_Replace_Range_c32
noncomputable def slices_Replace_Range_c29 : Code := .cond (.tmp 60) slices_Replace_Range_c30 Code.skip
noncomputable def slices_Replace_Range_c27 : Code := .seq slices_Replace_Range_c28 slices_Replace_Range_c29
noncomputable def slices_Replace_Range_c39 : Code := subC (bodyC Try.f30) [1, 1, 1, 1, 1, 1, 0]
noncomputable def slices_Replace_Range_c42 : Code := subC (bodyC Try.f30) [1, 1, 1, 1, 1, 1, 1, 0, 0]
noncomputable def slices_Replace_Range_c45 : Code := subC (bodyC Try.f30) [1, 1, 1, 1, 1, 1, 1, 0, 1, 0, 0]
noncomputable def slices_Replace_Range_c47 : Code := subC (bodyC Try.f30) [1, 1, 1, 1, 1, 1, 1, 0, 1, 0, 1, 0]
noncomputable def slices_Replace_Range_c49 : Code := subC (bodyC Try.f30) [1, 1, 1, 1, 1, 1, 1, 0, 1, 0, 1, 1, 0]
noncomputable def slices_Replace_Range_c51 : Code := subC (bodyC Try.f30) [1, 1, 1, 1, 1, 1, 1, 0, 1, 0, 1, 1, 1, 0]
noncomputable def slices_Replace_Range_c50 : Code := .seq slices_Replace_Range_c51 Code.ret
noncomputable def slices_Replace_Range_c48 : Code := .seq slices_Replace_Range_c49 slices_Replace_Range_c50
noncomputable def slices_Replace_Range_c46 : Code := .seq slices_Replace_Range_c47 slices_Replace_Range_c48
noncomputable def slices_Replace_Range_c44 : Code := .seq slices_Replace_Range_c45 slices_Replace_Range_c46
noncomputable def slices_Replace_Range_c43 : Code := .cond (.tmp 92) slices_Replace_Range_c44 Code.skip
noncomputable def slices_Replace_Range_c41 : Code := .seq slices_Replace_Range_c42 slices_Replace_Range_c43
noncomputable def slices_Replace_Range_c54 : Code := subC (bodyC Try.f30) [1, 1, 1, 1, 1, 1, 1, 1, 0, 0]
noncomputable def slices_Replace_Range_c57 : Code := subC (bodyC Try.f30) [1, 1, 1, 1, 1, 1, 1, 1, 0, 1, 0, 0]
noncomputable def slices_Replace_Range_c59 : Code := subC (bodyC Try.f30) [1, 1, 1, 1, 1, 1, 1, 1, 0, 1, 0, 1, 0]
noncomputable def slices_Replace_Range_c61 : Code := subC (bodyC Try.f30) [1, 1, 1, 1, 1, 1, 1, 1, 0, 1, 0, 1, 1, 0]
noncomputable def slices_Replace_Range_c60 : Code := .seq slices_Replace_Range_c61 Code.ret
noncomputable def slices_Replace_Range_c58 : Code := .seq slices_Replace_Range_c59 slices_Replace_Range_c60
noncomputable def slices_Replace_Range_c56 : Code := .seq slices_Replace_Range_c57 slices_Replace_Range_c58
noncomputable def slices_Replace_Range_c55 : Code := .cond (.tmp 120) slices_Replace_Range_c56 Code.skip
noncomputable def slices_Replace_Range_c53 : Code := .seq slices_Replace_Range_c54 slices_Replace_Range_c55
noncomputable def slices_Replace_Range_c63 : Code := subC (bodyC Try.f30) [1, 1, 1, 1, 1, 1, 1, 1, 1, 0]
noncomputable def slices_Replace_Range_c66 : Code := subC (bodyC Try.f30) [1, 1, 1, 1, 1, 1, 1, 1, 1, 1, 0, 0]
noncomputable def slices_Replace_Range_c69 : Code := subC (bodyC Try.f30) [1, 1, 1, 1, 1, 1, 1, 1, 1, 1, 0, 1, 0, 0]
noncomputable def slices_Replace_Range_c71 : Code := subC (bodyC Try.f30) [1, 1, 1, 1, 1, 1, 1, 1, 1, 1, 0, 1, 0, 1, 0]
noncomputable def slices_Replace_Range_c73 : Code := subC (bodyC Try.f30) [1, 1, 1, 1, 1, 1, 1, 1, 1, 1, 0, 1, 0, 1, 1, 0]
noncomputable def slices_Replace_Range_c75 : Code := subC (bodyC Try.f30) [1, 1, 1, 1, 1, 1, 1, 1, 1, 1, 0, 1, 0, 1, 1, 1, 0]
noncomputable def slices_Replace_Range_c74 : Code := .seq slices_Replace_Range_c75 Code.ret
noncomputable def slices_Replace_Range_c72 : Code := .seq slices_Replace_Range_c73 slices_Replace_Range_c74
noncomputable def slices_Replace_Range_c70 : Code := .seq slices_Replace_Range_c71 slices_Replace_Range_c72
noncomputable def slices_Replace_Range_c68 : Code := .seq slices_Replace_Range_c69 slices_Replace_Range_c70
noncomputable def slices_Replace_Range_c67 : Code := .cond (.tmp 149) slices_Replace_Range_c68 Code.skip
noncomputable def slices_Replace_Range_c65 : Code := .seq slices_Replace_Range_c66 slices_Replace_Range_c67
noncomputable def slices_Replace_Range_c78 : Code := subC (bodyC Try.f30) [1, 1, 1, 1, 1, 1, 1, 1, 1, 1, 1, 0, 0]
noncomputable def slices_Replace_Range_c81 : Code := subC (bodyC Try.f30) [1, 1, 1, 1, 1, 1, 1, 1, 1, 1, 1, 0, 1, 0, 0]
noncomputable def slices_Replace_Range_c83 : Code := subC (bodyC Try.f30) [1, 1, 1, 1, 1, 1, 1, 1, 1, 1, 1, 0, 1, 0, 1, 0]
noncomputable def slices_Replace_Range_c85 : Code := subC (bodyC Try.f30) [1, 1, 1, 1, 1, 1, 1, 1, 1, 1, 1, 0, 1, 0, 1, 1, 0]
noncomputable def slices_Replace_Range_c87 : Code := subC (bodyC Try.f30) [1, 1, 1, 1, 1, 1, 1, 1, 1, 1, 1, 0, 1, 0, 1, 1, 1, 0]
noncomputable def slices_Replace_Range_c86 : Code := .seq slices_Replace_Range_c87 Code.ret
noncomputable def slices_Replace_Range_c84 : Code := .seq slices_Replace_Range_c85 slices_Replace_Range_c86
noncomputable def slices_Replace_Range_c82 : Code := .seq slices_Replace_Range_c83 slices_Replace_Range_c84
noncomputable def slices_Replace_Range_c80 : Code := .seq slices_Replace_Range_c81 slices_Replace_Range_c82
noncomputable def slices_Replace_Range_c79 : Code := .cond (.tmp 178) slices_Replace_Range_c80 Code.skip
noncomputable def slices_Replace_Range_c77 : Code := .seq slices_Replace_Range_c78 slices_Replace_Range_c79
noncomputable def slices_Replace_Range_c89 : Code := subC (bodyC Try.f30) [1, 1, 1, 1, 1, 1, 1, 1, 1, 1, 1, 1, 0]
noncomputable def slices_Replace_Range_c91 : Code := subC (bodyC Try.f30) [1, 1, 1, 1, 1, 1, 1, 1, 1, 1, 1, 1, 1, 0]
noncomputable def slices_Replace_Range_c93 : Code := subC (bodyC Try.f30) [1, 1, 1, 1, 1, 1, 1, 1, 1, 1, 1, 1, 1, 1, 0]
noncomputable def slices_Replace_Range_c95 : Code := subC (bodyC Try.f30) [1, 1, 1, 1, 1, 1, 1, 1, 1, 1, 1, 1, 1, 1, 1, 0]
noncomputable def slices_Replace_Range_c94 : Code := .seq slices_Replace_Range_c95 Code.ret
noncomputable def slices_Replace_Range_c92 : Code := .seq slices_Replace_Range_c93 slices_Replace_Range_c94
noncomputable def slices_Replace_Range_c90 : Code := .seq slices_Replace_Range_c91 slices_Replace_Range_c92
noncomputable def slices_Replace_Range_c88 : Code := .seq slices_Replace_Range_c89 slices_Replace_Range_c90
noncomputable def slices_Replace_Range_c76 : Code := .seq slices_Replace_Range_c77 slices_Replace_Range_c88
noncomputable def slices_Replace_Range_c64 : Code := .seq slices_Replace_Range_c65 slices_Replace_Range_c76
noncomputable def slices_Replace_Range_c62 : Code := .seq slices_Replace_Range_c63 slices_Replace_Range_c64
noncomputable def slices_Replace_Range_c52 : Code := .seq slices_Replace_Range_c53 slices_Replace_Range_c62
noncomputable def slices_Replace_Range_c40 : Code := .seq slices_Replace_Range_c41 slices_Replace_Range_c52
noncomputable def slices_Replace_Range_c38 : Code := .seq slices_Replace_Range_c39 slices_Replace_Range_c40
noncomputable def slices_Replace_Range_c26 : Code := .seq slices_Replace_Range_c27 slices_Replace_Range_c38
noncomputable def slices_Replace_Range_c24 : Code := .seq slices_Replace_Range_c25 slices_Replace_Range_c26
noncomputable def slices_Replace_Range_c11 : Code := .seq slices_Replace_Range_c12 slices_Replace_Range_c24
noncomputable def slices_Replace_Range_c5 : Code := .seq slices_Replace_Range_c6 slices_Replace_Range_c11
noncomputable def slices_Replace_Range_c3 : Code := .seq slices_Replace_Range_c4 slices_Replace_Range_c5
noncomputable def slices_Replace_Range_c1 : Code := .seq slices_Replace_Range_c2 slices_Replace_Range_c3
def slices_Replace_Range_pi (i : Nat) : Pl := match i with
  | 9 => (ones [0, 1, 2, 3, 4, 5, 6, 7, 8, 9, 10, 11, 12] .nil)
  | 13 => (ones [0, 1, 2, 3, 4, 5, 6, 7, 8, 9] .nil)
  | 18 => (ones [0, 1, 2, 3, 4, 5, 6, 7, 8, 9] .nil)
  | 22 => (ones [0, 1, 2, 3, 4, 5, 6, 7, 8, 9] .nil)
  | 27 => (ones [0, 1, 2, 3, 4, 5, 6, 7] .nil)
  | 28 => (ones [0, 1, 2, 3, 4, 5, 6, 7] .nil)
  | 32 => (ones [0, 1, 2, 3, 4, 5, 6, 7] .nil)
  | 33 => (ones [0, 1, 2, 3, 4, 5, 6, 7] .nil)
  | 38 => (ones [0, 1, 2, 3, 4, 5, 6, 7, 8, 9, 10, 11] .nil)
  | _ => .nil
def slices_Replace_Range_g96 (S : Value → Value → Value → Value → Heap → Prop) (x0 x1 x2 x3 : Value) (H : Heap) : Prop :=
  S x0 x1 x2 x3 H
theorem slices_Replace_Range_g96_e (S : Value → Value → Value → Value → Heap → Prop) (x : Nat → Value) (H : Heap) : wpE tab P slices_Replace_Range_pi slices_Replace_Range_c2 (nQ fun l H => S (l.getD 0 undef) (l.getD 1 undef) (l.getD 2 undef) (l.getD 3 undef) H) ((List.range 224).map x) H = slices_Replace_Range_g96 S (x 0) (x 1) (x 2) (x 3) H := by kernel_rfl
def slices_Replace_Range_g97 (S : Value → Value → Value → Value → Heap → Prop) (x0 x1 x2 x3 : Value) (H : Heap) : Prop :=
  bnd (sliceV 2 x0 (some x1) (some x2)) fun _ =>
  S x0 x1 x2 x3 H
theorem slices_Replace_Range_g97_e (S : Value → Value → Value → Value → Heap → Prop) (x : Nat → Value) (H : Heap) : wpE tab P slices_Replace_Range_pi slices_Replace_Range_c4 (nQ fun l H => S (l.getD 0 undef) (l.getD 1 undef) (l.getD 2 undef) (l.getD 3 undef) H) ((List.range 224).map x) H = slices_Replace_Range_g97 S (x 0) (x 1) (x 2) (x 3) H := by kernel_rfl
def slices_Replace_Range_g98 (S : Value → Value → Value → Value → Value → Heap → Prop) (x0 x1 x2 x3 : Value) (H : Heap) : Prop :=
  bnd (binV .int .eql x1 x2) fun v21 =>
  S x0 x1 x2 x3 v21 H
theorem slices_Replace_Range_g98_e (S : Value → Value → Value → Value → Value → Heap → Prop) (x : Nat → Value) (H : Heap) : wpE tab P slices_Replace_Range_pi slices_Replace_Range_c7 (nQ fun l H => S (l.getD 0 undef) (l.getD 1 undef) (l.getD 2 undef) (l.getD 3 undef) (l.getD 21 undef) H) ((List.range 224).map x) H = slices_Replace_Range_g98 S (x 0) (x 1) (x 2) (x 3) H := by kernel_rfl
def slices_Replace_Range_g99 (S : Value → Heap → Prop) (x0 x1 x3 : Value) (H : Heap) : Prop :=
  EvF P N.slices_Insert_Range #[x0, x1, x3] H fun v25 H1 =>
  S v25 H1
theorem slices_Replace_Range_g99_e (S : Value → Heap → Prop) (x : Nat → Value) (H : Heap) : wpE tab P slices_Replace_Range_pi slices_Replace_Range_c10 (nQ fun l H => S (l.getD 8 undef) H) ((List.range 224).map x) H = slices_Replace_Range_g99 S (x 0) (x 1) (x 3) H := by kernel_rfl
def slices_Replace_Range_g100 (S : Value → Value → Value → Value → Value → Heap → Prop) (x0 x1 x2 x3 : Value) (H : Heap) : Prop :=
  bnd (lenV x0) fun v28 =>
  bnd (binV .int .eql x2 v28) fun v29 =>
  S x0 x1 x2 x3 v29 H
theorem slices_Replace_Range_g100_e (S : Value → Value → Value → Value → Value → Heap → Prop) (x : Nat → Value) (H : Heap) : wpE tab P slices_Replace_Range_pi slices_Replace_Range_c13 (nQ fun l H => S (l.getD 0 undef) (l.getD 1 undef) (l.getD 2 undef) (l.getD 3 undef) (l.getD 29 undef) H) ((List.range 224).map x) H = slices_Replace_Range_g100 S (x 0) (x 1) (x 2) (x 3) H := by kernel_rfl
def slices_Replace_Range_g101 (S : Value → Value → Heap → Prop) (x0 x1 x3 : Value) (H : Heap) : Prop :=
  bnd (sliceV 2 x0 none (some x1)) fun v32 =>
  appE 48 #[(.int .i64 0), (.int .i64 0)] 2 16 v32 x3 H fun v34 H1 =>
  S x0 v34 H1
theorem slices_Replace_Range_g101_e (S : Value → Value → Heap → Prop) (x : Nat → Value) (H : Heap) : wpE tab P slices_Replace_Range_pi slices_Replace_Range_c16 (nQ fun l H => S (l.getD 0 undef) (l.getD 9 undef) H) ((List.range 224).map x) H = slices_Replace_Range_g101 S (x 0) (x 1) (x 3) H := by kernel_rfl
def slices_Replace_Range_g103 (S : Value → Heap → Prop) (x9 : Value) (H : Heap) : Prop :=
  S x9 H
theorem slices_Replace_Range_g103_e (S : Value → Heap → Prop) (x : Nat → Value) (H : Heap) : wpE tab P slices_Replace_Range_pi slices_Replace_Range_c23 (nQ fun l H => S (l.getD 8 undef) H) ((List.range 224).map x) H = slices_Replace_Range_g103 S (x 9) H := by kernel_rfl
def slices_Replace_Range_s102 (x9 : Value) (R : Value → Heap → Prop) (H : Heap) : Prop :=
  slices_Replace_Range_g103 (fun x8 H => R x8 H) x9 H
noncomputable def slices_Replace_Range_q104 (R : Value → Heap → Prop) : Exit → List Value → Heap → Prop := (retQ tab slices_Replace_Range_rs R)
noncomputable def slices_Replace_Range_q105 (R : Value → Heap → Prop) : Exit → List Value → Heap → Prop := (thenE (fun l H => wpE tab P slices_Replace_Range_pi slices_Replace_Range_c24 (slices_Replace_Range_q104 R) l H) (slices_Replace_Range_q104 R))
theorem slices_Replace_Range_s102_i (R : Value → Heap → Prop) (l : List Value) (H : Heap) (hl : l.length = 224) (h : slices_Replace_Range_s102 (l.getD 9 undef) R H) : wpE tab P slices_Replace_Range_pi slices_Replace_Range_c22 (slices_Replace_Range_q105 R) l H := by
  refine seqI (c := slices_Replace_Range_c22) rfl ?_
  refine regI hl (Eq.mpr (slices_Replace_Range_g103_e _ (fun i => l.getD i undef) _) h) ?_
  clear h hl
  intro l H hl h
  refine thenN ?_
  refine retI rfl ?_
  refine thenR ?_
  exact h
def slices_Replace_Range_g106 (S : Value → Value → Value → Heap → Prop) (x0 x9 : Value) (H : Heap) : Prop :=
  bnd (lenV x9) fun v36 =>
  bnd (lenV x0) fun v38 =>
  bnd (binV .int .lss v36 v38) fun v39 =>
  S x0 x9 v39 H
theorem slices_Replace_Range_g106_e (S : Value → Value → Value → Heap → Prop) (x : Nat → Value) (H : Heap) : wpE tab P slices_Replace_Range_pi slices_Replace_Range_c19 (nQ fun l H => S (l.getD 0 undef) (l.getD 9 undef) (l.getD 39 undef) H) ((List.range 224).map x) H = slices_Replace_Range_g106 S (x 0) (x 9) H := by kernel_rfl
def slices_Replace_Range_g107 (S : Value → Heap → Prop) (x0 x9 : Value) (H : Heap) : Prop :=
  bnd (lenV x9) fun v42 =>
  bnd (sliceV 2 x0 (some v42) none) fun v43 =>
  clrE #[(.int .i64 0), (.int .i64 0)] v43 H fun _ H1 =>
  S x9 H1
theorem slices_Replace_Range_g107_e (S : Value → Heap → Prop) (x : Nat → Value) (H : Heap) : wpE tab P slices_Replace_Range_pi slices_Replace_Range_c21 (nQ fun l H => S (l.getD 9 undef) H) ((List.range 224).map x) H = slices_Replace_Range_g107 S (x 0) (x 9) H := by kernel_rfl
def slices_Replace_Range_g108 (S : Value → Value → Value → Value → Value → Heap → Prop) (x0 x1 x2 x3 : Value) (H : Heap) : Prop :=
  bnd (sliceV 2 x0 none (some x1)) fun v47 =>
  bnd (lenV v47) fun v48 =>
  bnd (lenV x3) fun v50 =>
  bnd (binV .int .add v48 v50) fun v51 =>
  bnd (sliceV 2 x0 (some x2) none) fun v54 =>
  bnd (lenV v54) fun v55 =>
  bnd (binV .int .add v51 v55) fun v56 =>
  S x0 x1 x2 x3 v56 H
theorem slices_Replace_Range_g108_e (S : Value → Value → Value → Value → Value → Heap → Prop) (x : Nat → Value) (H : Heap) : wpE tab P slices_Replace_Range_pi slices_Replace_Range_c25 (nQ fun l H => S (l.getD 0 undef) (l.getD 1 undef) (l.getD 2 undef) (l.getD 3 undef) (l.getD 10 undef) H) ((List.range 224).map x) H = slices_Replace_Range_g108 S (x 0) (x 1) (x 2) (x 3) H := by kernel_rfl
def slices_Replace_Range_g109 (S : Value → Value → Value → Value → Value → Value → Heap → Prop) (x0 x1 x2 x3 x10 : Value) (H : Heap) : Prop :=
  bnd (capV x0) fun v59 =>
  bnd (binV .int .gtr x10 v59) fun v60 =>
  S x0 x1 x2 x3 x10 v60 H
theorem slices_Replace_Range_g109_e (S : Value → Value → Value → Value → Value → Value → Heap → Prop) (x : Nat → Value) (H : Heap) : wpE tab P slices_Replace_Range_pi slices_Replace_Range_c28 (nQ fun l H => S (l.getD 0 undef) (l.getD 1 undef) (l.getD 2 undef) (l.getD 3 undef) (l.getD 10 undef) (l.getD 60 undef) H) ((List.range 224).map x) H = slices_Replace_Range_g109 S (x 0) (x 1) (x 2) (x 3) (x 10) H := by kernel_rfl
def slices_Replace_Range_g110 (S : Value → Value → Value → Value → Value → Heap → Prop) (x0 x1 x2 x3 x10 : Value) (H : Heap) : Prop :=
  bnd (sliceV 2 x0 none (some x1)) fun v63 =>
  bnd (binV .int .sub x10 x1) fun v66 =>
  appZE 48 #[(.int .i64 0), (.int .i64 0)] 2 16 v63 v66 H fun v67 H1 =>
  S x0 x1 x2 x3 v67 H1
theorem slices_Replace_Range_g110_e (S : Value → Value → Value → Value → Value → Heap → Prop) (x : Nat → Value) (H : Heap) : wpE tab P slices_Replace_Range_pi slices_Replace_Range_c31 (nQ fun l H => S (l.getD 0 undef) (l.getD 1 undef) (l.getD 2 undef) (l.getD 3 undef) (l.getD 11 undef) H) ((List.range 224).map x) H = slices_Replace_Range_g110 S (x 0) (x 1) (x 2) (x 3) (x 10) H := by kernel_rfl
def slices_Replace_Range_g111 (S : Value → Value → Value → Value → Value → Heap → Prop) (x0 x1 x2 x3 x11 : Value) (H : Heap) : Prop :=
  bnd (sliceV 2 x11 (some x1) none) fun v70 =>
  cpyE 2 v70 x3 H fun _ H1 =>
  S x0 x1 x2 x3 x11 H1
theorem slices_Replace_Range_g111_e (S : Value → Value → Value → Value → Value → Heap → Prop) (x : Nat → Value) (H : Heap) : wpE tab P slices_Replace_Range_pi slices_Replace_Range_c33 (nQ fun l H => S (l.getD 0 undef) (l.getD 1 undef) (l.getD 2 undef) (l.getD 3 undef) (l.getD 11 undef) H) ((List.range 224).map x) H = slices_Replace_Range_g111 S (x 0) (x 1) (x 2) (x 3) (x 11) H := by kernel_rfl
def slices_Replace_Range_g112 (S : Value → Heap → Prop) (x0 x1 x2 x3 x11 : Value) (H : Heap) : Prop :=
  bnd (lenV x3) fun v76 =>
  bnd (binV .int .add x1 v76) fun v77 =>
  bnd (sliceV 2 x11 (some v77) none) fun v78 =>
  bnd (sliceV 2 x0 (some x2) none) fun v81 =>
  cpyE 2 v78 v81 H fun _ H1 =>
  S x11 H1
theorem slices_Replace_Range_g112_e (S : Value → Heap → Prop) (x : Nat → Value) (H : Heap) : wpE tab P slices_Replace_Range_pi slices_Replace_Range_c35 (nQ fun l H => S (l.getD 11 undef) H) ((List.range 224).map x) H = slices_Replace_Range_g112 S (x 0) (x 1) (x 2) (x 3) (x 11) H := by kernel_rfl
def slices_Replace_Range_g113 (S : Value → Heap → Prop) (x11 : Value) (H : Heap) : Prop :=
  S x11 H
theorem slices_Replace_Range_g113_e (S : Value → Heap → Prop) (x : Nat → Value) (H : Heap) : wpE tab P slices_Replace_Range_pi slices_Replace_Range_c37 (nQ fun l H => S (l.getD 8 undef) H) ((List.range 224).map x) H = slices_Replace_Range_g113 S (x 11) H := by kernel_rfl
def slices_Replace_Range_g114 (S : Value → Value → Value → Value → Value → Value → Heap → Prop) (x0 x1 x2 x3 x10 : Value) (H : Heap) : Prop :=
  bnd (sliceV 2 x0 none (some x10)) fun v86 =>
  S x0 x1 x2 x3 x10 v86 H
theorem slices_Replace_Range_g114_e (S : Value → Value → Value → Value → Value → Value → Heap → Prop) (x : Nat → Value) (H : Heap) : wpE tab P slices_Replace_Range_pi slices_Replace_Range_c39 (nQ fun l H => S (l.getD 0 undef) (l.getD 1 undef) (l.getD 2 undef) (l.getD 3 undef) (l.getD 10 undef) (l.getD 12 undef) H) ((List.range 224).map x) H = slices_Replace_Range_g114 S (x 0) (x 1) (x 2) (x 3) (x 10) H := by kernel_rfl
def slices_Replace_Range_g115 (S : Value → Value → Value → Value → Value → Value → Value → Heap → Prop) (x0 x1 x2 x3 x10 x12 : Value) (H : Heap) : Prop :=
  bnd (lenV x3) fun v89 =>
  bnd (binV .int .add x1 v89) fun v90 =>
  bnd (binV .int .leq v90 x2) fun v92 =>
  S x0 x1 x2 x3 x10 x12 v92 H
theorem slices_Replace_Range_g115_e (S : Value → Value → Value → Value → Value → Value → Value → Heap → Prop) (x : Nat → Value) (H : Heap) : wpE tab P slices_Replace_Range_pi slices_Replace_Range_c42 (nQ fun l H => S (l.getD 0 undef) (l.getD 1 undef) (l.getD 2 undef) (l.getD 3 undef) (l.getD 10 undef) (l.getD 12 undef) (l.getD 92 undef) H) ((List.range 224).map x) H = slices_Replace_Range_g115 S (x 0) (x 1) (x 2) (x 3) (x 10) (x 12) H := by kernel_rfl
def slices_Replace_Range_g116 (S : Value → Value → Value → Value → Value → Value → Heap → Prop) (x0 x1 x2 x3 x10 x12 : Value) (H : Heap) : Prop :=
  bnd (sliceV 2 x12 (some x1) none) fun v95 =>
  cpyE 2 v95 x3 H fun _ H1 =>
  S x0 x1 x2 x3 x10 x12 H1
theorem slices_Replace_Range_g116_e (S : Value → Value → Value → Value → Value → Value → Heap → Prop) (x : Nat → Value) (H : Heap) : wpE tab P slices_Replace_Range_pi slices_Replace_Range_c45 (nQ fun l H => S (l.getD 0 undef) (l.getD 1 undef) (l.getD 2 undef) (l.getD 3 undef) (l.getD 10 undef) (l.getD 12 undef) H) ((List.range 224).map x) H = slices_Replace_Range_g116 S (x 0) (x 1) (x 2) (x 3) (x 10) (x 12) H := by kernel_rfl
def slices_Replace_Range_g117 (S : Value → Value → Value → Heap → Prop) (x0 x1 x2 x3 x10 x12 : Value) (H : Heap) : Prop :=
  bnd (lenV x3) fun v101 =>
  bnd (binV .int .add x1 v101) fun v102 =>
  bnd (sliceV 2 x12 (some v102) none) fun v103 =>
  bnd (sliceV 2 x0 (some x2) none) fun v106 =>
  cpyE 2 v103 v106 H fun _ H1 =>
  S x0 x10 x12 H1
theorem slices_Replace_Range_g117_e (S : Value → Value → Value → Heap → Prop) (x : Nat → Value) (H : Heap) : wpE tab P slices_Replace_Range_pi slices_Replace_Range_c47 (nQ fun l H => S (l.getD 0 undef) (l.getD 10 undef) (l.getD 12 undef) H) ((List.range 224).map x) H = slices_Replace_Range_g117 S (x 0) (x 1) (x 2) (x 3) (x 10) (x 12) H := by kernel_rfl
def slices_Replace_Range_g118 (S : Value → Heap → Prop) (x0 x10 x12 : Value) (H : Heap) : Prop :=
  bnd (sliceV 2 x0 (some x10) none) fun v110 =>
  clrE #[(.int .i64 0), (.int .i64 0)] v110 H fun _ H1 =>
  S x12 H1
theorem slices_Replace_Range_g118_e (S : Value → Heap → Prop) (x : Nat → Value) (H : Heap) : wpE tab P slices_Replace_Range_pi slices_Replace_Range_c49 (nQ fun l H => S (l.getD 12 undef) H) ((List.range 224).map x) H = slices_Replace_Range_g118 S (x 0) (x 10) (x 12) H := by kernel_rfl
def slices_Replace_Range_g119 (S : Value → Heap → Prop) (x12 : Value) (H : Heap) : Prop :=
  S x12 H
theorem slices_Replace_Range_g119_e (S : Value → Heap → Prop) (x : Nat → Value) (H : Heap) : wpE tab P slices_Replace_Range_pi slices_Replace_Range_c51 (nQ fun l H => S (l.getD 8 undef) H) ((List.range 224).map x) H = slices_Replace_Range_g119 S (x 12) H := by kernel_rfl
def slices_Replace_Range_g120 (S : Value → Value → Value → Value → Value → Value → Heap → Prop) (x0 x1 x2 x3 x12 : Value) (H : Heap) : Prop :=
  bnd (lenV x3) fun v115 =>
  bnd (binV .int .add x1 v115) fun v116 =>
  bnd (sliceV 2 x12 (some v116) none) fun v117 =>
  EvF P N.slices_overlaps_Range #[v117, x3] H fun v119 H1 =>
  bnd (unV .not v119) fun v120 =>
  S x0 x1 x2 x3 x12 v120 H1
theorem slices_Replace_Range_g120_e (S : Value → Value → Value → Value → Value → Value → Heap → Prop) (x : Nat → Value) (H : Heap) : wpE tab P slices_Replace_Range_pi slices_Replace_Range_c54 (nQ fun l H => S (l.getD 0 undef) (l.getD 1 undef) (l.getD 2 undef) (l.getD 3 undef) (l.getD 12 undef) (l.getD 120 undef) H) ((List.range 224).map x) H = slices_Replace_Range_g120 S (x 0) (x 1) (x 2) (x 3) (x 12) H := by kernel_rfl
def slices_Replace_Range_g121 (S : Value → Value → Value → Heap → Prop) (x0 x1 x2 x3 x12 : Value) (H : Heap) : Prop :=
  bnd (lenV x3) fun v124 =>
  bnd (binV .int .add x1 v124) fun v125 =>
  bnd (sliceV 2 x12 (some v125) none) fun v126 =>
  bnd (sliceV 2 x0 (some x2) none) fun v129 =>
  cpyE 2 v126 v129 H fun _ H1 =>
  S x1 x3 x12 H1
theorem slices_Replace_Range_g121_e (S : Value → Value → Value → Heap → Prop) (x : Nat → Value) (H : Heap) : wpE tab P slices_Replace_Range_pi slices_Replace_Range_c57 (nQ fun l H => S (l.getD 1 undef) (l.getD 3 undef) (l.getD 12 undef) H) ((List.range 224).map x) H = slices_Replace_Range_g121 S (x 0) (x 1) (x 2) (x 3) (x 12) H := by kernel_rfl
def slices_Replace_Range_g122 (S : Value → Heap → Prop) (x1 x3 x12 : Value) (H : Heap) : Prop :=
  bnd (sliceV 2 x12 (some x1) none) fun v133 =>
  cpyE 2 v133 x3 H fun _ H1 =>
  S x12 H1
theorem slices_Replace_Range_g122_e (S : Value → Heap → Prop) (x : Nat → Value) (H : Heap) : wpE tab P slices_Replace_Range_pi slices_Replace_Range_c59 (nQ fun l H => S (l.getD 12 undef) H) ((List.range 224).map x) H = slices_Replace_Range_g122 S (x 1) (x 3) (x 12) H := by kernel_rfl
def slices_Replace_Range_g123 (S : Value → Heap → Prop) (x12 : Value) (H : Heap) : Prop :=
  S x12 H
theorem slices_Replace_Range_g123_e (S : Value → Heap → Prop) (x : Nat → Value) (H : Heap) : wpE tab P slices_Replace_Range_pi slices_Replace_Range_c61 (nQ fun l H => S (l.getD 8 undef) H) ((List.range 224).map x) H = slices_Replace_Range_g123 S (x 12) H := by kernel_rfl
def slices_Replace_Range_g124 (S : Value → Value → Value → Value → Value → Value → Heap → Prop) (x0 x1 x2 x3 x12 : Value) (H : Heap) : Prop :=
  bnd (lenV x3) fun v138 =>
  bnd (binV .int .sub x2 x1) fun v141 =>
  bnd (binV .int .sub v138 v141) fun v142 =>
  S x0 x1 x2 x3 x12 v142 H
theorem slices_Replace_Range_g124_e (S : Value → Value → Value → Value → Value → Value → Heap → Prop) (x : Nat → Value) (H : Heap) : wpE tab P slices_Replace_Range_pi slices_Replace_Range_c63 (nQ fun l H => S (l.getD 0 undef) (l.getD 1 undef) (l.getD 2 undef) (l.getD 3 undef) (l.getD 12 undef) (l.getD 13 undef) H) ((List.range 224).map x) H = slices_Replace_Range_g124 S (x 0) (x 1) (x 2) (x 3) (x 12) H := by kernel_rfl
def slices_Replace_Range_g125 (S : Value → Value → Value → Value → Value → Value → Value → Heap → Prop) (x0 x1 x2 x3 x12 x13 : Value) (H : Heap) : Prop :=
  bnd (sliceV 2 x12 (some x1) (some x2)) fun v146 =>
  EvF P N.slices_overlaps_Range #[v146, x3] H fun v148 H1 =>
  bnd (unV .not v148) fun v149 =>
  S x0 x1 x2 x3 x12 x13 v149 H1
theorem slices_Replace_Range_g125_e (S : Value → Value → Value → Value → Value → Value → Value → Heap → Prop) (x : Nat → Value) (H : Heap) : wpE tab P slices_Replace_Range_pi slices_Replace_Range_c66 (nQ fun l H => S (l.getD 0 undef) (l.getD 1 undef) (l.getD 2 undef) (l.getD 3 undef) (l.getD 12 undef) (l.getD 13 undef) (l.getD 149 undef) H) ((List.range 224).map x) H = slices_Replace_Range_g125 S (x 0) (x 1) (x 2) (x 3) (x 12) (x 13) H := by kernel_rfl
def slices_Replace_Range_g126 (S : Value → Value → Value → Value → Value → Heap → Prop) (x0 x1 x2 x3 x12 x13 : Value) (H : Heap) : Prop :=
  bnd (sliceV 2 x12 (some x1) (some x2)) fun v153 =>
  bnd (sliceV 2 x3 (some x13) none) fun v156 =>
  cpyE 2 v153 v156 H fun _ H1 =>
  S x0 x1 x3 x12 x13 H1
theorem slices_Replace_Range_g126_e (S : Value → Value → Value → Value → Value → Heap → Prop) (x : Nat → Value) (H : Heap) : wpE tab P slices_Replace_Range_pi slices_Replace_Range_c69 (nQ fun l H => S (l.getD 0 undef) (l.getD 1 undef) (l.getD 3 undef) (l.getD 12 undef) (l.getD 13 undef) H) ((List.range 224).map x) H = slices_Replace_Range_g126 S (x 0) (x 1) (x 2) (x 3) (x 12) (x 13) H := by kernel_rfl
def slices_Replace_Range_g127 (S : Value → Value → Value → Heap → Prop) (x0 x1 x3 x12 x13 : Value) (H : Heap) : Prop :=
  bnd (lenV x0) fun v160 =>
  bnd (sliceV 2 x12 (some v160) none) fun v161 =>
  bnd (sliceV 2 x3 none (some x13)) fun v164 =>
  cpyE 2 v161 v164 H fun _ H1 =>
  S x1 x12 x13 H1
theorem slices_Replace_Range_g127_e (S : Value → Value → Value → Heap → Prop) (x : Nat → Value) (H : Heap) : wpE tab P slices_Replace_Range_pi slices_Replace_Range_c71 (nQ fun l H => S (l.getD 1 undef) (l.getD 12 undef) (l.getD 13 undef) H) ((List.range 224).map x) H = slices_Replace_Range_g127 S (x 0) (x 1) (x 3) (x 12) (x 13) H := by kernel_rfl
def slices_Replace_Range_g128 (S : Value → Heap → Prop) (x1 x12 x13 : Value) (H : Heap) : Prop :=
  bnd (sliceV 2 x12 (some x1) none) fun v168 =>
  EvF P N.slices_rotateRight_Range #[v168, x13] H fun _ H1 =>
  S x12 H1
theorem slices_Replace_Range_g128_e (S : Value → Heap → Prop) (x : Nat → Value) (H : Heap) : wpE tab P slices_Replace_Range_pi slices_Replace_Range_c73 (nQ fun l H => S (l.getD 12 undef) H) ((List.range 224).map x) H = slices_Replace_Range_g128 S (x 1) (x 12) (x 13) H := by kernel_rfl
def slices_Replace_Range_g129 (S : Value → Heap → Prop) (x12 : Value) (H : Heap) : Prop :=
  S x12 H
theorem slices_Replace_Range_g129_e (S : Value → Heap → Prop) (x : Nat → Value) (H : Heap) : wpE tab P slices_Replace_Range_pi slices_Replace_Range_c75 (nQ fun l H => S (l.getD 8 undef) H) ((List.range 224).map x) H = slices_Replace_Range_g129 S (x 12) H := by kernel_rfl
def slices_Replace_Range_g130 (S : Value → Value → Value → Value → Value → Value → Value → Heap → Prop) (x0 x1 x2 x3 x12 x13 : Value) (H : Heap) : Prop :=
  bnd (lenV x0) fun v174 =>
  bnd (sliceV 2 x12 (some v174) none) fun v175 =>
  EvF P N.slices_overlaps_Range #[v175, x3] H fun v177 H1 =>
  bnd (unV .not v177) fun v178 =>
  S x0 x1 x2 x3 x12 x13 v178 H1
theorem slices_Replace_Range_g130_e (S : Value → Value → Value → Value → Value → Value → Value → Heap → Prop) (x : Nat → Value) (H : Heap) : wpE tab P slices_Replace_Range_pi slices_Replace_Range_c78 (nQ fun l H => S (l.getD 0 undef) (l.getD 1 undef) (l.getD 2 undef) (l.getD 3 undef) (l.getD 12 undef) (l.getD 13 undef) (l.getD 178 undef) H) ((List.range 224).map x) H = slices_Replace_Range_g130 S (x 0) (x 1) (x 2) (x 3) (x 12) (x 13) H := by kernel_rfl
def slices_Replace_Range_g131 (S : Value → Value → Value → Value → Value → Heap → Prop) (x0 x1 x2 x3 x12 x13 : Value) (H : Heap) : Prop :=
  bnd (lenV x0) fun v181 =>
  bnd (sliceV 2 x12 (some v181) none) fun v182 =>
  bnd (sliceV 2 x3 none (some x13)) fun v185 =>
  cpyE 2 v182 v185 H fun _ H1 =>
  S x1 x2 x3 x12 x13 H1
theorem slices_Replace_Range_g131_e (S : Value → Value → Value → Value → Value → Heap → Prop) (x : Nat → Value) (H : Heap) : wpE tab P slices_Replace_Range_pi slices_Replace_Range_c81 (nQ fun l H => S (l.getD 1 undef) (l.getD 2 undef) (l.getD 3 undef) (l.getD 12 undef) (l.getD 13 undef) H) ((List.range 224).map x) H = slices_Replace_Range_g131 S (x 0) (x 1) (x 2) (x 3) (x 12) (x 13) H := by kernel_rfl
def slices_Replace_Range_g132 (S : Value → Value → Value → Heap → Prop) (x1 x2 x3 x12 x13 : Value) (H : Heap) : Prop :=
  bnd (sliceV 2 x12 (some x1) (some x2)) fun v190 =>
  bnd (sliceV 2 x3 (some x13) none) fun v193 =>
  cpyE 2 v190 v193 H fun _ H1 =>
  S x1 x12 x13 H1
theorem slices_Replace_Range_g132_e (S : Value → Value → Value → Heap → Prop) (x : Nat → Value) (H : Heap) : wpE tab P slices_Replace_Range_pi slices_Replace_Range_c83 (nQ fun l H => S (l.getD 1 undef) (l.getD 12 undef) (l.getD 13 undef) H) ((List.range 224).map x) H = slices_Replace_Range_g132 S (x 1) (x 2) (x 3) (x 12) (x 13) H := by kernel_rfl
def slices_Replace_Range_g133 (S : Value → Heap → Prop) (x1 x12 x13 : Value) (H : Heap) : Prop :=
  bnd (sliceV 2 x12 (some x1) none) fun v197 =>
  EvF P N.slices_rotateRight_Range #[v197, x13] H fun _ H1 =>
  S x12 H1
theorem slices_Replace_Range_g133_e (S : Value → Heap → Prop) (x : Nat → Value) (H : Heap) : wpE tab P slices_Replace_Range_pi slices_Replace_Range_c85 (nQ fun l H => S (l.getD 12 undef) H) ((List.range 224).map x) H = slices_Replace_Range_g133 S (x 1) (x 12) (x 13) H := by kernel_rfl
def slices_Replace_Range_g134 (S : Value → Heap → Prop) (x12 : Value) (H : Heap) : Prop :=
  S x12 H
theorem slices_Replace_Range_g134_e (S : Value → Heap → Prop) (x : Nat → Value) (H : Heap) : wpE tab P slices_Replace_Range_pi slices_Replace_Range_c87 (nQ fun l H => S (l.getD 8 undef) H) ((List.range 224).map x) H = slices_Replace_Range_g134 S (x 12) H := by kernel_rfl
def slices_Replace_Range_g135 (S : Value → Value → Value → Value → Heap → Prop) (x0 x1 x2 x3 x12 : Value) (H : Heap) : Prop :=
  bnd (sliceV 2 x0 (some x2) none) fun v204 =>
  EvF P N.slices_startIdx_Range #[x3, v204] H fun v205 H1 =>
  S x1 x3 x12 v205 H1
theorem slices_Replace_Range_g135_e (S : Value → Value → Value → Value → Heap → Prop) (x : Nat → Value) (H : Heap) : wpE tab P slices_Replace_Range_pi slices_Replace_Range_c89 (nQ fun l H => S (l.getD 1 undef) (l.getD 3 undef) (l.getD 12 undef) (l.getD 14 undef) H) ((List.range 224).map x) H = slices_Replace_Range_g135 S (x 0) (x 1) (x 2) (x 3) (x 12) H := by kernel_rfl
def slices_Replace_Range_g136 (S : Value → Value → Value → Value → Heap → Prop) (x1 x3 x12 x14 : Value) (H : Heap) : Prop :=
  bnd (sliceV 2 x12 (some x1) none) fun v208 =>
  cpyE 2 v208 x3 H fun _ H1 =>
  S x1 x3 x12 x14 H1
theorem slices_Replace_Range_g136_e (S : Value → Value → Value → Value → Heap → Prop) (x : Nat → Value) (H : Heap) : wpE tab P slices_Replace_Range_pi slices_Replace_Range_c91 (nQ fun l H => S (l.getD 1 undef) (l.getD 3 undef) (l.getD 12 undef) (l.getD 14 undef) H) ((List.range 224).map x) H = slices_Replace_Range_g136 S (x 1) (x 3) (x 12) (x 14) H := by kernel_rfl
def slices_Replace_Range_g137 (S : Value → Heap → Prop) (x1 x3 x12 x14 : Value) (H : Heap) : Prop :=
  bnd (lenV x3) fun v214 =>
  bnd (binV .int .add x1 v214) fun v215 =>
  bnd (sliceV 2 x12 (some v215) none) fun v216 =>
  bnd (binV .int .add x1 x14) fun v220 =>
  bnd (sliceV 2 x12 (some v220) none) fun v221 =>
  cpyE 2 v216 v221 H fun _ H1 =>
  S x12 H1
theorem slices_Replace_Range_g137_e (S : Value → Heap → Prop) (x : Nat → Value) (H : Heap) : wpE tab P slices_Replace_Range_pi slices_Replace_Range_c93 (nQ fun l H => S (l.getD 12 undef) H) ((List.range 224).map x) H = slices_Replace_Range_g137 S (x 1) (x 3) (x 12) (x 14) H := by kernel_rfl
def slices_Replace_Range_g138 (S : Value → Heap → Prop) (x12 : Value) (H : Heap) : Prop :=
  S x12 H
theorem slices_Replace_Range_g138_e (S : Value → Heap → Prop) (x : Nat → Value) (H : Heap) : wpE tab P slices_Replace_Range_pi slices_Replace_Range_c95 (nQ fun l H => S (l.getD 8 undef) H) ((List.range 224).map x) H = slices_Replace_Range_g138 S (x 12) H := by kernel_rfl
def slices_Replace_Range (x0 x1 x2 x3 : Value) (R : Value → Heap → Prop) (H : Heap) : Prop :=
  slices_Replace_Range_g96 (fun x0 x1 x2 x3 H => slices_Replace_Range_g97 (fun x0 x1 x2 x3 H => slices_Replace_Range_g98 (fun x0 x1 x2 x3 x21 H => brV x21
  (slices_Replace_Range_g99 (fun x8 H => R x8 H) x0 x1 x3 H)
  (slices_Replace_Range_g100 (fun x0 x1 x2 x3 x29 H => brV x29
  (slices_Replace_Range_g101 (fun x0 x9 H => slices_Replace_Range_g106 (fun x0 x9 x39 H => brV x39
  (slices_Replace_Range_g107 (fun x9 H => slices_Replace_Range_s102 x9 R H) x0 x9 H)
  (slices_Replace_Range_s102 x9 R H)) x0 x9 H) x0 x1 x3 H)
  (slices_Replace_Range_g108 (fun x0 x1 x2 x3 x10 H => slices_Replace_Range_g109 (fun x0 x1 x2 x3 x10 x60 H => brV x60
  (slices_Replace_Range_g110 (fun x0 x1 x2 x3 x11 H => slices_Replace_Range_g111 (fun x0 x1 x2 x3 x11 H => slices_Replace_Range_g112 (fun x11 H => slices_Replace_Range_g113 (fun x8 H => R x8 H) x11 H) x0 x1 x2 x3 x11 H) x0 x1 x2 x3 x11 H) x0 x1 x2 x3 x10 H)
  (slices_Replace_Range_g114 (fun x0 x1 x2 x3 x10 x12 H => slices_Replace_Range_g115 (fun x0 x1 x2 x3 x10 x12 x92 H => brV x92
  (slices_Replace_Range_g116 (fun x0 x1 x2 x3 x10 x12 H => slices_Replace_Range_g117 (fun x0 x10 x12 H => slices_Replace_Range_g118 (fun x12 H => slices_Replace_Range_g119 (fun x8 H => R x8 H) x12 H) x0 x10 x12 H) x0 x1 x2 x3 x10 x12 H) x0 x1 x2 x3 x10 x12 H)
  (slices_Replace_Range_g120 (fun x0 x1 x2 x3 x12 x120 H => brV x120
  (slices_Replace_Range_g121 (fun x1 x3 x12 H => slices_Replace_Range_g122 (fun x12 H => slices_Replace_Range_g123 (fun x8 H => R x8 H) x12 H) x1 x3 x12 H) x0 x1 x2 x3 x12 H)
  (slices_Replace_Range_g124 (fun x0 x1 x2 x3 x12 x13 H => slices_Replace_Range_g125 (fun x0 x1 x2 x3 x12 x13 x149 H => brV x149
  (slices_Replace_Range_g126 (fun x0 x1 x3 x12 x13 H => slices_Replace_Range_g127 (fun x1 x12 x13 H => slices_Replace_Range_g128 (fun x12 H => slices_Replace_Range_g129 (fun x8 H => R x8 H) x12 H) x1 x12 x13 H) x0 x1 x3 x12 x13 H) x0 x1 x2 x3 x12 x13 H)
  (slices_Replace_Range_g130 (fun x0 x1 x2 x3 x12 x13 x178 H => brV x178
  (slices_Replace_Range_g131 (fun x1 x2 x3 x12 x13 H => slices_Replace_Range_g132 (fun x1 x12 x13 H => slices_Replace_Range_g133 (fun x12 H => slices_Replace_Range_g134 (fun x8 H => R x8 H) x12 H) x1 x12 x13 H) x1 x2 x3 x12 x13 H) x0 x1 x2 x3 x12 x13 H)
  (slices_Replace_Range_g135 (fun x1 x3 x12 x14 H => slices_Replace_Range_g136 (fun x1 x3 x12 x14 H => slices_Replace_Range_g137 (fun x12 H => slices_Replace_Range_g138 (fun x8 H => R x8 H) x12 H) x1 x3 x12 x14 H) x1 x3 x12 x14 H) x0 x1 x2 x3 x12 H)) x0 x1 x2 x3 x12 x13 H)) x0 x1 x2 x3 x12 x13 H) x0 x1 x2 x3 x12 H)) x0 x1 x2 x3 x12 H)) x0 x1 x2 x3 x10 x12 H) x0 x1 x2 x3 x10 H)) x0 x1 x2 x3 x10 H) x0 x1 x2 x3 H)) x0 x1 x2 x3 H)) x0 x1 x2 x3 H) x0 x1 x2 x3 H) x0 x1 x2 x3 H
theorem slices_Replace_Range_i (R : Value → Heap → Prop) (x0 x1 x2 x3 : Value) (H : Heap) (h : slices_Replace_Range x0 x1 x2 x3 R H) : wpE tab P slices_Replace_Range_pi slices_Replace_Range_c1 (retQ tab slices_Replace_Range_rs R) [x0, x1, x2, x3, undef, undef, undef, undef, undef, undef, undef, undef, undef, undef, undef, undef, undef, undef, undef, undef, undef, undef, undef, undef, undef, undef, undef, undef, undef, undef, undef, undef, undef, undef, undef, undef, undef, undef, undef, undef, undef, undef, undef, undef, undef, undef, undef, undef, undef, undef, undef, undef, undef, undef, undef, undef, undef, undef, undef, undef, undef, undef, undef, undef, undef, undef, undef, undef, undef, undef, undef, undef, undef, undef, undef, undef, undef, undef, undef, undef, undef, undef, undef, undef, undef, undef, undef, undef, undef, undef, undef, undef, undef, undef, undef, undef, undef, undef, undef, undef, undef, undef, undef, undef, undef, undef, undef, undef, undef, undef, undef, undef, undef, undef, undef, undef, undef, undef, undef, undef, undef, undef, undef, undef, undef, undef, undef, undef, undef, undef, undef, undef, undef, undef, undef, undef, undef, undef, undef, undef, undef, undef, undef, undef, undef, undef, undef, undef, undef, undef, undef, undef, undef, undef, undef, undef, undef, undef, undef, undef, undef, undef, undef, undef, undef, undef, undef, undef, undef, undef, undef, undef, undef, undef, undef, undef, undef, undef, undef, undef, undef, undef, undef, undef, undef, undef, undef, undef, undef, undef, undef, undef, undef, undef, undef, undef, undef, undef, undef, undef, undef, undef, undef, undef, undef, undef, undef, undef, undef, undef, undef, undef, undef, undef, undef, undef, undef, undef, undef, undef, undef, undef, undef, undef] H := by
  obtain ⟨l, hl, el⟩ : ∃ l : List Value, l.length = 224 ∧ l = [x0, x1, x2, x3, undef, undef, undef, undef, undef, undef, undef, undef, undef, undef, undef, undef, undef, undef, undef, undef, undef, undef, undef, undef, undef, undef, undef, undef, undef, undef, undef, undef, undef, undef, undef, undef, undef, undef, undef, undef, undef, undef, undef, undef, undef, undef, undef, undef, undef, undef, undef, undef, undef, undef, undef, undef, undef, undef, undef, undef, undef, undef, undef, undef, undef, undef, undef, undef, undef, undef, undef, undef, undef, undef, undef, undef, undef, undef, undef, undef, undef, undef, undef, undef, undef, undef, undef, undef, undef, undef, undef, undef, undef, undef, undef, undef, undef, undef, undef, undef, undef, undef, undef, undef, undef, undef, undef, undef, undef, undef, undef, undef, undef, undef, undef, undef, undef, undef, undef, undef, undef, undef, undef, undef, undef, undef, undef, undef, undef, undef, undef, undef, undef, undef, undef, undef, undef, undef, undef, undef, undef, undef, undef, undef, undef, undef, undef, undef, undef, undef, undef, undef, undef, undef, undef, undef, undef, undef, undef, undef, undef, undef, undef, undef, undef, undef, undef, undef, undef, undef, undef, undef, undef, undef, undef, undef, undef, undef, undef, undef, undef, undef, undef, undef, undef, undef, undef, undef, undef, undef, undef, undef, undef, undef, undef, undef, undef, undef, undef, undef, undef, undef, undef, undef, undef, undef, undef, undef, undef, undef, undef, undef, undef, undef, undef, undef, undef, undef, undef, undef, undef, undef, undef, undef] := ⟨_, rfl, rfl⟩
  rw [← el]
  have h : (fun (x0 x1 x2 x3 : Value) => slices_Replace_Range_g96 (fun x0 x1 x2 x3 H => slices_Replace_Range_g97 (fun x0 x1 x2 x3 H => slices_Replace_Range_g98 (fun x0 x1 x2 x3 x21 H => brV x21
(slices_Replace_Range_g99 (fun x8 H => R x8 H) x0 x1 x3 H)
(slices_Replace_Range_g100 (fun x0 x1 x2 x3 x29 H => brV x29
(slices_Replace_Range_g101 (fun x0 x9 H => slices_Replace_Range_g106 (fun x0 x9 x39 H => brV x39
(slices_Replace_Range_g107 (fun x9 H => slices_Replace_Range_s102 x9 R H) x0 x9 H)
(slices_Replace_Range_s102 x9 R H)) x0 x9 H) x0 x1 x3 H)
(slices_Replace_Range_g108 (fun x0 x1 x2 x3 x10 H => slices_Replace_Range_g109 (fun x0 x1 x2 x3 x10 x60 H => brV x60
(slices_Replace_Range_g110 (fun x0 x1 x2 x3 x11 H => slices_Replace_Range_g111 (fun x0 x1 x2 x3 x11 H => slices_Replace_Range_g112 (fun x11 H => slices_Replace_Range_g113 (fun x8 H => R x8 H) x11 H) x0 x1 x2 x3 x11 H) x0 x1 x2 x3 x11 H) x0 x1 x2 x3 x10 H)
(slices_Replace_Range_g114 (fun x0 x1 x2 x3 x10 x12 H => slices_Replace_Range_g115 (fun x0 x1 x2 x3 x10 x12 x92 H => brV x92
(slices_Replace_Range_g116 (fun x0 x1 x2 x3 x10 x12 H => slices_Replace_Range_g117 (fun x0 x10 x12 H => slices_Replace_Range_g118 (fun x12 H => slices_Replace_Range_g119 (fun x8 H => R x8 H) x12 H) x0 x10 x12 H) x0 x1 x2 x3 x10 x12 H) x0 x1 x2 x3 x10 x12 H)
(slices_Replace_Range_g120 (fun x0 x1 x2 x3 x12 x120 H => brV x120
(slices_Replace_Range_g121 (fun x1 x3 x12 H => slices_Replace_Range_g122 (fun x12 H => slices_Replace_Range_g123 (fun x8 H => R x8 H) x12 H) x1 x3 x12 H) x0 x1 x2 x3 x12 H)
(slices_Replace_Range_g124 (fun x0 x1 x2 x3 x12 x13 H => slices_Replace_Range_g125 (fun x0 x1 x2 x3 x12 x13 x149 H => brV x149
(slices_Replace_Range_g126 (fun x0 x1 x3 x12 x13 H => slices_Replace_Range_g127 (fun x1 x12 x13 H => slices_Replace_Range_g128 (fun x12 H => slices_Replace_Range_g129 (fun x8 H => R x8 H) x12 H) x1 x12 x13 H) x0 x1 x3 x12 x13 H) x0 x1 x2 x3 x12 x13 H)
(slices_Replace_Range_g130 (fun x0 x1 x2 x3 x12 x13 x178 H => brV x178
(slices_Replace_Range_g131 (fun x1 x2 x3 x12 x13 H => slices_Replace_Range_g132 (fun x1 x12 x13 H => slices_Replace_Range_g133 (fun x12 H => slices_Replace_Range_g134 (fun x8 H => R x8 H) x12 H) x1 x12 x13 H) x1 x2 x3 x12 x13 H) x0 x1 x2 x3 x12 x13 H)
(slices_Replace_Range_g135 (fun x1 x3 x12 x14 H => slices_Replace_Range_g136 (fun x1 x3 x12 x14 H => slices_Replace_Range_g137 (fun x12 H => slices_Replace_Range_g138 (fun x8 H => R x8 H) x12 H) x1 x3 x12 x14 H) x1 x3 x12 x14 H) x0 x1 x2 x3 x12 H)) x0 x1 x2 x3 x12 x13 H)) x0 x1 x2 x3 x12 x13 H) x0 x1 x2 x3 x12 H)) x0 x1 x2 x3 x12 H)) x0 x1 x2 x3 x10 x12 H) x0 x1 x2 x3 x10 H)) x0 x1 x2 x3 x10 H) x0 x1 x2 x3 H)) x0 x1 x2 x3 H)) x0 x1 x2 x3 H) x0 x1 x2 x3 H) x0 x1 x2 x3 H) (l.getD 0 undef) (l.getD 1 undef) (l.getD 2 undef) (l.getD 3 undef) := by rw [el]; exact h
  clear el
  refine seqI (c := slices_Replace_Range_c1) rfl ?_
  refine regI hl (Eq.mpr (slices_Replace_Range_g96_e _ (fun i => l.getD i undef) _) h) ?_
  clear h hl
  intro l H hl h
  refine thenN ?_
  refine seqI (c := slices_Replace_Range_c3) rfl ?_
  refine regI hl (Eq.mpr (slices_Replace_Range_g97_e _ (fun i => l.getD i undef) _) h) ?_
  clear h hl
  intro l H hl h
  refine thenN ?_
  refine seqI (c := slices_Replace_Range_c5) rfl ?_
  refine seqI (c := slices_Replace_Range_c6) rfl ?_
  refine regI hl (Eq.mpr (slices_Replace_Range_g98_e _ (fun i => l.getD i undef) _) h) ?_
  clear h hl
  intro l H hl h
  refine thenN ?_
  refine condI (c := slices_Replace_Range_c8) rfl h ?_ ?_
  · clear h; intro h
    refine seqI (c := slices_Replace_Range_c9) rfl ?_
    refine regI hl (Eq.mpr (slices_Replace_Range_g99_e _ (fun i => l.getD i undef) _) h) ?_
    clear h hl
    intro l H hl h
    refine thenN ?_
    refine retI rfl ?_
    refine thenR ?_
    exact h
  · clear h; intro h
    refine skipI rfl ?_
    refine thenN ?_
    refine seqI (c := slices_Replace_Range_c11) rfl ?_
    refine seqI (c := slices_Replace_Range_c12) rfl ?_
    refine regI hl (Eq.mpr (slices_Replace_Range_g100_e _ (fun i => l.getD i undef) _) h) ?_
    clear h hl
    intro l H hl h
    refine thenN ?_
    refine condI (c := slices_Replace_Range_c14) rfl h ?_ ?_
    · clear h; intro h
      refine seqI (c := slices_Replace_Range_c15) rfl ?_
      refine regI hl (Eq.mpr (slices_Replace_Range_g101_e _ (fun i => l.getD i undef) _) h) ?_
      clear h hl
      intro l H hl h
      refine thenN ?_
      refine seqI (c := slices_Replace_Range_c17) rfl ?_
      refine seqI (c := slices_Replace_Range_c18) rfl ?_
      refine regI hl (Eq.mpr (slices_Replace_Range_g106_e _ (fun i => l.getD i undef) _) h) ?_
      clear h hl
      intro l H hl h
      refine thenN ?_
      refine condI (c := slices_Replace_Range_c20) rfl h ?_ ?_
      · clear h; intro h
        refine regI hl (Eq.mpr (slices_Replace_Range_g107_e _ (fun i => l.getD i undef) _) h) ?_
        clear h hl
        intro l H hl h
        refine thenN ?_
        exact slices_Replace_Range_s102_i R l H hl h
      · clear h; intro h
        refine skipI rfl ?_
        refine thenN ?_
        exact slices_Replace_Range_s102_i R l H hl h
    · clear h; intro h
      refine skipI rfl ?_
      refine thenN ?_
      refine seqI (c := slices_Replace_Range_c24) rfl ?_
      refine regI hl (Eq.mpr (slices_Replace_Range_g108_e _ (fun i => l.getD i undef) _) h) ?_
      clear h hl
      intro l H hl h
      refine thenN ?_
      refine seqI (c := slices_Replace_Range_c26) rfl ?_
      refine seqI (c := slices_Replace_Range_c27) rfl ?_
      refine regI hl (Eq.mpr (slices_Replace_Range_g109_e _ (fun i => l.getD i undef) _) h) ?_
      clear h hl
      intro l H hl h
      refine thenN ?_
      refine condI (c := slices_Replace_Range_c29) rfl h ?_ ?_
      · clear h; intro h
        refine seqI (c := slices_Replace_Range_c30) rfl ?_
        refine regI hl (Eq.mpr (slices_Replace_Range_g110_e _ (fun i => l.getD i undef) _) h) ?_
        clear h hl
        intro l H hl h
        refine thenN ?_
        refine seqI (c := slices_Replace_Range_c32) rfl ?_
        refine regI hl (Eq.mpr (slices_Replace_Range_g111_e _ (fun i => l.getD i undef) _) h) ?_
        clear h hl
        intro l H hl h
        refine thenN ?_
        refine seqI (c := slices_Replace_Range_c34) rfl ?_
        refine regI hl (Eq.mpr (slices_Replace_Range_g112_e _ (fun i => l.getD i undef) _) h) ?_
        clear h hl
        intro l H hl h
        refine thenN ?_
        refine seqI (c := slices_Replace_Range_c36) rfl ?_
        refine regI hl (Eq.mpr (slices_Replace_Range_g113_e _ (fun i => l.getD i undef) _) h) ?_
        clear h hl
        intro l H hl h
        refine thenN ?_
        refine retI rfl ?_
        refine thenR ?_
        exact h
      · clear h; intro h
        refine skipI rfl ?_
        refine thenN ?_
        refine seqI (c := slices_Replace_Range_c38) rfl ?_
        refine regI hl (Eq.mpr (slices_Replace_Range_g114_e _ (fun i => l.getD i undef) _) h) ?_
        clear h hl
        intro l H hl h
        refine thenN ?_
        refine seqI (c := slices_Replace_Range_c40) rfl ?_
        refine seqI (c := slices_Replace_Range_c41) rfl ?_
        refine regI hl (Eq.mpr (slices_Replace_Range_g115_e _ (fun i => l.getD i undef) _) h) ?_
        clear h hl
        intro l H hl h
        refine thenN ?_
        refine condI (c := slices_Replace_Range_c43) rfl h ?_ ?_
        · clear h; intro h
          refine seqI (c := slices_Replace_Range_c44) rfl ?_
          refine regI hl (Eq.mpr (slices_Replace_Range_g116_e _ (fun i => l.getD i undef) _) h) ?_
          clear h hl
          intro l H hl h
          refine thenN ?_
          refine seqI (c := slices_Replace_Range_c46) rfl ?_
          refine regI hl (Eq.mpr (slices_Replace_Range_g117_e _ (fun i => l.getD i undef) _) h) ?_
          clear h hl
          intro l H hl h
          refine thenN ?_
          refine seqI (c := slices_Replace_Range_c48) rfl ?_
          refine regI hl (Eq.mpr (slices_Replace_Range_g118_e _ (fun i => l.getD i undef) _) h) ?_
          clear h hl
          intro l H hl h
          refine thenN ?_
          refine seqI (c := slices_Replace_Range_c50) rfl ?_
          refine regI hl (Eq.mpr (slices_Replace_Range_g119_e _ (fun i => l.getD i undef) _) h) ?_
          clear h hl
          intro l H hl h
          refine thenN ?_
          refine retI rfl ?_
          refine thenR ?_
          exact h
        · clear h; intro h
          refine skipI rfl ?_
          refine thenN ?_
          refine seqI (c := slices_Replace_Range_c52) rfl ?_
          refine seqI (c := slices_Replace_Range_c53) rfl ?_
          refine regI hl (Eq.mpr (slices_Replace_Range_g120_e _ (fun i => l.getD i undef) _) h) ?_
          clear h hl
          intro l H hl h
          refine thenN ?_
          refine condI (c := slices_Replace_Range_c55) rfl h ?_ ?_
          · clear h; intro h
            refine seqI (c := slices_Replace_Range_c56) rfl ?_
            refine regI hl (Eq.mpr (slices_Replace_Range_g121_e _ (fun i => l.getD i undef) _) h) ?_
            clear h hl
            intro l H hl h
            refine thenN ?_
            refine seqI (c := slices_Replace_Range_c58) rfl ?_
            refine regI hl (Eq.mpr (slices_Replace_Range_g122_e _ (fun i => l.getD i undef) _) h) ?_
            clear h hl
            intro l H hl h
            refine thenN ?_
            refine seqI (c := slices_Replace_Range_c60) rfl ?_
            refine regI hl (Eq.mpr (slices_Replace_Range_g123_e _ (fun i => l.getD i undef) _) h) ?_
            clear h hl
            intro l H hl h
            refine thenN ?_
            refine retI rfl ?_
            refine thenR ?_
            exact h
          · clear h; intro h
            refine skipI rfl ?_
            refine thenN ?_
            refine seqI (c := slices_Replace_Range_c62) rfl ?_
            refine regI hl (Eq.mpr (slices_Replace_Range_g124_e _ (fun i => l.getD i undef) _) h) ?_
            clear h hl
            intro l H hl h
            refine thenN ?_
            refine seqI (c := slices_Replace_Range_c64) rfl ?_
            refine seqI (c := slices_Replace_Range_c65) rfl ?_
            refine regI hl (Eq.mpr (slices_Replace_Range_g125_e _ (fun i => l.getD i undef) _) h) ?_
            clear h hl
            intro l H hl h
            refine thenN ?_
            refine condI (c := slices_Replace_Range_c67) rfl h ?_ ?_
            · clear h; intro h
              refine seqI (c := slices_Replace_Range_c68) rfl ?_
              refine regI hl (Eq.mpr (slices_Replace_Range_g126_e _ (fun i => l.getD i undef) _) h) ?_
              clear h hl
              intro l H hl h
              refine thenN ?_
              refine seqI (c := slices_Replace_Range_c70) rfl ?_
              refine regI hl (Eq.mpr (slices_Replace_Range_g127_e _ (fun i => l.getD i undef) _) h) ?_
              clear h hl
              intro l H hl h
              refine thenN ?_
              refine seqI (c := slices_Replace_Range_c72) rfl ?_
              refine regI hl (Eq.mpr (slices_Replace_Range_g128_e _ (fun i => l.getD i undef) _) h) ?_
              clear h hl
              intro l H hl h
              refine thenN ?_
              refine seqI (c := slices_Replace_Range_c74) rfl ?_
              refine regI hl (Eq.mpr (slices_Replace_Range_g129_e _ (fun i => l.getD i undef) _) h) ?_
              clear h hl
              intro l H hl h
              refine thenN ?_
              refine retI rfl ?_
              refine thenR ?_
              exact h
            · clear h; intro h
              refine skipI rfl ?_
              refine thenN ?_
              refine seqI (c := slices_Replace_Range_c76) rfl ?_
              refine seqI (c := slices_Replace_Range_c77) rfl ?_
              refine regI hl (Eq.mpr (slices_Replace_Range_g130_e _ (fun i => l.getD i undef) _) h) ?_
              clear h hl
              intro l H hl h
              refine thenN ?_
              refine condI (c := slices_Replace_Range_c79) rfl h ?_ ?_
              · clear h; intro h
                refine seqI (c := slices_Replace_Range_c80) rfl ?_
                refine regI hl (Eq.mpr (slices_Replace_Range_g131_e _ (fun i => l.getD i undef) _) h) ?_
                clear h hl
                intro l H hl h
                refine thenN ?_
                refine seqI (c := slices_Replace_Range_c82) rfl ?_
                refine regI hl (Eq.mpr (slices_Replace_Range_g132_e _ (fun i => l.getD i undef) _) h) ?_
                clear h hl
                intro l H hl h
                refine thenN ?_
                refine seqI (c := slices_Replace_Range_c84) rfl ?_
                refine regI hl (Eq.mpr (slices_Replace_Range_g133_e _ (fun i => l.getD i undef) _) h) ?_
                clear h hl
                intro l H hl h
                refine thenN ?_
                refine seqI (c := slices_Replace_Range_c86) rfl ?_
                refine regI hl (Eq.mpr (slices_Replace_Range_g134_e _ (fun i => l.getD i undef) _) h) ?_
                clear h hl
                intro l H hl h
                refine thenN ?_
                refine retI rfl ?_
                refine thenR ?_
                exact h
              · clear h; intro h
                refine skipI rfl ?_
                refine thenN ?_
                refine seqI (c := slices_Replace_Range_c88) rfl ?_
                refine regI hl (Eq.mpr (slices_Replace_Range_g135_e _ (fun i => l.getD i undef) _) h) ?_
                clear h hl
                intro l H hl h
                refine thenN ?_
                refine seqI (c := slices_Replace_Range_c90) rfl ?_
                refine regI hl (Eq.mpr (slices_Replace_Range_g136_e _ (fun i => l.getD i undef) _) h) ?_
                clear h hl
                intro l H hl h
                refine thenN ?_
                refine seqI (c := slices_Replace_Range_c92) rfl ?_
                refine regI hl (Eq.mpr (slices_Replace_Range_g137_e _ (fun i => l.getD i undef) _) h) ?_
                clear h hl
                intro l H hl h
                refine thenN ?_
                refine seqI (c := slices_Replace_Range_c94) rfl ?_
                refine regI hl (Eq.mpr (slices_Replace_Range_g138_e _ (fun i => l.getD i undef) _) h) ?_
                clear h hl
                intro l H hl h
                refine thenN ?_
                refine retI rfl ?_
                exact h
theorem slices_Replace_Range_ok : okB slices_Replace_Range_pi slices_Replace_Range_c1 = true := by kernel_rfl
theorem slices_Replace_Range_ev0 (x0 x1 x2 x3 : Value) (R : Value → Heap → Prop) (H : Heap) (h : slices_Replace_Range x0 x1 x2 x3 R H) : EvL P N.slices_Replace_Range #[x0, x1, x2, x3] H R :=
  EvF_intro (args := [x0, x1, x2, x3]) (k := 220) (rs := slices_Replace_Range_rs) tab_ok mixed Try.func30 (show Try.f30.body = some slices_Replace_Range_c1 by kernel_rfl) Try.call30 Try.ntmps30 (by kernel_rfl) (okCode_of _ slices_Replace_Range_ok) rfl (slices_Replace_Range_i R x0 x1 x2 x3 H h)
theorem slices_Replace_Range_ev (x0 x1 x2 x3 : Value) (R : Value → Heap → Prop) (H : Heap) (h : slices_Replace_Range x0 x1 x2 x3 R H) : EvF P N.slices_Replace_Range #[x0, x1, x2, x3] H R := .inl (slices_Replace_Range_ev0 x0 x1 x2 x3 R H h)
/- 31: (*sounder/span.Set).falling -/
def span_Set_falling_rs : List ResultVar := [.tmp 2]
noncomputable def span_Set_falling_c2 : Code := subC (bodyC Try.f31) [0]
noncomputable def span_Set_falling_c4 : Code := subC (bodyC Try.f31) [1, 0]
noncomputable def span_Set_falling_c3 : Code := .seq span_Set_falling_c4 Code.ret
noncomputable def span_Set_falling_c1 : Code := .seq span_Set_falling_c2 span_Set_falling_c3
def span_Set_falling_pi (_ : Nat) : Pl := .nil
def span_Set_falling_g5 (S : Value → Heap → Prop) (x0 : Value) (H : Heap) : Prop :=
  newE 23 (Value.cells x0) H fun v1 H1 =>
  S v1 H1
theorem span_Set_falling_g5_e (S : Value → Heap → Prop) (x : Nat → Value) (H : Heap) : wpE tab P span_Set_falling_pi span_Set_falling_c2 (nQ fun l H => S (l.getD 1 undef) H) ((List.range 4).map x) H = span_Set_falling_g5 S (x 0) H := by kernel_rfl
def span_Set_falling_g6 (S : Value → Heap → Prop) (x1 : Value) (H : Heap) : Prop :=
  S (.func (.func N.span_Set_falling_1) #[] #[x1]) H
theorem span_Set_falling_g6_e (S : Value → Heap → Prop) (x : Nat → Value) (H : Heap) : wpE tab P span_Set_falling_pi span_Set_falling_c4 (nQ fun l H => S (l.getD 2 undef) H) ((List.range 4).map x) H = span_Set_falling_g6 S (x 1) H := by kernel_rfl
def span_Set_falling (x0 : Value) (R : Value → Heap → Prop) (H : Heap) : Prop :=
  span_Set_falling_g5 (fun x1 H => span_Set_falling_g6 (fun x2 H => R x2 H) x1 H) x0 H
theorem span_Set_falling_i (R : Value → Heap → Prop) (x0 : Value) (H : Heap) (h : span_Set_falling x0 R H) : wpE tab P span_Set_falling_pi span_Set_falling_c1 (retQ tab span_Set_falling_rs R) [x0, undef, undef, undef] H := by
  obtain ⟨l, hl, el⟩ : ∃ l : List Value, l.length = 4 ∧ l = [x0, undef, undef, undef] := ⟨_, rfl, rfl⟩
  rw [← el]
  have h : (fun (x0 : Value) => span_Set_falling_g5 (fun x1 H => span_Set_falling_g6 (fun x2 H => R x2 H) x1 H) x0 H) (l.getD 0 undef) := by rw [el]; exact h
  clear el
  refine seqI (c := span_Set_falling_c1) rfl ?_
  refine regI hl (Eq.mpr (span_Set_falling_g5_e _ (fun i => l.getD i undef) _) h) ?_
  clear h hl
  intro l H hl h
  refine thenN ?_
  refine seqI (c := span_Set_falling_c3) rfl ?_
  refine regI hl (Eq.mpr (span_Set_falling_g6_e _ (fun i => l.getD i undef) _) h) ?_
  clear h hl
  intro l H hl h
  refine thenN ?_
  refine retI rfl ?_
  exact h
theorem span_Set_falling_ok : okB span_Set_falling_pi span_Set_falling_c1 = true := by kernel_rfl
theorem span_Set_falling_ev0 (x0 : Value) (R : Value → Heap → Prop) (H : Heap) (h : span_Set_falling x0 R H) : EvL P N.span_Set_falling #[x0] H R :=
  EvF_intro (args := [x0]) (k := 3) (rs := span_Set_falling_rs) tab_ok mixed Try.func31 (show Try.f31.body = some span_Set_falling_c1 by kernel_rfl) Try.call31 Try.ntmps31 (by kernel_rfl) (okCode_of _ span_Set_falling_ok) rfl (span_Set_falling_i R x0 H h)
theorem span_Set_falling_ev (x0 : Value) (R : Value → Heap → Prop) (H : Heap) (h : span_Set_falling x0 R H) : EvF P N.span_Set_falling #[x0] H R := .inl (span_Set_falling_ev0 x0 R H h)
/- 32: (*sounder/span.Set).at -/
def span_Set_at_rs : List ResultVar := [.cell 4 48, .tmp 5]
noncomputable def span_Set_at_c2 : Code := subC (bodyC Try.f32) [0]
noncomputable def span_Set_at_c5 : Code := subC (bodyC Try.f32) [1, 0, 0]
noncomputable def span_Set_at_c8 : Code := subC (bodyC Try.f32) [1, 0, 1, 0, 0]
noncomputable def span_Set_at_c7 : Code := .seq span_Set_at_c8 Code.ret
noncomputable def span_Set_at_c6 : Code := .cond (.tmp 8) span_Set_at_c7 Code.skip
noncomputable def span_Set_at_c4 : Code := .seq span_Set_at_c5 span_Set_at_c6
noncomputable def span_Set_at_c10 : Code := subC (bodyC Try.f32) [1, 1, 0]
noncomputable def span_Set_at_c13 : Code := subC (bodyC Try.f32) [1, 1, 1, 0, 0]
noncomputable def span_Set_at_c16 : Code := subC (bodyC Try.f32) [1, 1, 1, 0, 1, 0, 0]
noncomputable def span_Set_at_c15 : Code := .seq span_Set_at_c16 Code.ret
noncomputable def span_Set_at_c14 : Code := .cond (.tmp 31) span_Set_at_c15 Code.skip
noncomputable def span_Set_at_c12 : Code := .seq span_Set_at_c13 span_Set_at_c14
noncomputable def span_Set_at_c18 : Code := subC (bodyC Try.f32) [1, 1, 1, 1, 0]
noncomputable def span_Set_at_c17 : Code := .seq span_Set_at_c18 Code.ret
noncomputable def span_Set_at_c11 : Code := .seq span_Set_at_c12 span_Set_at_c17
noncomputable def span_Set_at_c9 : Code := .seq span_Set_at_c10 span_Set_at_c11
noncomputable def span_Set_at_c3 : Code := .seq span_Set_at_c4 span_Set_at_c9
noncomputable def span_Set_at_c1 : Code := .seq span_Set_at_c2 span_Set_at_c3
def span_Set_at_pi (_ : Nat) : Pl := .nil
def span_Set_at_g19 (S : Value → Value → Value → Heap → Prop) (x0 x1 : Value) (H : Heap) : Prop :=
  newE 48 #[(.int .i64 0), (.int .i64 0)] H fun v4 H1 =>
  S x0 x1 v4 H1
theorem span_Set_at_g19_e (S : Value → Value → Value → Heap → Prop) (x : Nat → Value) (H : Heap) : wpE tab P span_Set_at_pi span_Set_at_c2 (nQ fun l H => S (l.getD 0 undef) (l.getD 1 undef) (l.getD 4 undef) H) ((List.range 40).map x) H = span_Set_at_g19 S (x 0) (x 1) H := by kernel_rfl
def span_Set_at_g20 (S : Value → Value → Value → Value → Heap → Prop) (x0 x1 x4 : Value) (H : Heap) : Prop :=
  EvF P N.span_Set_none #[x0] H fun v8 H1 =>
  S x0 x1 x4 v8 H1
theorem span_Set_at_g20_e (S : Value → Value → Value → Value → Heap → Prop) (x : Nat → Value) (H : Heap) : wpE tab P span_Set_at_pi span_Set_at_c5 (nQ fun l H => S (l.getD 0 undef) (l.getD 1 undef) (l.getD 4 undef) (l.getD 8 undef) H) ((List.range 40).map x) H = span_Set_at_g20 S (x 0) (x 1) (x 4) H := by kernel_rfl
def span_Set_at_g21 (S : Value → Value → Heap → Prop) (x4 : Value) (H : Heap) : Prop :=
  bnd (ldE true 2 x4 H) fun v9 =>
  bnd (stE 2 x4 v9 H) fun H1 =>
  S x4 (.bool false) H1
theorem span_Set_at_g21_e (S : Value → Value → Heap → Prop) (x : Nat → Value) (H : Heap) : wpE tab P span_Set_at_pi span_Set_at_c8 (nQ fun l H => S (l.getD 4 undef) (l.getD 5 undef) H) ((List.range 40).map x) H = span_Set_at_g21 S (x 4) H := by kernel_rfl
def span_Set_at_g22 (S : Value → Value → Value → Value → Heap → Prop) (x0 x1 x4 : Value) (H : Heap) : Prop :=
  EvF P N.span_Set_first #[x0, x1] H fun v12 H1 =>
  S x0 x1 x4 v12 H1
theorem span_Set_at_g22_e (S : Value → Value → Value → Value → Heap → Prop) (x : Nat → Value) (H : Heap) : wpE tab P span_Set_at_pi span_Set_at_c10 (nQ fun l H => S (l.getD 0 undef) (l.getD 1 undef) (l.getD 4 undef) (l.getD 6 undef) H) ((List.range 40).map x) H = span_Set_at_g22 S (x 0) (x 1) (x 4) H := by kernel_rfl
def span_Set_at_g23 (S : Value → Value → Value → Value → Heap → Prop) (x0 x1 x4 x6 : Value) (H : Heap) : Prop :=
  bnd (nilV x0) fun v15 =>
  bnd (faV 1 v15) fun v16 =>
  bnd (ldE false 1 v16 H) fun v17 =>
  bnd (lenV v17) fun v18 =>
  bnd (binV .int .eql x6 v18) fun v19 =>
  brV v19
  (S x0 x4 x6 (.bool true) H)
  (bnd (nilV x0) fun v22 =>
  bnd (faV 1 v22) fun v23 =>
  bnd (ldE false 1 v23 H) fun v24 =>
  bnd (ixSV 2 v24 x6) fun v26 =>
  bnd (faV 0 v26) fun v27 =>
  bnd (ldE false 1 v27 H) fun v28 =>
  bnd (binV .int .gtr v28 x1) fun v30 =>
  S x0 x4 x6 v30 H)
theorem span_Set_at_g23_e (S : Value → Value → Value → Value → Heap → Prop) (x : Nat → Value) (H : Heap) : wpE tab P span_Set_at_pi span_Set_at_c13 (nQ fun l H => S (l.getD 0 undef) (l.getD 4 undef) (l.getD 6 undef) (l.getD 31 undef) H) ((List.range 40).map x) H = span_Set_at_g23 S (x 0) (x 1) (x 4) (x 6) H := by kernel_rfl
def span_Set_at_g24 (S : Value → Value → Heap → Prop) (x4 : Value) (H : Heap) : Prop :=
  bnd (ldE true 2 x4 H) fun v32 =>
  bnd (stE 2 x4 v32 H) fun H1 =>
  S x4 (.bool false) H1
theorem span_Set_at_g24_e (S : Value → Value → Heap → Prop) (x : Nat → Value) (H : Heap) : wpE tab P span_Set_at_pi span_Set_at_c16 (nQ fun l H => S (l.getD 4 undef) (l.getD 5 undef) H) ((List.range 40).map x) H = span_Set_at_g24 S (x 4) H := by kernel_rfl
def span_Set_at_g25 (S : Value → Value → Heap → Prop) (x0 x4 x6 : Value) (H : Heap) : Prop :=
  bnd (nilV x0) fun v34 =>
  bnd (faV 1 v34) fun v35 =>
  bnd (ldE false 1 v35 H) fun v36 =>
  bnd (ixSV 2 v36 x6) fun v38 =>
  bnd (ldE true 2 v38 H) fun v39 =>
  bnd (stE 2 x4 v39 H) fun H1 =>
  S x4 (.bool true) H1
theorem span_Set_at_g25_e (S : Value → Value → Heap → Prop) (x : Nat → Value) (H : Heap) : wpE tab P span_Set_at_pi span_Set_at_c18 (nQ fun l H => S (l.getD 4 undef) (l.getD 5 undef) H) ((List.range 40).map x) H = span_Set_at_g25 S (x 0) (x 4) (x 6) H := by kernel_rfl
def span_Set_at (x0 x1 : Value) (R : Value → Heap → Prop) (H : Heap) : Prop :=
  span_Set_at_g19 (fun x0 x1 x4 H => span_Set_at_g20 (fun x0 x1 x4 x8 H => brV x8
  (span_Set_at_g21 (fun x4 x5 H => bnd (ldE true 2 x4 H) fun r0 =>
  R (.tuple #[r0, x5]) H) x4 H)
  (span_Set_at_g22 (fun x0 x1 x4 x6 H => span_Set_at_g23 (fun x0 x4 x6 x31 H => brV x31
  (span_Set_at_g24 (fun x4 x5 H => bnd (ldE true 2 x4 H) fun r0 =>
  R (.tuple #[r0, x5]) H) x4 H)
  (span_Set_at_g25 (fun x4 x5 H => bnd (ldE true 2 x4 H) fun r0 =>
  R (.tuple #[r0, x5]) H) x0 x4 x6 H)) x0 x1 x4 x6 H) x0 x1 x4 H)) x0 x1 x4 H) x0 x1 H
theorem span_Set_at_i (R : Value → Heap → Prop) (x0 x1 : Value) (H : Heap) (h : span_Set_at x0 x1 R H) : wpE tab P span_Set_at_pi span_Set_at_c1 (retQ tab span_Set_at_rs R) [x0, x1, undef, undef, undef, undef, undef, undef, undef, undef, undef, undef, undef, undef, undef, undef, undef, undef, undef, undef, undef, undef, undef, undef, undef, undef, undef, undef, undef, undef, undef, undef, undef, undef, undef, undef, undef, undef, undef, undef] H := by
  obtain ⟨l, hl, el⟩ : ∃ l : List Value, l.length = 40 ∧ l = [x0, x1, undef, undef, undef, undef, undef, undef, undef, undef, undef, undef, undef, undef, undef, undef, undef, undef, undef, undef, undef, undef, undef, undef, undef, undef, undef, undef, undef, undef, undef, undef, undef, undef, undef, undef, undef, undef, undef, undef] := ⟨_, rfl, rfl⟩
  rw [← el]
  have h : (fun (x0 x1 : Value) => span_Set_at_g19 (fun x0 x1 x4 H => span_Set_at_g20 (fun x0 x1 x4 x8 H => brV x8
(span_Set_at_g21 (fun x4 x5 H => bnd (ldE true 2 x4 H) fun r0 =>
R (.tuple #[r0, x5]) H) x4 H)
(span_Set_at_g22 (fun x0 x1 x4 x6 H => span_Set_at_g23 (fun x0 x4 x6 x31 H => brV x31
(span_Set_at_g24 (fun x4 x5 H => bnd (ldE true 2 x4 H) fun r0 =>
R (.tuple #[r0, x5]) H) x4 H)
(span_Set_at_g25 (fun x4 x5 H => bnd (ldE true 2 x4 H) fun r0 =>
R (.tuple #[r0, x5]) H) x0 x4 x6 H)) x0 x1 x4 x6 H) x0 x1 x4 H)) x0 x1 x4 H) x0 x1 H) (l.getD 0 undef) (l.getD 1 undef) := by rw [el]; exact h
  clear el
  refine seqI (c := span_Set_at_c1) rfl ?_
  refine regI hl (Eq.mpr (span_Set_at_g19_e _ (fun i => l.getD i undef) _) h) ?_
  clear h hl
  intro l H hl h
  refine thenN ?_
  refine seqI (c := span_Set_at_c3) rfl ?_
  refine seqI (c := span_Set_at_c4) rfl ?_
  refine regI hl (Eq.mpr (span_Set_at_g20_e _ (fun i => l.getD i undef) _) h) ?_
  clear h hl
  intro l H hl h
  refine thenN ?_
  refine condI (c := span_Set_at_c6) rfl h ?_ ?_
  · clear h; intro h
    refine seqI (c := span_Set_at_c7) rfl ?_
    refine regI hl (Eq.mpr (span_Set_at_g21_e _ (fun i => l.getD i undef) _) h) ?_
    clear h hl
    intro l H hl h
    refine thenN ?_
    refine retI rfl ?_
    refine thenR ?_
    exact h
  · clear h; intro h
    refine skipI rfl ?_
    refine thenN ?_
    refine seqI (c := span_Set_at_c9) rfl ?_
    refine regI hl (Eq.mpr (span_Set_at_g22_e _ (fun i => l.getD i undef) _) h) ?_
    clear h hl
    intro l H hl h
    refine thenN ?_
    refine seqI (c := span_Set_at_c11) rfl ?_
    refine seqI (c := span_Set_at_c12) rfl ?_
    refine regI hl (Eq.mpr (span_Set_at_g23_e _ (fun i => l.getD i undef) _) h) ?_
    clear h hl
    intro l H hl h
    refine thenN ?_
    refine condI (c := span_Set_at_c14) rfl h ?_ ?_
    · clear h; intro h
      refine seqI (c := span_Set_at_c15) rfl ?_
      refine regI hl (Eq.mpr (span_Set_at_g24_e _ (fun i => l.getD i undef) _) h) ?_
      clear h hl
      intro l H hl h
      refine thenN ?_
      refine retI rfl ?_
      refine thenR ?_
      exact h
    · clear h; intro h
      refine skipI rfl ?_
      refine thenN ?_
      refine seqI (c := span_Set_at_c17) rfl ?_
      refine regI hl (Eq.mpr (span_Set_at_g25_e _ (fun i => l.getD i undef) _) h) ?_
      clear h hl
      intro l H hl h
      refine thenN ?_
      refine retI rfl ?_
      exact h
theorem span_Set_at_ok : okB span_Set_at_pi span_Set_at_c1 = true := by kernel_rfl
theorem span_Set_at_ev0 (x0 x1 : Value) (R : Value → Heap → Prop) (H : Heap) (h : span_Set_at x0 x1 R H) : EvL P N.span_Set_at #[x0, x1] H R :=
  EvF_intro (args := [x0, x1]) (k := 38) (rs := span_Set_at_rs) tab_ok mixed Try.func32 (show Try.f32.body = some span_Set_at_c1 by kernel_rfl) Try.call32 Try.ntmps32 (by kernel_rfl) (okCode_of _ span_Set_at_ok) rfl (span_Set_at_i R x0 x1 H h)
theorem span_Set_at_ev (x0 x1 : Value) (R : Value → Heap → Prop) (H : Heap) (h : span_Set_at x0 x1 R H) : EvF P N.span_Set_at #[x0, x1] H R := .inl (span_Set_at_ev0 x0 x1 R H h)
/- 33: sounder/sounderlaw04.holds -/
def sounderlaw04_holds_rs : List ResultVar := [.tmp 4]
noncomputable def sounderlaw04_holds_c2 : Code := subC (bodyC Try.f33) [0]
noncomputable def sounderlaw04_holds_c4 : Code := subC (bodyC Try.f33) [1, 0]
noncomputable def sounderlaw04_holds_c3 : Code := .seq sounderlaw04_holds_c4 Code.ret
noncomputable def sounderlaw04_holds_c1 : Code := .seq sounderlaw04_holds_c2 sounderlaw04_holds_c3
def sounderlaw04_holds_pi (_ : Nat) : Pl := .nil
def sounderlaw04_holds_g5 (S : Value → Value → Heap → Prop) (x0 x1 : Value) (H : Heap) : Prop :=
  S x0 x1 H
theorem sounderlaw04_holds_g5_e (S : Value → Value → Heap → Prop) (x : Nat → Value) (H : Heap) : wpE tab P sounderlaw04_holds_pi sounderlaw04_holds_c2 (nQ fun l H => S (l.getD 0 undef) (l.getD 1 undef) H) ((List.range 16).map x) H = sounderlaw04_holds_g5 S (x 0) (x 1) H := by kernel_rfl
def sounderlaw04_holds_g6 (S : Value → Heap → Prop) (x0 x1 : Value) (H : Heap) : Prop :=
  EvF P N.span_Set_Ranges #[x0] H fun v6 H1 =>
  EvF P N.sounderlaw04_equal #[v6, x1] H1 fun v8 H2 =>
  brV v8
  (EvF P N.span_Set_Len #[x0] H2 fun v11 H3 =>
  bnd (lenV x1) fun v13 =>
  bnd (binV .int .eql v11 v13) fun v14 =>
  S v14 H3)
  (S (.bool false) H2)
theorem sounderlaw04_holds_g6_e (S : Value → Heap → Prop) (x : Nat → Value) (H : Heap) : wpE tab P sounderlaw04_holds_pi sounderlaw04_holds_c4 (nQ fun l H => S (l.getD 4 undef) H) ((List.range 16).map x) H = sounderlaw04_holds_g6 S (x 0) (x 1) H := by kernel_rfl
def sounderlaw04_holds (x0 x1 : Value) (R : Value → Heap → Prop) (H : Heap) : Prop :=
  sounderlaw04_holds_g5 (fun x0 x1 H => sounderlaw04_holds_g6 (fun x4 H => R x4 H) x0 x1 H) x0 x1 H
theorem sounderlaw04_holds_i (R : Value → Heap → Prop) (x0 x1 : Value) (H : Heap) (h : sounderlaw04_holds x0 x1 R H) : wpE tab P sounderlaw04_holds_pi sounderlaw04_holds_c1 (retQ tab sounderlaw04_holds_rs R) [x0, x1, undef, undef, undef, undef, undef, undef, undef, undef, undef, undef, undef, undef, undef, undef] H := by
  obtain ⟨l, hl, el⟩ : ∃ l : List Value, l.length = 16 ∧ l = [x0, x1, undef, undef, undef, undef, undef, undef, undef, undef, undef, undef, undef, undef, undef, undef] := ⟨_, rfl, rfl⟩
  rw [← el]
  have h : (fun (x0 x1 : Value) => sounderlaw04_holds_g5 (fun x0 x1 H => sounderlaw04_holds_g6 (fun x4 H => R x4 H) x0 x1 H) x0 x1 H) (l.getD 0 undef) (l.getD 1 undef) := by rw [el]; exact h
  clear el
  refine seqI (c := sounderlaw04_holds_c1) rfl ?_
  refine regI hl (Eq.mpr (sounderlaw04_holds_g5_e _ (fun i => l.getD i undef) _) h) ?_
  clear h hl
  intro l H hl h
  refine thenN ?_
  refine seqI (c := sounderlaw04_holds_c3) rfl ?_
  refine regI hl (Eq.mpr (sounderlaw04_holds_g6_e _ (fun i => l.getD i undef) _) h) ?_
  clear h hl
  intro l H hl h
  refine thenN ?_
  refine retI rfl ?_
  exact h
theorem sounderlaw04_holds_ok : okB sounderlaw04_holds_pi sounderlaw04_holds_c1 = true := by kernel_rfl
theorem sounderlaw04_holds_ev0 (x0 x1 : Value) (R : Value → Heap → Prop) (H : Heap) (h : sounderlaw04_holds x0 x1 R H) : EvL P N.sounderlaw04_holds #[x0, x1] H R :=
  EvF_intro (args := [x0, x1]) (k := 14) (rs := sounderlaw04_holds_rs) tab_ok mixed Try.func33 (show Try.f33.body = some sounderlaw04_holds_c1 by kernel_rfl) Try.call33 Try.ntmps33 (by kernel_rfl) (okCode_of _ sounderlaw04_holds_ok) rfl (sounderlaw04_holds_i R x0 x1 H h)
theorem sounderlaw04_holds_ev (x0 x1 : Value) (R : Value → Heap → Prop) (H : Heap) (h : sounderlaw04_holds x0 x1 R H) : EvF P N.sounderlaw04_holds #[x0, x1] H R := .inl (sounderlaw04_holds_ev0 x0 x1 R H h)
end Go.Hc
