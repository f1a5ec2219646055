/- Functions, printed by gen.py. -/
import Derived.Test.YtecomjpmajbpgaaT
set_option linter.unusedSimpArgs false
set_option linter.unusedVariables false
set_option maxRecDepth 100000
namespace Go.Hc
open Go Go.Proofs
/- 34: slices.Equal[[]sounder/api.Range,sounder/api.Range] -/
def slices_Equal_Range_rs : List ResultVar := [.tmp 4]
noncomputable def slices_Equal_Range_c2 : Code := subC (bodyC Try.f34) [0]
noncomputable def slices_Equal_Range_c5 : Code := subC (bodyC Try.f34) [1, 0, 0]
noncomputable def slices_Equal_Range_c8 : Code := subC (bodyC Try.f34) [1, 0, 1, 0, 0]
noncomputable def slices_Equal_Range_c7 : Code := .seq slices_Equal_Range_c8 Code.ret
noncomputable def slices_Equal_Range_c6 : Code := .cond (.tmp 10) slices_Equal_Range_c7 Code.skip
noncomputable def slices_Equal_Range_c4 : Code := .seq slices_Equal_Range_c5 slices_Equal_Range_c6
noncomputable def slices_Equal_Range_c11 : Code := subC (bodyC Try.f34) [1, 1, 0, 0]
noncomputable def slices_Equal_Range_c15 : Code := subC (bodyC Try.f34) [1, 1, 0, 1, 0, 0, 0]
noncomputable def slices_Equal_Range_c18 : Code := .exit 0
noncomputable def slices_Equal_Range_c17 : Code := .cond (.tmp 14) Code.skip slices_Equal_Range_c18
noncomputable def slices_Equal_Range_c22 : Code := subC (bodyC Try.f34) [1, 1, 0, 1, 0, 0, 1, 1, 0, 0, 0]
noncomputable def slices_Equal_Range_c24 : Code := subC (bodyC Try.f34) [1, 1, 0, 1, 0, 0, 1, 1, 0, 0, 1, 0]
noncomputable def slices_Equal_Range_c27 : Code := subC (bodyC Try.f34) [1, 1, 0, 1, 0, 0, 1, 1, 0, 0, 1, 1, 0, 0]
noncomputable def slices_Equal_Range_c26 : Code := .seq slices_Equal_Range_c27 Code.ret
noncomputable def slices_Equal_Range_c25 : Code := .cond (.tmp 24) slices_Equal_Range_c26 Code.skip
noncomputable def slices_Equal_Range_c23 : Code := .seq slices_Equal_Range_c24 slices_Equal_Range_c25
noncomputable def slices_Equal_Range_c21 : Code := .seq slices_Equal_Range_c22 slices_Equal_Range_c23
noncomputable def slices_Equal_Range_c20 : Code := .block 1 slices_Equal_Range_c21
noncomputable def slices_Equal_Range_c28 : Code := subC (bodyC Try.f34) [1, 1, 0, 1, 0, 0, 1, 1, 1]
noncomputable def slices_Equal_Range_c19 : Code := .seq slices_Equal_Range_c20 slices_Equal_Range_c28
noncomputable def slices_Equal_Range_c16 : Code := .seq slices_Equal_Range_c17 slices_Equal_Range_c19
noncomputable def slices_Equal_Range_c14 : Code := .seq slices_Equal_Range_c15 slices_Equal_Range_c16
noncomputable def slices_Equal_Range_c13 : Code := .loop slices_Equal_Range_c14
noncomputable def slices_Equal_Range_c12 : Code := .block 0 slices_Equal_Range_c13
noncomputable def slices_Equal_Range_c10 : Code := .seq slices_Equal_Range_c11 slices_Equal_Range_c12
noncomputable def slices_Equal_Range_c30 : Code := subC (bodyC Try.f34) [1, 1, 1, 0]
noncomputable def slices_Equal_Range_c29 : Code := .seq slices_Equal_Range_c30 Code.ret
noncomputable def slices_Equal_Range_c9 : Code := .seq slices_Equal_Range_c10 slices_Equal_Range_c29
noncomputable def slices_Equal_Range_c3 : Code := .seq slices_Equal_Range_c4 slices_Equal_Range_c9
noncomputable def slices_Equal_Range_c1 : Code := .seq slices_Equal_Range_c2 slices_Equal_Range_c3
def slices_Equal_Range_pi (i : Nat) : Pl := match i with
  | 6 => (ones [0, 1, 2, 3, 4, 5, 6, 7, 8] .nil)
  | _ => .nil
def slices_Equal_Range_g31 (S : Value → Value → Heap → Prop) (x0 x1 : Value) (H : Heap) : Prop :=
  S x0 x1 H
theorem slices_Equal_Range_g31_e (S : Value → Value → Heap → Prop) (x : Nat → Value) (H : Heap) : wpE tab P slices_Equal_Range_pi slices_Equal_Range_c2 (nQ fun l H => S (l.getD 0 undef) (l.getD 1 undef) H) ((List.range 26).map x) H = slices_Equal_Range_g31 S (x 0) (x 1) H := by kernel_rfl
def slices_Equal_Range_g32 (S : Value → Value → Value → Heap → Prop) (x0 x1 : Value) (H : Heap) : Prop :=
  bnd (lenV x0) fun v7 =>
  bnd (lenV x1) fun v9 =>
  bnd (binV .int .neq v7 v9) fun v10 =>
  S x0 x1 v10 H
theorem slices_Equal_Range_g32_e (S : Value → Value → Value → Heap → Prop) (x : Nat → Value) (H : Heap) : wpE tab P slices_Equal_Range_pi slices_Equal_Range_c5 (nQ fun l H => S (l.getD 0 undef) (l.getD 1 undef) (l.getD 10 undef) H) ((List.range 26).map x) H = slices_Equal_Range_g32 S (x 0) (x 1) H := by kernel_rfl
def slices_Equal_Range_g33 (S : Value → Heap → Prop) (H : Heap) : Prop :=
  S (.bool false) H
theorem slices_Equal_Range_g33_e (S : Value → Heap → Prop) (x : Nat → Value) (H : Heap) : wpE tab P slices_Equal_Range_pi slices_Equal_Range_c8 (nQ fun l H => S (l.getD 4 undef) H) ((List.range 26).map x) H = slices_Equal_Range_g33 S  H := by kernel_rfl
def slices_Equal_Range_g34 (S : Value → Value → Value → Value → Heap → Prop) (x0 x1 : Value) (H : Heap) : Prop :=
  bnd (lenV x0) fun v12 =>
  S x0 x1 v12 (.int .i64 0) H
theorem slices_Equal_Range_g34_e (S : Value → Value → Value → Value → Heap → Prop) (x : Nat → Value) (H : Heap) : wpE tab P slices_Equal_Range_pi slices_Equal_Range_c11 (nQ fun l H => S (l.getD 0 undef) (l.getD 1 undef) (l.getD 12 undef) (l.getD 13 undef) H) ((List.range 26).map x) H = slices_Equal_Range_g34 S (x 0) (x 1) H := by kernel_rfl
def slices_Equal_Range_g36 (S : Value → Value → Value → Value → Value → Heap → Prop) (x0 x1 x12 x13 : Value) (H : Heap) : Prop :=
  bnd (binV .int .lss x13 x12) fun v14 =>
  S x0 x1 x12 x13 v14 H
theorem slices_Equal_Range_g36_e (S : Value → Value → Value → Value → Value → Heap → Prop) (x : Nat → Value) (H : Heap) : wpE tab P slices_Equal_Range_pi slices_Equal_Range_c15 (nQ fun l H => S (l.getD 0 undef) (l.getD 1 undef) (l.getD 12 undef) (l.getD 13 undef) (l.getD 14 undef) H) ((List.range 26).map x) H = slices_Equal_Range_g36 S (x 0) (x 1) (x 12) (x 13) H := by kernel_rfl
def slices_Equal_Range_g37 (S : Value → Value → Value → Value → Value → Heap → Prop) (x0 x1 x12 x13 : Value) (H : Heap) : Prop :=
  S x0 x1 x13 x12 x13 H
theorem slices_Equal_Range_g37_e (S : Value → Value → Value → Value → Value → Heap → Prop) (x : Nat → Value) (H : Heap) : wpE tab P slices_Equal_Range_pi slices_Equal_Range_c22 (nQ fun l H => S (l.getD 0 undef) (l.getD 1 undef) (l.getD 5 undef) (l.getD 12 undef) (l.getD 13 undef) H) ((List.range 26).map x) H = slices_Equal_Range_g37 S (x 0) (x 1) (x 12) (x 13) H := by kernel_rfl
def slices_Equal_Range_g38 (S : Value → Value → Value → Value → Value → Heap → Prop) (x0 x1 x5 x12 x13 : Value) (H : Heap) : Prop :=
  bnd (ixSV 2 x0 x5) fun v18 =>
  bnd (ldE true 2 v18 H) fun v19 =>
  bnd (ixSV 2 x1 x5) fun v22 =>
  bnd (ldE true 2 v22 H) fun v23 =>
  bnd (binV (.agg [true, true]) .neq v19 v23) fun v24 =>
  S x0 x1 x12 x13 v24 H
theorem slices_Equal_Range_g38_e (S : Value → Value → Value → Value → Value → Heap → Prop) (x : Nat → Value) (H : Heap) : wpE tab P slices_Equal_Range_pi slices_Equal_Range_c24 (nQ fun l H => S (l.getD 0 undef) (l.getD 1 undef) (l.getD 12 undef) (l.getD 13 undef) (l.getD 24 undef) H) ((List.range 26).map x) H = slices_Equal_Range_g38 S (x 0) (x 1) (x 5) (x 12) (x 13) H := by kernel_rfl
def slices_Equal_Range_g39 (S : Value → Heap → Prop) (H : Heap) : Prop :=
  S (.bool false) H
theorem slices_Equal_Range_g39_e (S : Value → Heap → Prop) (x : Nat → Value) (H : Heap) : wpE tab P slices_Equal_Range_pi slices_Equal_Range_c27 (nQ fun l H => S (l.getD 4 undef) H) ((List.range 26).map x) H = slices_Equal_Range_g39 S  H := by kernel_rfl
def slices_Equal_Range_g40 (S : Value → Value → Value → Value → Heap → Prop) (x0 x1 x12 x13 : Value) (H : Heap) : Prop :=
  bnd (binV .int .add x13 (.int .i64 1)) fun v25 =>
  S x0 x1 x12 v25 H
theorem slices_Equal_Range_g40_e (S : Value → Value → Value → Value → Heap → Prop) (x : Nat → Value) (H : Heap) : wpE tab P slices_Equal_Range_pi slices_Equal_Range_c28 (nQ fun l H => S (l.getD 0 undef) (l.getD 1 undef) (l.getD 12 undef) (l.getD 13 undef) H) ((List.range 26).map x) H = slices_Equal_Range_g40 S (x 0) (x 1) (x 12) (x 13) H := by kernel_rfl
def slices_Equal_Range_g41 (S : Value → Heap → Prop) (H : Heap) : Prop :=
  S (.bool true) H
theorem slices_Equal_Range_g41_e (S : Value → Heap → Prop) (x : Nat → Value) (H : Heap) : wpE tab P slices_Equal_Range_pi slices_Equal_Range_c30 (nQ fun l H => S (l.getD 4 undef) H) ((List.range 26).map x) H = slices_Equal_Range_g41 S  H := by kernel_rfl
def slices_Equal_Range_s35 (x0 x1 x12 x13 : Value) (K1 : Value → Value → Value → Value →  Heap → Prop) (R : Value → Heap → Prop) (H : Heap) : Prop :=
  slices_Equal_Range_g36 (fun x0 x1 x12 x13 x14 H => brV x14
  (slices_Equal_Range_g37 (fun x0 x1 x5 x12 x13 H => slices_Equal_Range_g38 (fun x0 x1 x12 x13 x24 H => brV x24
  (slices_Equal_Range_g39 (fun x4 H => R x4 H) H)
  (slices_Equal_Range_g40 (fun x0 x1 x12 x13 H => K1 x0 x1 x12 x13 H) x0 x1 x12 x13 H)) x0 x1 x5 x12 x13 H) x0 x1 x12 x13 H)
  (slices_Equal_Range_g41 (fun x4 H => R x4 H) H)) x0 x1 x12 x13 H
noncomputable def slices_Equal_Range_q42 (R : Value → Heap → Prop) : Exit → List Value → Heap → Prop := (retQ tab slices_Equal_Range_rs R)
noncomputable def slices_Equal_Range_q43 (R : Value → Heap → Prop) : Exit → List Value → Heap → Prop := (thenE (fun l H => wpE tab P slices_Equal_Range_pi slices_Equal_Range_c29 (slices_Equal_Range_q42 R) l H) (slices_Equal_Range_q42 R))
noncomputable def slices_Equal_Range_q44 (R : Value → Heap → Prop) : Exit → List Value → Heap → Prop := (blkE 0 (slices_Equal_Range_q43 R))
noncomputable def slices_Equal_Range_q45 (K1 : Value → Value → Value → Value →  Heap → Prop) (R : Value → Heap → Prop) : Exit → List Value → Heap → Prop := (thenE (fun l H => K1 (l.getD 0 undef) (l.getD 1 undef) (l.getD 12 undef) (l.getD 13 undef) H) (slices_Equal_Range_q44 R))
theorem slices_Equal_Range_s35_i (K1 : Value → Value → Value → Value →  Heap → Prop) (R : Value → Heap → Prop) (l : List Value) (H : Heap) (hl : l.length = 26) (h : slices_Equal_Range_s35 (l.getD 0 undef) (l.getD 1 undef) (l.getD 12 undef) (l.getD 13 undef) K1 R H) : wpE tab P slices_Equal_Range_pi slices_Equal_Range_c14 (slices_Equal_Range_q45 K1 R) l H := by
  refine seqI (c := slices_Equal_Range_c14) rfl ?_
  refine regI hl (Eq.mpr (slices_Equal_Range_g36_e _ (fun i => l.getD i undef) _) h) ?_
  clear h hl
  intro l H hl h
  refine thenN ?_
  refine seqI (c := slices_Equal_Range_c16) rfl ?_
  refine condI (c := slices_Equal_Range_c17) rfl h ?_ ?_
  · clear h; intro h
    refine skipI rfl ?_
    refine thenN ?_
    refine seqI (c := slices_Equal_Range_c19) rfl ?_
    refine blockI (c := slices_Equal_Range_c20) rfl ?_
    refine seqI (c := slices_Equal_Range_c21) rfl ?_
    refine regI hl (Eq.mpr (slices_Equal_Range_g37_e _ (fun i => l.getD i undef) _) h) ?_
    clear h hl
    intro l H hl h
    refine thenN ?_
    refine seqI (c := slices_Equal_Range_c23) rfl ?_
    refine regI hl (Eq.mpr (slices_Equal_Range_g38_e _ (fun i => l.getD i undef) _) h) ?_
    clear h hl
    intro l H hl h
    refine thenN ?_
    refine condI (c := slices_Equal_Range_c25) rfl h ?_ ?_
    · clear h; intro h
      refine seqI (c := slices_Equal_Range_c26) rfl ?_
      refine regI hl (Eq.mpr (slices_Equal_Range_g39_e _ (fun i => l.getD i undef) _) h) ?_
      clear h hl
      intro l H hl h
      refine thenN ?_
      refine retI rfl ?_
      refine blkR ?_
      refine thenR ?_
      refine thenR ?_
      refine blkR ?_
      refine thenR ?_
      exact h
    · clear h; intro h
      refine skipI rfl ?_
      refine blkN ?_
      refine thenN ?_
      refine regI hl (Eq.mpr (slices_Equal_Range_g40_e _ (fun i => l.getD i undef) _) h) ?_
      clear h hl
      intro l H hl h
      refine thenN ?_
      exact h
  · clear h; intro h
    refine exitI (c := slices_Equal_Range_c18) rfl ?_
    refine thenX ?_
    refine thenX ?_
    refine blkX ?_
    refine thenN ?_
    refine seqI (c := slices_Equal_Range_c29) rfl ?_
    refine regI hl (Eq.mpr (slices_Equal_Range_g41_e _ (fun i => l.getD i undef) _) h) ?_
    clear h hl
    intro l H hl h
    refine thenN ?_
    refine retI rfl ?_
    exact h
def slices_Equal_Range_l46 (x0 x1 x12 x13 : Value) (R : Value → Heap → Prop) (H : Heap) : Prop :=
  ∃ (I : Value → Heap → Prop) (μ : Value → Heap → Nat), I x13 H ∧ ∀ (y13 : Value) (H : Heap), I y13 H → slices_Equal_Range_s35 x0 x1 x12 y13 (fun z0 z1 z12 z13 H' => z0 = x0 ∧ z1 = x1 ∧ z12 = x12 ∧ (I z13 H' ∧ μ z13 H' < μ y13 H)) R H
def slices_Equal_Range (x0 x1 : Value) (R : Value → Heap → Prop) (H : Heap) : Prop :=
  slices_Equal_Range_g31 (fun x0 x1 H => slices_Equal_Range_g32 (fun x0 x1 x10 H => brV x10
  (slices_Equal_Range_g33 (fun x4 H => R x4 H) H)
  (slices_Equal_Range_g34 (fun x0 x1 x12 x13 H => slices_Equal_Range_l46 x0 x1 x12 x13 R H) x0 x1 H)) x0 x1 H) x0 x1 H
theorem slices_Equal_Range_i (R : Value → Heap → Prop) (x0 x1 : Value) (H : Heap) (h : slices_Equal_Range x0 x1 R H) : wpE tab P slices_Equal_Range_pi slices_Equal_Range_c1 (retQ tab slices_Equal_Range_rs R) [x0, x1, undef, undef, undef, undef, undef, undef, undef, undef, undef, undef, undef, undef, undef, undef, undef, undef, undef, undef, undef, undef, undef, undef, undef, undef] H := by
  obtain ⟨l, hl, el⟩ : ∃ l : List Value, l.length = 26 ∧ l = [x0, x1, undef, undef, undef, undef, undef, undef, undef, undef, undef, undef, undef, undef, undef, undef, undef, undef, undef, undef, undef, undef, undef, undef, undef, undef] := ⟨_, rfl, rfl⟩
  rw [← el]
  have h : (fun (x0 x1 : Value) => slices_Equal_Range_g31 (fun x0 x1 H => slices_Equal_Range_g32 (fun x0 x1 x10 H => brV x10
(slices_Equal_Range_g33 (fun x4 H => R x4 H) H)
(slices_Equal_Range_g34 (fun x0 x1 x12 x13 H => slices_Equal_Range_l46 x0 x1 x12 x13 R H) x0 x1 H)) x0 x1 H) x0 x1 H) (l.getD 0 undef) (l.getD 1 undef) := by rw [el]; exact h
  clear el
  refine seqI (c := slices_Equal_Range_c1) rfl ?_
  refine regI hl (Eq.mpr (slices_Equal_Range_g31_e _ (fun i => l.getD i undef) _) h) ?_
  clear h hl
  intro l H hl h
  refine thenN ?_
  refine seqI (c := slices_Equal_Range_c3) rfl ?_
  refine seqI (c := slices_Equal_Range_c4) rfl ?_
  refine regI hl (Eq.mpr (slices_Equal_Range_g32_e _ (fun i => l.getD i undef) _) h) ?_
  clear h hl
  intro l H hl h
  refine thenN ?_
  refine condI (c := slices_Equal_Range_c6) rfl h ?_ ?_
  · clear h; intro h
    refine seqI (c := slices_Equal_Range_c7) rfl ?_
    refine regI hl (Eq.mpr (slices_Equal_Range_g33_e _ (fun i => l.getD i undef) _) h) ?_
    clear h hl
    intro l H hl h
    refine thenN ?_
    refine retI rfl ?_
    refine thenR ?_
    exact h
  · clear h; intro h
    refine skipI rfl ?_
    refine thenN ?_
    refine seqI (c := slices_Equal_Range_c9) rfl ?_
    refine seqI (c := slices_Equal_Range_c10) rfl ?_
    refine regI hl (Eq.mpr (slices_Equal_Range_g34_e _ (fun i => l.getD i undef) _) h) ?_
    clear h hl
    intro l H hl h
    refine thenN ?_
    refine blockI (c := slices_Equal_Range_c12) rfl ?_
    obtain ⟨I, μ, h0, hr⟩ := h
    refine loopI (c := slices_Equal_Range_c13) rfl (fun l' H' => l'.getD 0 undef = l.getD 0 undef ∧ l'.getD 1 undef = l.getD 1 undef ∧ l'.getD 12 undef = l.getD 12 undef ∧ I (l'.getD 13 undef) H') (fun l' H' => μ (l'.getD 13 undef) H') hl ⟨rfl, rfl, rfl, h0⟩ ?_
    rintro l1 H1 hl1 ⟨e0, e1, e12, hI⟩
    have hb := hr (l1.getD 13 undef) H1 hI
    rw [← e0, ← e1, ← e12] at hb
    refine wpE_mono _ l1 H1 hl1 ?_ (slices_Equal_Range_s35_i _ R l1 H1 hl1 hb)
    intro e l2 H2 hl2 hq
    cases e with
    | normal => exact fun _ => (by obtain ⟨d0, d1, d12, g1, g2⟩ := hq; exact ⟨⟨d0.trans e0, d1.trans e1, d12.trans e12, g1⟩, g2⟩)
    | _ => exact hq
theorem slices_Equal_Range_ok : okB slices_Equal_Range_pi slices_Equal_Range_c1 = true := by kernel_rfl
theorem slices_Equal_Range_ev0 (x0 x1 : Value) (R : Value → Heap → Prop) (H : Heap) (h : slices_Equal_Range x0 x1 R H) : EvL P N.slices_Equal_Range #[x0, x1] H R :=
  EvF_intro (args := [x0, x1]) (k := 24) (rs := slices_Equal_Range_rs) tab_ok mixed Try.func34 (show Try.f34.body = some slices_Equal_Range_c1 by kernel_rfl) Try.call34 Try.ntmps34 (by kernel_rfl) (okCode_of _ slices_Equal_Range_ok) rfl (slices_Equal_Range_i R x0 x1 H h)
theorem slices_Equal_Range_ev (x0 x1 : Value) (R : Value → Heap → Prop) (H : Heap) (h : slices_Equal_Range x0 x1 R H) : EvF P N.slices_Equal_Range #[x0, x1] H R := .inl (slices_Equal_Range_ev0 x0 x1 R H h)
/- 35: slices.Delete[[]sounder/api.Range,sounder/api.Range] -/
def slices_Delete_Range_rs : List ResultVar := [.tmp 6]
noncomputable def slices_Delete_Range_c2 : Code := subC (bodyC Try.f35) [0]
noncomputable def slices_Delete_Range_c4 : Code := subC (bodyC Try.f35) [1, 0]
noncomputable def slices_Delete_Range_c7 : Code := subC (bodyC Try.f35) [1, 1, 0, 0]
noncomputable def slices_Delete_Range_c10 : Code := subC (bodyC Try.f35) [1, 1, 0, 1, 0, 0]
noncomputable def slices_Delete_Range_c9 : Code := .seq slices_Delete_Range_c10 Code.ret
noncomputable def slices_Delete_Range_c8 : Code := .cond (.tmp 16) slices_Delete_Range_c9 Code.skip
noncomputable def slices_Delete_Range_c6 : Code := .seq slices_Delete_Range_c7 slices_Delete_Range_c8
noncomputable def slices_Delete_Range_c12 : Code := subC (bodyC Try.f35) [1, 1, 1, 0]
noncomputable def slices_Delete_Range_c14 : Code := subC (bodyC Try.f35) [1, 1, 1, 1, 0]
noncomputable def slices_Delete_Range_c16 : Code := subC (bodyC Try.f35) [1, 1, 1, 1, 1, 0]
noncomputable def slices_Delete_Range_c18 : Code := subC (bodyC Try.f35) [1, 1, 1, 1, 1, 1, 0]
noncomputable def slices_Delete_Range_c17 : Code := .seq slices_Delete_Range_c18 Code.ret
noncomputable def slices_Delete_Range_c15 : Code := .seq slices_Delete_Range_c16 slices_Delete_Range_c17
noncomputable def slices_Delete_Range_c13 : Code := .seq slices_Delete_Range_c14 slices_Delete_Range_c15
noncomputable def slices_Delete_Range_c11 : Code := .seq slices_Delete_Range_c12 slices_Delete_Range_c13
noncomputable def slices_Delete_Range_c5 : Code := .seq slices_Delete_Range_c6 slices_Delete_Range_c11
noncomputable def slices_Delete_Range_c3 : Code := .seq slices_Delete_Range_c4 slices_Delete_Range_c5
noncomputable def slices_Delete_Range_c1 : Code := .seq slices_Delete_Range_c2 slices_Delete_Range_c3
def slices_Delete_Range_pi (i : Nat) : Pl := match i with
  | 5 => (ones [0, 1, 2, 3, 4, 5, 6, 7] .nil)
  | _ => .nil
def slices_Delete_Range_g19 (S : Value → Value → Value → Heap → Prop) (x0 x1 x2 : Value) (H : Heap) : Prop :=
  S x0 x1 x2 H
theorem slices_Delete_Range_g19_e (S : Value → Value → Value → Heap → Prop) (x : Nat → Value) (H : Heap) : wpE tab P slices_Delete_Range_pi slices_Delete_Range_c2 (nQ fun l H => S (l.getD 0 undef) (l.getD 1 undef) (l.getD 2 undef) H) ((List.range 33).map x) H = slices_Delete_Range_g19 S (x 0) (x 1) (x 2) H := by kernel_rfl
def slices_Delete_Range_g20 (S : Value → Value → Value → Heap → Prop) (x0 x1 x2 : Value) (H : Heap) : Prop :=
  bnd (lenV x0) fun v12 =>
  bnd (sliceV3 2 x0 (some x1) x2 v12) fun _ =>
  S x0 x1 x2 H
theorem slices_Delete_Range_g20_e (S : Value → Value → Value → Heap → Prop) (x : Nat → Value) (H : Heap) : wpE tab P slices_Delete_Range_pi slices_Delete_Range_c4 (nQ fun l H => S (l.getD 0 undef) (l.getD 1 undef) (l.getD 2 undef) H) ((List.range 33).map x) H = slices_Delete_Range_g20 S (x 0) (x 1) (x 2) H := by kernel_rfl
def slices_Delete_Range_g21 (S : Value → Value → Value → Value → Heap → Prop) (x0 x1 x2 : Value) (H : Heap) : Prop :=
  bnd (binV .int .eql x1 x2) fun v16 =>
  S x0 x1 x2 v16 H
theorem slices_Delete_Range_g21_e (S : Value → Value → Value → Value → Heap → Prop) (x : Nat → Value) (H : Heap) : wpE tab P slices_Delete_Range_pi slices_Delete_Range_c7 (nQ fun l H => S (l.getD 0 undef) (l.getD 1 undef) (l.getD 2 undef) (l.getD 16 undef) H) ((List.range 33).map x) H = slices_Delete_Range_g21 S (x 0) (x 1) (x 2) H := by kernel_rfl
def slices_Delete_Range_g22 (S : Value → Heap → Prop) (x0 : Value) (H : Heap) : Prop :=
  S x0 H
theorem slices_Delete_Range_g22_e (S : Value → Heap → Prop) (x : Nat → Value) (H : Heap) : wpE tab P slices_Delete_Range_pi slices_Delete_Range_c10 (nQ fun l H => S (l.getD 6 undef) H) ((List.range 33).map x) H = slices_Delete_Range_g22 S (x 0) H := by kernel_rfl
def slices_Delete_Range_g23 (S : Value → Value → Value → Value → Heap → Prop) (x0 x1 x2 : Value) (H : Heap) : Prop :=
  bnd (lenV x0) fun v19 =>
  S x0 x1 x2 v19 H
theorem slices_Delete_Range_g23_e (S : Value → Value → Value → Value → Heap → Prop) (x : Nat → Value) (H : Heap) : wpE tab P slices_Delete_Range_pi slices_Delete_Range_c12 (nQ fun l H => S (l.getD 0 undef) (l.getD 1 undef) (l.getD 2 undef) (l.getD 7 undef) H) ((List.range 33).map x) H = slices_Delete_Range_g23 S (x 0) (x 1) (x 2) H := by kernel_rfl
def slices_Delete_Range_g24 (S : Value → Value → Heap → Prop) (x0 x1 x2 x7 : Value) (H : Heap) : Prop :=
  bnd (sliceV 2 x0 none (some x1)) fun v22 =>
  bnd (sliceV 2 x0 (some x2) none) fun v25 =>
  appE 48 #[(.int .i64 0), (.int .i64 0)] 2 16 v22 v25 H fun v26 H1 =>
  S v26 x7 H1
theorem slices_Delete_Range_g24_e (S : Value → Value → Heap → Prop) (x : Nat → Value) (H : Heap) : wpE tab P slices_Delete_Range_pi slices_Delete_Range_c14 (nQ fun l H => S (l.getD 0 undef) (l.getD 7 undef) H) ((List.range 33).map x) H = slices_Delete_Range_g24 S (x 0) (x 1) (x 2) (x 7) H := by kernel_rfl
def slices_Delete_Range_g25 (S : Value → Heap → Prop) (x0 x7 : Value) (H : Heap) : Prop :=
  bnd (lenV x0) fun v29 =>
  bnd (sliceV 2 x0 (some v29) (some x7)) fun v31 =>
  clrE #[(.int .i64 0), (.int .i64 0)] v31 H fun _ H1 =>
  S x0 H1
theorem slices_Delete_Range_g25_e (S : Value → Heap → Prop) (x : Nat → Value) (H : Heap) : wpE tab P slices_Delete_Range_pi slices_Delete_Range_c16 (nQ fun l H => S (l.getD 0 undef) H) ((List.range 33).map x) H = slices_Delete_Range_g25 S (x 0) (x 7) H := by kernel_rfl
def slices_Delete_Range_g26 (S : Value → Heap → Prop) (x0 : Value) (H : Heap) : Prop :=
  S x0 H
theorem slices_Delete_Range_g26_e (S : Value → Heap → Prop) (x : Nat → Value) (H : Heap) : wpE tab P slices_Delete_Range_pi slices_Delete_Range_c18 (nQ fun l H => S (l.getD 6 undef) H) ((List.range 33).map x) H = slices_Delete_Range_g26 S (x 0) H := by kernel_rfl
def slices_Delete_Range (x0 x1 x2 : Value) (R : Value → Heap → Prop) (H : Heap) : Prop :=
  slices_Delete_Range_g19 (fun x0 x1 x2 H => slices_Delete_Range_g20 (fun x0 x1 x2 H => slices_Delete_Range_g21 (fun x0 x1 x2 x16 H => brV x16
  (slices_Delete_Range_g22 (fun x6 H => R x6 H) x0 H)
  (slices_Delete_Range_g23 (fun x0 x1 x2 x7 H => slices_Delete_Range_g24 (fun x0 x7 H => slices_Delete_Range_g25 (fun x0 H => slices_Delete_Range_g26 (fun x6 H => R x6 H) x0 H) x0 x7 H) x0 x1 x2 x7 H) x0 x1 x2 H)) x0 x1 x2 H) x0 x1 x2 H) x0 x1 x2 H
theorem slices_Delete_Range_i (R : Value → Heap → Prop) (x0 x1 x2 : Value) (H : Heap) (h : slices_Delete_Range x0 x1 x2 R H) : wpE tab P slices_Delete_Range_pi slices_Delete_Range_c1 (retQ tab slices_Delete_Range_rs R) [x0, x1, x2, undef, undef, undef, undef, undef, undef, undef, undef, undef, undef, undef, undef, undef, undef, undef, undef, undef, undef, undef, undef, undef, undef, undef, undef, undef, undef, undef, undef, undef, undef] H := by
  obtain ⟨l, hl, el⟩ : ∃ l : List Value, l.length = 33 ∧ l = [x0, x1, x2, undef, undef, undef, undef, undef, undef, undef, undef, undef, undef, undef, undef, undef, undef, undef, undef, undef, undef, undef, undef, undef, undef, undef, undef, undef, undef, undef, undef, undef, undef] := ⟨_, rfl, rfl⟩
  rw [← el]
  have h : (fun (x0 x1 x2 : Value) => slices_Delete_Range_g19 (fun x0 x1 x2 H => slices_Delete_Range_g20 (fun x0 x1 x2 H => slices_Delete_Range_g21 (fun x0 x1 x2 x16 H => brV x16
(slices_Delete_Range_g22 (fun x6 H => R x6 H) x0 H)
(slices_Delete_Range_g23 (fun x0 x1 x2 x7 H => slices_Delete_Range_g24 (fun x0 x7 H => slices_Delete_Range_g25 (fun x0 H => slices_Delete_Range_g26 (fun x6 H => R x6 H) x0 H) x0 x7 H) x0 x1 x2 x7 H) x0 x1 x2 H)) x0 x1 x2 H) x0 x1 x2 H) x0 x1 x2 H) (l.getD 0 undef) (l.getD 1 undef) (l.getD 2 undef) := by rw [el]; exact h
  clear el
  refine seqI (c := slices_Delete_Range_c1) rfl ?_
  refine regI hl (Eq.mpr (slices_Delete_Range_g19_e _ (fun i => l.getD i undef) _) h) ?_
  clear h hl
  intro l H hl h
  refine thenN ?_
  refine seqI (c := slices_Delete_Range_c3) rfl ?_
  refine regI hl (Eq.mpr (slices_Delete_Range_g20_e _ (fun i => l.getD i undef) _) h) ?_
  clear h hl
  intro l H hl h
  refine thenN ?_
  refine seqI (c := slices_Delete_Range_c5) rfl ?_
  refine seqI (c := slices_Delete_Range_c6) rfl ?_
  refine regI hl (Eq.mpr (slices_Delete_Range_g21_e _ (fun i => l.getD i undef) _) h) ?_
  clear h hl
  intro l H hl h
  refine thenN ?_
  refine condI (c := slices_Delete_Range_c8) rfl h ?_ ?_
  · clear h; intro h
    refine seqI (c := slices_Delete_Range_c9) rfl ?_
    refine regI hl (Eq.mpr (slices_Delete_Range_g22_e _ (fun i => l.getD i undef) _) h) ?_
    clear h hl
    intro l H hl h
    refine thenN ?_
    refine retI rfl ?_
    refine thenR ?_
    exact h
  · clear h; intro h
    refine skipI rfl ?_
    refine thenN ?_
    refine seqI (c := slices_Delete_Range_c11) rfl ?_
    refine regI hl (Eq.mpr (slices_Delete_Range_g23_e _ (fun i => l.getD i undef) _) h) ?_
    clear h hl
    intro l H hl h
    refine thenN ?_
    refine seqI (c := slices_Delete_Range_c13) rfl ?_
    refine regI hl (Eq.mpr (slices_Delete_Range_g24_e _ (fun i => l.getD i undef) _) h) ?_
    clear h hl
    intro l H hl h
    refine thenN ?_
    refine seqI (c := slices_Delete_Range_c15) rfl ?_
    refine regI hl (Eq.mpr (slices_Delete_Range_g25_e _ (fun i => l.getD i undef) _) h) ?_
    clear h hl
    intro l H hl h
    refine thenN ?_
    refine seqI (c := slices_Delete_Range_c17) rfl ?_
    refine regI hl (Eq.mpr (slices_Delete_Range_g26_e _ (fun i => l.getD i undef) _) h) ?_
    clear h hl
    intro l H hl h
    refine thenN ?_
    refine retI rfl ?_
    exact h
theorem slices_Delete_Range_ok : okB slices_Delete_Range_pi slices_Delete_Range_c1 = true := by kernel_rfl
theorem slices_Delete_Range_ev0 (x0 x1 x2 : Value) (R : Value → Heap → Prop) (H : Heap) (h : slices_Delete_Range x0 x1 x2 R H) : EvL P N.slices_Delete_Range #[x0, x1, x2] H R :=
  EvF_intro (args := [x0, x1, x2]) (k := 30) (rs := slices_Delete_Range_rs) tab_ok mixed Try.func35 (show Try.f35.body = some slices_Delete_Range_c1 by kernel_rfl) Try.call35 Try.ntmps35 (by kernel_rfl) (okCode_of _ slices_Delete_Range_ok) rfl (slices_Delete_Range_i R x0 x1 x2 H h)
theorem slices_Delete_Range_ev (x0 x1 x2 : Value) (R : Value → Heap → Prop) (H : Heap) (h : slices_Delete_Range x0 x1 x2 R H) : EvF P N.slices_Delete_Range #[x0, x1, x2] H R := .inl (slices_Delete_Range_ev0 x0 x1 x2 R H h)
/- 36: slices.Clone[[]sounder/api.Range,sounder/api.Range] -/
def slices_Clone_Range_rs : List ResultVar := [.tmp 2]
noncomputable def slices_Clone_Range_c2 : Code := subC (bodyC Try.f36) [0]
noncomputable def slices_Clone_Range_c5 : Code := subC (bodyC Try.f36) [1, 0, 0]
noncomputable def slices_Clone_Range_c8 : Code := subC (bodyC Try.f36) [1, 0, 1, 0, 0]
noncomputable def slices_Clone_Range_c7 : Code := .seq slices_Clone_Range_c8 Code.ret
noncomputable def slices_Clone_Range_c6 : Code := .cond (.tmp 4) slices_Clone_Range_c7 Code.skip
noncomputable def slices_Clone_Range_c4 : Code := .seq slices_Clone_Range_c5 slices_Clone_Range_c6
noncomputable def slices_Clone_Range_c10 : Code := subC (bodyC Try.f36) [1, 1, 0]
noncomputable def slices_Clone_Range_c9 : Code := .seq slices_Clone_Range_c10 Code.ret
noncomputable def slices_Clone_Range_c3 : Code := .seq slices_Clone_Range_c4 slices_Clone_Range_c9
noncomputable def slices_Clone_Range_c1 : Code := .seq slices_Clone_Range_c2 slices_Clone_Range_c3
def slices_Clone_Range_pi (_ : Nat) : Pl := .nil
def slices_Clone_Range_g11 (S : Value → Heap → Prop) (x0 : Value) (H : Heap) : Prop :=
  S x0 H
theorem slices_Clone_Range_g11_e (S : Value → Heap → Prop) (x : Nat → Value) (H : Heap) : wpE tab P slices_Clone_Range_pi slices_Clone_Range_c2 (nQ fun l H => S (l.getD 0 undef) H) ((List.range 8).map x) H = slices_Clone_Range_g11 S (x 0) H := by kernel_rfl
def slices_Clone_Range_g12 (S : Value → Value → Heap → Prop) (x0 : Value) (H : Heap) : Prop :=
  bnd (binV .slice .eql x0 (.slice none 0 0)) fun v4 =>
  S x0 v4 H
theorem slices_Clone_Range_g12_e (S : Value → Value → Heap → Prop) (x : Nat → Value) (H : Heap) : wpE tab P slices_Clone_Range_pi slices_Clone_Range_c5 (nQ fun l H => S (l.getD 0 undef) (l.getD 4 undef) H) ((List.range 8).map x) H = slices_Clone_Range_g12 S (x 0) H := by kernel_rfl
def slices_Clone_Range_g13 (S : Value → Heap → Prop) (H : Heap) : Prop :=
  S (.slice none 0 0) H
theorem slices_Clone_Range_g13_e (S : Value → Heap → Prop) (x : Nat → Value) (H : Heap) : wpE tab P slices_Clone_Range_pi slices_Clone_Range_c8 (nQ fun l H => S (l.getD 2 undef) H) ((List.range 8).map x) H = slices_Clone_Range_g13 S  H := by kernel_rfl
def slices_Clone_Range_g14 (S : Value → Heap → Prop) (x0 : Value) (H : Heap) : Prop :=
  bslE 48 #[(.int .i64 0), (.int .i64 0)] 2 0 [] H fun v5 H1 =>
  appE 48 #[(.int .i64 0), (.int .i64 0)] 2 16 v5 x0 H1 fun v7 H2 =>
  S v7 H2
theorem slices_Clone_Range_g14_e (S : Value → Heap → Prop) (x : Nat → Value) (H : Heap) : wpE tab P slices_Clone_Range_pi slices_Clone_Range_c10 (nQ fun l H => S (l.getD 2 undef) H) ((List.range 8).map x) H = slices_Clone_Range_g14 S (x 0) H := by kernel_rfl
def slices_Clone_Range (x0 : Value) (R : Value → Heap → Prop) (H : Heap) : Prop :=
  slices_Clone_Range_g11 (fun x0 H => slices_Clone_Range_g12 (fun x0 x4 H => brV x4
  (slices_Clone_Range_g13 (fun x2 H => R x2 H) H)
  (slices_Clone_Range_g14 (fun x2 H => R x2 H) x0 H)) x0 H) x0 H
theorem slices_Clone_Range_i (R : Value → Heap → Prop) (x0 : Value) (H : Heap) (h : slices_Clone_Range x0 R H) : wpE tab P slices_Clone_Range_pi slices_Clone_Range_c1 (retQ tab slices_Clone_Range_rs R) [x0, undef, undef, undef, undef, undef, undef, undef] H := by
  obtain ⟨l, hl, el⟩ : ∃ l : List Value, l.length = 8 ∧ l = [x0, undef, undef, undef, undef, undef, undef, undef] := ⟨_, rfl, rfl⟩
  rw [← el]
  have h : (fun (x0 : Value) => slices_Clone_Range_g11 (fun x0 H => slices_Clone_Range_g12 (fun x0 x4 H => brV x4
(slices_Clone_Range_g13 (fun x2 H => R x2 H) H)
(slices_Clone_Range_g14 (fun x2 H => R x2 H) x0 H)) x0 H) x0 H) (l.getD 0 undef) := by rw [el]; exact h
  clear el
  refine seqI (c := slices_Clone_Range_c1) rfl ?_
  refine regI hl (Eq.mpr (slices_Clone_Range_g11_e _ (fun i => l.getD i undef) _) h) ?_
  clear h hl
  intro l H hl h
  refine thenN ?_
  refine seqI (c := slices_Clone_Range_c3) rfl ?_
  refine seqI (c := slices_Clone_Range_c4) rfl ?_
  refine regI hl (Eq.mpr (slices_Clone_Range_g12_e _ (fun i => l.getD i undef) _) h) ?_
  clear h hl
  intro l H hl h
  refine thenN ?_
  refine condI (c := slices_Clone_Range_c6) rfl h ?_ ?_
  · clear h; intro h
    refine seqI (c := slices_Clone_Range_c7) rfl ?_
    refine regI hl (Eq.mpr (slices_Clone_Range_g13_e _ (fun i => l.getD i undef) _) h) ?_
    clear h hl
    intro l H hl h
    refine thenN ?_
    refine retI rfl ?_
    refine thenR ?_
    exact h
  · clear h; intro h
    refine skipI rfl ?_
    refine thenN ?_
    refine seqI (c := slices_Clone_Range_c9) rfl ?_
    refine regI hl (Eq.mpr (slices_Clone_Range_g14_e _ (fun i => l.getD i undef) _) h) ?_
    clear h hl
    intro l H hl h
    refine thenN ?_
    refine retI rfl ?_
    exact h
theorem slices_Clone_Range_ok : okB slices_Clone_Range_pi slices_Clone_Range_c1 = true := by kernel_rfl
theorem slices_Clone_Range_ev0 (x0 : Value) (R : Value → Heap → Prop) (H : Heap) (h : slices_Clone_Range x0 R H) : EvL P N.slices_Clone_Range #[x0] H R :=
  EvF_intro (args := [x0]) (k := 7) (rs := slices_Clone_Range_rs) tab_ok mixed Try.func36 (show Try.f36.body = some slices_Clone_Range_c1 by kernel_rfl) Try.call36 Try.ntmps36 (by kernel_rfl) (okCode_of _ slices_Clone_Range_ok) rfl (slices_Clone_Range_i R x0 H h)
theorem slices_Clone_Range_ev (x0 : Value) (R : Value → Heap → Prop) (H : Heap) (h : slices_Clone_Range x0 R H) : EvF P N.slices_Clone_Range #[x0] H R := .inl (slices_Clone_Range_ev0 x0 R H h)
/- 37: slices.Collect[sounder/api.Range] -/
def slices_Collect_Range_rs : List ResultVar := [.tmp 2]
noncomputable def slices_Collect_Range_c2 : Code := subC (bodyC Try.f37) [0]
noncomputable def slices_Collect_Range_c4 : Code := subC (bodyC Try.f37) [1, 0]
noncomputable def slices_Collect_Range_c3 : Code := .seq slices_Collect_Range_c4 Code.ret
noncomputable def slices_Collect_Range_c1 : Code := .seq slices_Collect_Range_c2 slices_Collect_Range_c3
def slices_Collect_Range_pi (_ : Nat) : Pl := .nil
def slices_Collect_Range_g5 (S : Value → Heap → Prop) (x0 : Value) (H : Heap) : Prop :=
  S x0 H
theorem slices_Collect_Range_g5_e (S : Value → Heap → Prop) (x : Nat → Value) (H : Heap) : wpE tab P slices_Collect_Range_pi slices_Collect_Range_c2 (nQ fun l H => S (l.getD 0 undef) H) ((List.range 5).map x) H = slices_Collect_Range_g5 S (x 0) H := by kernel_rfl
def slices_Collect_Range_g6 (S : Value → Heap → Prop) (x0 : Value) (H : Heap) : Prop :=
  EvF P N.slices_AppendSeq_Range #[(.slice none 0 0), x0] H fun v4 H1 =>
  S v4 H1
theorem slices_Collect_Range_g6_e (S : Value → Heap → Prop) (x : Nat → Value) (H : Heap) : wpE tab P slices_Collect_Range_pi slices_Collect_Range_c4 (nQ fun l H => S (l.getD 2 undef) H) ((List.range 5).map x) H = slices_Collect_Range_g6 S (x 0) H := by kernel_rfl
def slices_Collect_Range (x0 : Value) (R : Value → Heap → Prop) (H : Heap) : Prop :=
  slices_Collect_Range_g5 (fun x0 H => slices_Collect_Range_g6 (fun x2 H => R x2 H) x0 H) x0 H
theorem slices_Collect_Range_i (R : Value → Heap → Prop) (x0 : Value) (H : Heap) (h : slices_Collect_Range x0 R H) : wpE tab P slices_Collect_Range_pi slices_Collect_Range_c1 (retQ tab slices_Collect_Range_rs R) [x0, undef, undef, undef, undef] H := by
  obtain ⟨l, hl, el⟩ : ∃ l : List Value, l.length = 5 ∧ l = [x0, undef, undef, undef, undef] := ⟨_, rfl, rfl⟩
  rw [← el]
  have h : (fun (x0 : Value) => slices_Collect_Range_g5 (fun x0 H => slices_Collect_Range_g6 (fun x2 H => R x2 H) x0 H) x0 H) (l.getD 0 undef) := by rw [el]; exact h
  clear el
  refine seqI (c := slices_Collect_Range_c1) rfl ?_
  refine regI hl (Eq.mpr (slices_Collect_Range_g5_e _ (fun i => l.getD i undef) _) h) ?_
  clear h hl
  intro l H hl h
  refine thenN ?_
  refine seqI (c := slices_Collect_Range_c3) rfl ?_
  refine regI hl (Eq.mpr (slices_Collect_Range_g6_e _ (fun i => l.getD i undef) _) h) ?_
  clear h hl
  intro l H hl h
  refine thenN ?_
  refine retI rfl ?_
  exact h
theorem slices_Collect_Range_ok : okB slices_Collect_Range_pi slices_Collect_Range_c1 = true := by kernel_rfl
theorem slices_Collect_Range_ev0 (x0 : Value) (R : Value → Heap → Prop) (H : Heap) (h : slices_Collect_Range x0 R H) : EvL P N.slices_Collect_Range #[x0] H R :=
  EvF_intro (args := [x0]) (k := 4) (rs := slices_Collect_Range_rs) tab_ok mixed Try.func37 (show Try.f37.body = some slices_Collect_Range_c1 by kernel_rfl) Try.call37 Try.ntmps37 (by kernel_rfl) (okCode_of _ slices_Collect_Range_ok) rfl (slices_Collect_Range_i R x0 H h)
theorem slices_Collect_Range_ev (x0 : Value) (R : Value → Heap → Prop) (H : Heap) (h : slices_Collect_Range x0 R H) : EvF P N.slices_Collect_Range #[x0] H R := .inl (slices_Collect_Range_ev0 x0 R H h)
/- 38: (*sounder/span.Set).first$1 -/
def span_Set_first_1_rs : List ResultVar := [.tmp 4]
noncomputable def span_Set_first_1_c2 : Code := subC (bodyC Try.f38) [0]
noncomputable def span_Set_first_1_c4 : Code := subC (bodyC Try.f38) [1, 0]
noncomputable def span_Set_first_1_c3 : Code := .seq span_Set_first_1_c4 Code.ret
noncomputable def span_Set_first_1_c1 : Code := .seq span_Set_first_1_c2 span_Set_first_1_c3
def span_Set_first_1_pi (i : Nat) : Pl := match i with
  | 1 => (ones [0, 1, 2, 3, 4, 5, 6, 7, 8, 9, 10] .nil)
  | _ => .nil
def span_Set_first_1_g5 (S : Value → Value → Value → Heap → Prop) (x0 x1 x2 : Value) (H : Heap) : Prop :=
  S x0 x1 x2 H
theorem span_Set_first_1_g5_e (S : Value → Value → Value → Heap → Prop) (x : Nat → Value) (H : Heap) : wpE tab P span_Set_first_1_pi span_Set_first_1_c2 (nQ fun l H => S (l.getD 0 undef) (l.getD 1 undef) (l.getD 2 undef) H) ((List.range 15).map x) H = span_Set_first_1_g5 S (x 0) (x 1) (x 2) H := by kernel_rfl
def span_Set_first_1_g6 (S : Value → Heap → Prop) (x0 x1 x2 : Value) (H : Heap) : Prop :=
  bnd (ldE false 1 x1 H) fun v5 =>
  bnd (nilV v5) fun v6 =>
  bnd (faV 1 v6) fun v7 =>
  bnd (ldE false 1 v7 H) fun v8 =>
  bnd (ixSV 2 v8 x0) fun v10 =>
  bnd (faV 1 v10) fun v11 =>
  bnd (ldE false 1 v11 H) fun v12 =>
  bnd (ldE false 1 x2 H) fun v13 =>
  bnd (binV .int .geq v12 v13) fun v14 =>
  S v14 H
theorem span_Set_first_1_g6_e (S : Value → Heap → Prop) (x : Nat → Value) (H : Heap) : wpE tab P span_Set_first_1_pi span_Set_first_1_c4 (nQ fun l H => S (l.getD 4 undef) H) ((List.range 15).map x) H = span_Set_first_1_g6 S (x 0) (x 1) (x 2) H := by kernel_rfl
def span_Set_first_1 (x0 x1 x2 : Value) (R : Value → Heap → Prop) (H : Heap) : Prop :=
  span_Set_first_1_g5 (fun x0 x1 x2 H => span_Set_first_1_g6 (fun x4 H => R x4 H) x0 x1 x2 H) x0 x1 x2 H
theorem span_Set_first_1_i (R : Value → Heap → Prop) (x0 x1 x2 : Value) (H : Heap) (h : span_Set_first_1 x0 x1 x2 R H) : wpE tab P span_Set_first_1_pi span_Set_first_1_c1 (retQ tab span_Set_first_1_rs R) [x0, x1, x2, undef, undef, undef, undef, undef, undef, undef, undef, undef, undef, undef, undef] H := by
  obtain ⟨l, hl, el⟩ : ∃ l : List Value, l.length = 15 ∧ l = [x0, x1, x2, undef, undef, undef, undef, undef, undef, undef, undef, undef, undef, undef, undef] := ⟨_, rfl, rfl⟩
  rw [← el]
  have h : (fun (x0 x1 x2 : Value) => span_Set_first_1_g5 (fun x0 x1 x2 H => span_Set_first_1_g6 (fun x4 H => R x4 H) x0 x1 x2 H) x0 x1 x2 H) (l.getD 0 undef) (l.getD 1 undef) (l.getD 2 undef) := by rw [el]; exact h
  clear el
  refine seqI (c := span_Set_first_1_c1) rfl ?_
  refine regI hl (Eq.mpr (span_Set_first_1_g5_e _ (fun i => l.getD i undef) _) h) ?_
  clear h hl
  intro l H hl h
  refine thenN ?_
  refine seqI (c := span_Set_first_1_c3) rfl ?_
  refine regI hl (Eq.mpr (span_Set_first_1_g6_e _ (fun i => l.getD i undef) _) h) ?_
  clear h hl
  intro l H hl h
  refine thenN ?_
  refine retI rfl ?_
  exact h
theorem span_Set_first_1_ok : okB span_Set_first_1_pi span_Set_first_1_c1 = true := by kernel_rfl
theorem span_Set_first_1_ev0 (x0 x1 x2 : Value) (R : Value → Heap → Prop) (H : Heap) (h : span_Set_first_1 x0 x1 x2 R H) : EvL P N.span_Set_first_1 #[x0, x1, x2] H R :=
  EvF_intro (args := [x0, x1, x2]) (k := 12) (rs := span_Set_first_1_rs) tab_ok mixed Try.func38 (show Try.f38.body = some span_Set_first_1_c1 by kernel_rfl) Try.call38 Try.ntmps38 (by kernel_rfl) (okCode_of _ span_Set_first_1_ok) rfl (span_Set_first_1_i R x0 x1 x2 H h)
theorem span_Set_first_1_ev (x0 x1 x2 : Value) (R : Value → Heap → Prop) (H : Heap) (h : span_Set_first_1 x0 x1 x2 R H) : EvF P N.span_Set_first_1 #[x0, x1, x2] H R := .inl (span_Set_first_1_ev0 x0 x1 x2 R H h)
/- 39: slices.Insert[[]sounder/api.Range,sounder/api.Range] -/
def slices_Insert_Range_rs : List ResultVar := [.tmp 6]
noncomputable def slices_Insert_Range_c2 : Code := subC (bodyC Try.f39) [0]
noncomputable def slices_Insert_Range_c4 : Code := subC (bodyC Try.f39) [1, 0]
noncomputable def slices_Insert_Range_c6 : Code := subC (bodyC Try.f39) [1, 1, 0]
noncomputable def slices_Insert_Range_c9 : Code := subC (bodyC Try.f39) [1, 1, 1, 0, 0]
noncomputable def slices_Insert_Range_c12 : Code := subC (bodyC Try.f39) [1, 1, 1, 0, 1, 0, 0]
noncomputable def slices_Insert_Range_c11 : Code := .seq slices_Insert_Range_c12 Code.ret
noncomputable def slices_Insert_Range_c10 : Code := .cond (.tmp 16) slices_Insert_Range_c11 Code.skip
noncomputable def slices_Insert_Range_c8 : Code := .seq slices_Insert_Range_c9 slices_Insert_Range_c10
noncomputable def slices_Insert_Range_c14 : Code := subC (bodyC Try.f39) [1, 1, 1, 1, 0]
noncomputable def slices_Insert_Range_c17 : Code := subC (bodyC Try.f39) [1, 1, 1, 1, 1, 0, 0]
noncomputable def slices_Insert_Range_c20 : Code := subC (bodyC Try.f39) [1, 1, 1, 1, 1, 0, 1, 0, 0]
noncomputable def slices_Insert_Range_c19 : Code := .seq slices_Insert_Range_c20 Code.ret
noncomputable def slices_Insert_Range_c18 : Code := .cond (.tmp 22) slices_Insert_Range_c19 Code.skip
noncomputable def slices_Insert_Range_c16 : Code := .seq slices_Insert_Range_c17 slices_Insert_Range_c18
noncomputable def slices_Insert_Range_c23 : Code := subC (bodyC Try.f39) [1, 1, 1, 1, 1, 1, 0, 0]
noncomputable def slices_Insert_Range_c26 : Code := subC (bodyC Try.f39) [1, 1, 1, 1, 1, 1, 0, 1, 0, 0]
noncomputable def slices_Insert_Range_c28 : Code := subC (bodyC Try.f39) [1, 1, 1, 1, 1, 1, 0, 1, 0, 1, 0]
noncomputable def slices_Insert_Range_c30 : Code := subC (bodyC Try.f39) [1, 1, 1, 1, 1, 1, 0, 1, 0, 1, 1, 0]
noncomputable def slices_Insert_Range_c32 : Code := subC (bodyC Try.f39) [1, 1, 1, 1, 1, 1, 0, 1, 0, 1, 1, 1, 0]
noncomputable def slices_Insert_Range_c31 : Code := .seq slices_Insert_Range_c32 Code.ret
noncomputable def slices_Insert_Range_c29 : Code := .seq slices_Insert_Range_c30 slices_Insert_Range_c31
noncomputable def slices_Insert_Range_c27 : Code := .seq slices_Insert_Range_c28 slices_Insert_Range_c29
noncomputable def slices_Insert_Range_c25 : Code := .seq slices_Insert_Range_c26 slices_Insert_Range_c27
noncomputable def slices_Insert_Range_c24 : Code := .cond (.tmp 31) slices_Insert_Range_c25 Code.skip
noncomputable def slices_Insert_Range_c22 : Code := .seq slices_Insert_Range_c23 slices_Insert_Range_c24
noncomputable def slices_Insert_Range_c34 : Code := subC (bodyC Try.f39) [1, 1, 1, 1, 1, 1, 1, 0]
noncomputable def slices_Insert_Range_c37 : Code := subC (bodyC Try.f39) [1, 1, 1, 1, 1, 1, 1, 1, 0, 0]
noncomputable def slices_Insert_Range_c40 : Code := subC (bodyC Try.f39) [1, 1, 1, 1, 1, 1, 1, 1, 0, 1, 0, 0]
noncomputable def slices_Insert_Range_c42 : Code := subC (bodyC Try.f39) [1, 1, 1, 1, 1, 1, 1, 1, 0, 1, 0, 1, 0]
noncomputable def slices_Insert_Range_c44 : Code := subC (bodyC Try.f39) [1, 1, 1, 1, 1, 1, 1, 1, 0, 1, 0, 1, 1, 0]
noncomputable def slices_Insert_Range_c43 : Code := .seq slices_Insert_Range_c44 Code.ret
noncomputable def slices_Insert_Range_c41 : Code := .seq slices_Insert_Range_c42 slices_Insert_Range_c43
noncomputable def slices_Insert_Range_c39 : Code := .seq slices_Insert_Range_c40 slices_Insert_Range_c41
noncomputable def slices_Insert_Range_c38 : Code := .cond (.tmp 68) slices_Insert_Range_c39 Code.skip
noncomputable def slices_Insert_Range_c36 : Code := .seq slices_Insert_Range_c37 slices_Insert_Range_c38
noncomputable def slices_Insert_Range_c46 : Code := subC (bodyC Try.f39) [1, 1, 1, 1, 1, 1, 1, 1, 1, 0]
noncomputable def slices_Insert_Range_c48 : Code := subC (bodyC Try.f39) [1, 1, 1, 1, 1, 1, 1, 1, 1, 1, 0]
noncomputable def slices_Insert_Range_c50 : Code := subC (bodyC Try.f39) [1, 1, 1, 1, 1, 1, 1, 1, 1, 1, 1, 0]
noncomputable def slices_Insert_Range_c49 : Code := .seq slices_Insert_Range_c50 Code.ret
noncomputable def slices_Insert_Range_c47 : Code := .seq slices_Insert_Range_c48 slices_Insert_Range_c49
noncomputable def slices_Insert_Range_c45 : Code := .seq slices_Insert_Range_c46 slices_Insert_Range_c47
noncomputable def slices_Insert_Range_c35 : Code := .seq slices_Insert_Range_c36 slices_Insert_Range_c45
noncomputable def slices_Insert_Range_c33 : Code := .seq slices_Insert_Range_c34 slices_Insert_Range_c35
noncomputable def slices_Insert_Range_c21 : Code := .seq slices_Insert_Range_c22 slices_Insert_Range_c33
noncomputable def slices_Insert_Range_c15 : Code := .seq slices_Insert_Range_c16 slices_Insert_Range_c21
noncomputable def slices_Insert_Range_c13 : Code := .seq slices_Insert_Range_c14 slices_Insert_Range_c15
noncomputable def slices_Insert_Range_c7 : Code := .seq slices_Insert_Range_c8 slices_Insert_Range_c13
noncomputable def slices_Insert_Range_c5 : Code := .seq slices_Insert_Range_c6 slices_Insert_Range_c7
noncomputable def slices_Insert_Range_c3 : Code := .seq slices_Insert_Range_c4 slices_Insert_Range_c5
noncomputable def slices_Insert_Range_c1 : Code := .seq slices_Insert_Range_c2 slices_Insert_Range_c3
def slices_Insert_Range_pi (i : Nat) : Pl := match i with
  | 11 => (ones [0, 1, 2, 3, 4, 5, 6, 7, 8] .nil)
  | 15 => (ones [0, 1, 2, 3, 4, 5, 6, 7, 8] .nil)
  | _ => .nil
def slices_Insert_Range_g51 (S : Value → Value → Value → Heap → Prop) (x0 x1 x2 : Value) (H : Heap) : Prop :=
  S x0 x1 x2 H
theorem slices_Insert_Range_g51_e (S : Value → Value → Value → Heap → Prop) (x : Nat → Value) (H : Heap) : wpE tab P slices_Insert_Range_pi slices_Insert_Range_c2 (nQ fun l H => S (l.getD 0 undef) (l.getD 1 undef) (l.getD 2 undef) H) ((List.range 95).map x) H = slices_Insert_Range_g51 S (x 0) (x 1) (x 2) H := by kernel_rfl
def slices_Insert_Range_g52 (S : Value → Value → Value → Heap → Prop) (x0 x1 x2 : Value) (H : Heap) : Prop :=
  bnd (sliceV 2 x0 (some x1) none) fun _ =>
  S x0 x1 x2 H
theorem slices_Insert_Range_g52_e (S : Value → Value → Value → Heap → Prop) (x : Nat → Value) (H : Heap) : wpE tab P slices_Insert_Range_pi slices_Insert_Range_c4 (nQ fun l H => S (l.getD 0 undef) (l.getD 1 undef) (l.getD 2 undef) H) ((List.range 95).map x) H = slices_Insert_Range_g52 S (x 0) (x 1) (x 2) H := by kernel_rfl
def slices_Insert_Range_g53 (S : Value → Value → Value → Value → Heap → Prop) (x0 x1 x2 : Value) (H : Heap) : Prop :=
  bnd (lenV x2) fun v14 =>
  S x0 x1 x2 v14 H
theorem slices_Insert_Range_g53_e (S : Value → Value → Value → Value → Heap → Prop) (x : Nat → Value) (H : Heap) : wpE tab P slices_Insert_Range_pi slices_Insert_Range_c6 (nQ fun l H => S (l.getD 0 undef) (l.getD 1 undef) (l.getD 2 undef) (l.getD 7 undef) H) ((List.range 95).map x) H = slices_Insert_Range_g53 S (x 0) (x 1) (x 2) H := by kernel_rfl
def slices_Insert_Range_g54 (S : Value → Value → Value → Value → Value → Heap → Prop) (x0 x1 x2 x7 : Value) (H : Heap) : Prop :=
  bnd (binV .int .eql x7 (.int .i64 0)) fun v16 =>
  S x0 x1 x2 x7 v16 H
theorem slices_Insert_Range_g54_e (S : Value → Value → Value → Value → Value → Heap → Prop) (x : Nat → Value) (H : Heap) : wpE tab P slices_Insert_Range_pi slices_Insert_Range_c9 (nQ fun l H => S (l.getD 0 undef) (l.getD 1 undef) (l.getD 2 undef) (l.getD 7 undef) (l.getD 16 undef) H) ((List.range 95).map x) H = slices_Insert_Range_g54 S (x 0) (x 1) (x 2) (x 7) H := by kernel_rfl
def slices_Insert_Range_g55 (S : Value → Heap → Prop) (x0 : Value) (H : Heap) : Prop :=
  S x0 H
theorem slices_Insert_Range_g55_e (S : Value → Heap → Prop) (x : Nat → Value) (H : Heap) : wpE tab P slices_Insert_Range_pi slices_Insert_Range_c12 (nQ fun l H => S (l.getD 6 undef) H) ((List.range 95).map x) H = slices_Insert_Range_g55 S (x 0) H := by kernel_rfl
def slices_Insert_Range_g56 (S : Value → Value → Value → Value → Value → Heap → Prop) (x0 x1 x2 x7 : Value) (H : Heap) : Prop :=
  bnd (lenV x0) fun v19 =>
  S x0 x1 x2 x7 v19 H
theorem slices_Insert_Range_g56_e (S : Value → Value → Value → Value → Value → Heap → Prop) (x : Nat → Value) (H : Heap) : wpE tab P slices_Insert_Range_pi slices_Insert_Range_c14 (nQ fun l H => S (l.getD 0 undef) (l.getD 1 undef) (l.getD 2 undef) (l.getD 7 undef) (l.getD 8 undef) H) ((List.range 95).map x) H = slices_Insert_Range_g56 S (x 0) (x 1) (x 2) (x 7) H := by kernel_rfl
def slices_Insert_Range_g57 (S : Value → Value → Value → Value → Value → Value → Heap → Prop) (x0 x1 x2 x7 x8 : Value) (H : Heap) : Prop :=
  bnd (binV .int .eql x1 x8) fun v22 =>
  S x0 x1 x2 x7 x8 v22 H
theorem slices_Insert_Range_g57_e (S : Value → Value → Value → Value → Value → Value → Heap → Prop) (x : Nat → Value) (H : Heap) : wpE tab P slices_Insert_Range_pi slices_Insert_Range_c17 (nQ fun l H => S (l.getD 0 undef) (l.getD 1 undef) (l.getD 2 undef) (l.getD 7 undef) (l.getD 8 undef) (l.getD 22 undef) H) ((List.range 95).map x) H = slices_Insert_Range_g57 S (x 0) (x 1) (x 2) (x 7) (x 8) H := by kernel_rfl
def slices_Insert_Range_g58 (S : Value → Heap → Prop) (x0 x2 : Value) (H : Heap) : Prop :=
  appE 48 #[(.int .i64 0), (.int .i64 0)] 2 16 x0 x2 H fun v25 H1 =>
  S v25 H1
theorem slices_Insert_Range_g58_e (S : Value → Heap → Prop) (x : Nat → Value) (H : Heap) : wpE tab P slices_Insert_Range_pi slices_Insert_Range_c20 (nQ fun l H => S (l.getD 6 undef) H) ((List.range 95).map x) H = slices_Insert_Range_g58 S (x 0) (x 2) H := by kernel_rfl
def slices_Insert_Range_g59 (S : Value → Value → Value → Value → Value → Value → Heap → Prop) (x0 x1 x2 x7 x8 : Value) (H : Heap) : Prop :=
  bnd (binV .int .add x8 x7) fun v28 =>
  bnd (capV x0) fun v30 =>
  bnd (binV .int .gtr v28 v30) fun v31 =>
  S x0 x1 x2 x7 x8 v31 H
theorem slices_Insert_Range_g59_e (S : Value → Value → Value → Value → Value → Value → Heap → Prop) (x : Nat → Value) (H : Heap) : wpE tab P slices_Insert_Range_pi slices_Insert_Range_c23 (nQ fun l H => S (l.getD 0 undef) (l.getD 1 undef) (l.getD 2 undef) (l.getD 7 undef) (l.getD 8 undef) (l.getD 31 undef) H) ((List.range 95).map x) H = slices_Insert_Range_g59 S (x 0) (x 1) (x 2) (x 7) (x 8) H := by kernel_rfl
def slices_Insert_Range_g60 (S : Value → Value → Value → Value → Value → Heap → Prop) (x0 x1 x2 x7 x8 : Value) (H : Heap) : Prop :=
  bnd (sliceV 2 x0 none (some x1)) fun v34 =>
  bnd (binV .int .add x8 x7) fun v37 =>
  bnd (binV .int .sub v37 x1) fun v39 =>
  appZE 48 #[(.int .i64 0), (.int .i64 0)] 2 16 v34 v39 H fun v40 H1 =>
  S x0 x1 x2 x7 v40 H1
theorem slices_Insert_Range_g60_e (S : Value → Value → Value → Value → Value → Heap → Prop) (x : Nat → Value) (H : Heap) : wpE tab P slices_Insert_Range_pi slices_Insert_Range_c26 (nQ fun l H => S (l.getD 0 undef) (l.getD 1 undef) (l.getD 2 undef) (l.getD 7 undef) (l.getD 9 undef) H) ((List.range 95).map x) H = slices_Insert_Range_g60 S (x 0) (x 1) (x 2) (x 7) (x 8) H := by kernel_rfl
def slices_Insert_Range_g61 (S : Value → Value → Value → Value → Heap → Prop) (x0 x1 x2 x7 x9 : Value) (H : Heap) : Prop :=
  bnd (sliceV 2 x9 (some x1) none) fun v43 =>
  cpyE 2 v43 x2 H fun _ H1 =>
  S x0 x1 x7 x9 H1
theorem slices_Insert_Range_g61_e (S : Value → Value → Value → Value → Heap → Prop) (x : Nat → Value) (H : Heap) : wpE tab P slices_Insert_Range_pi slices_Insert_Range_c28 (nQ fun l H => S (l.getD 0 undef) (l.getD 1 undef) (l.getD 7 undef) (l.getD 9 undef) H) ((List.range 95).map x) H = slices_Insert_Range_g61 S (x 0) (x 1) (x 2) (x 7) (x 9) H := by kernel_rfl
def slices_Insert_Range_g62 (S : Value → Heap → Prop) (x0 x1 x7 x9 : Value) (H : Heap) : Prop :=
  bnd (binV .int .add x1 x7) fun v49 =>
  bnd (sliceV 2 x9 (some v49) none) fun v50 =>
  bnd (sliceV 2 x0 (some x1) none) fun v53 =>
  cpyE 2 v50 v53 H fun _ H1 =>
  S x9 H1
theorem slices_Insert_Range_g62_e (S : Value → Heap → Prop) (x : Nat → Value) (H : Heap) : wpE tab P slices_Insert_Range_pi slices_Insert_Range_c30 (nQ fun l H => S (l.getD 9 undef) H) ((List.range 95).map x) H = slices_Insert_Range_g62 S (x 0) (x 1) (x 7) (x 9) H := by kernel_rfl
def slices_Insert_Range_g63 (S : Value → Heap → Prop) (x9 : Value) (H : Heap) : Prop :=
  S x9 H
theorem slices_Insert_Range_g63_e (S : Value → Heap → Prop) (x : Nat → Value) (H : Heap) : wpE tab P slices_Insert_Range_pi slices_Insert_Range_c32 (nQ fun l H => S (l.getD 6 undef) H) ((List.range 95).map x) H = slices_Insert_Range_g63 S (x 9) H := by kernel_rfl
def slices_Insert_Range_g64 (S : Value → Value → Value → Value → Value → Heap → Prop) (x0 x1 x2 x7 x8 : Value) (H : Heap) : Prop :=
  bnd (binV .int .add x8 x7) fun v59 =>
  bnd (sliceV 2 x0 none (some v59)) fun v60 =>
  S v60 x1 x2 x7 x8 H
theorem slices_Insert_Range_g64_e (S : Value → Value → Value → Value → Value → Heap → Prop) (x : Nat → Value) (H : Heap) : wpE tab P slices_Insert_Range_pi slices_Insert_Range_c34 (nQ fun l H => S (l.getD 0 undef) (l.getD 1 undef) (l.getD 2 undef) (l.getD 7 undef) (l.getD 8 undef) H) ((List.range 95).map x) H = slices_Insert_Range_g64 S (x 0) (x 1) (x 2) (x 7) (x 8) H := by kernel_rfl
def slices_Insert_Range_g65 (S : Value → Value → Value → Value → Value → Value → Heap → Prop) (x0 x1 x2 x7 x8 : Value) (H : Heap) : Prop :=
  bnd (binV .int .add x1 x7) fun v65 =>
  bnd (sliceV 2 x0 (some v65) none) fun v66 =>
  EvF P N.slices_overlaps_Range #[x2, v66] H fun v67 H1 =>
  bnd (unV .not v67) fun v68 =>
  S x0 x1 x2 x7 x8 v68 H1
theorem slices_Insert_Range_g65_e (S : Value → Value → Value → Value → Value → Value → Heap → Prop) (x : Nat → Value) (H : Heap) : wpE tab P slices_Insert_Range_pi slices_Insert_Range_c37 (nQ fun l H => S (l.getD 0 undef) (l.getD 1 undef) (l.getD 2 undef) (l.getD 7 undef) (l.getD 8 undef) (l.getD 68 undef) H) ((List.range 95).map x) H = slices_Insert_Range_g65 S (x 0) (x 1) (x 2) (x 7) (x 8) H := by kernel_rfl
def slices_Insert_Range_g66 (S : Value → Value → Value → Heap → Prop) (x0 x1 x2 x7 : Value) (H : Heap) : Prop :=
  bnd (binV .int .add x1 x7) fun v72 =>
  bnd (sliceV 2 x0 (some v72) none) fun v73 =>
  bnd (sliceV 2 x0 (some x1) none) fun v76 =>
  cpyE 2 v73 v76 H fun _ H1 =>
  S x0 x1 x2 H1
theorem slices_Insert_Range_g66_e (S : Value → Value → Value → Heap → Prop) (x : Nat → Value) (H : Heap) : wpE tab P slices_Insert_Range_pi slices_Insert_Range_c40 (nQ fun l H => S (l.getD 0 undef) (l.getD 1 undef) (l.getD 2 undef) H) ((List.range 95).map x) H = slices_Insert_Range_g66 S (x 0) (x 1) (x 2) (x 7) H := by kernel_rfl
def slices_Insert_Range_g67 (S : Value → Heap → Prop) (x0 x1 x2 : Value) (H : Heap) : Prop :=
  bnd (sliceV 2 x0 (some x1) none) fun v80 =>
  cpyE 2 v80 x2 H fun _ H1 =>
  S x0 H1
theorem slices_Insert_Range_g67_e (S : Value → Heap → Prop) (x : Nat → Value) (H : Heap) : wpE tab P slices_Insert_Range_pi slices_Insert_Range_c42 (nQ fun l H => S (l.getD 0 undef) H) ((List.range 95).map x) H = slices_Insert_Range_g67 S (x 0) (x 1) (x 2) H := by kernel_rfl
def slices_Insert_Range_g68 (S : Value → Heap → Prop) (x0 : Value) (H : Heap) : Prop :=
  S x0 H
theorem slices_Insert_Range_g68_e (S : Value → Heap → Prop) (x : Nat → Value) (H : Heap) : wpE tab P slices_Insert_Range_pi slices_Insert_Range_c44 (nQ fun l H => S (l.getD 6 undef) H) ((List.range 95).map x) H = slices_Insert_Range_g68 S (x 0) H := by kernel_rfl
def slices_Insert_Range_g69 (S : Value → Value → Value → Heap → Prop) (x0 x1 x2 x7 x8 : Value) (H : Heap) : Prop :=
  bnd (sliceV 2 x0 (some x8) none) fun v86 =>
  cpyE 2 v86 x2 H fun _ H1 =>
  S x0 x1 x7 H1
theorem slices_Insert_Range_g69_e (S : Value → Value → Value → Heap → Prop) (x : Nat → Value) (H : Heap) : wpE tab P slices_Insert_Range_pi slices_Insert_Range_c46 (nQ fun l H => S (l.getD 0 undef) (l.getD 1 undef) (l.getD 7 undef) H) ((List.range 95).map x) H = slices_Insert_Range_g69 S (x 0) (x 1) (x 2) (x 7) (x 8) H := by kernel_rfl
def slices_Insert_Range_g70 (S : Value → Heap → Prop) (x0 x1 x7 : Value) (H : Heap) : Prop :=
  bnd (sliceV 2 x0 (some x1) none) fun v91 =>
  EvF P N.slices_rotateRight_Range #[v91, x7] H fun _ H1 =>
  S x0 H1
theorem slices_Insert_Range_g70_e (S : Value → Heap → Prop) (x : Nat → Value) (H : Heap) : wpE tab P slices_Insert_Range_pi slices_Insert_Range_c48 (nQ fun l H => S (l.getD 0 undef) H) ((List.range 95).map x) H = slices_Insert_Range_g70 S (x 0) (x 1) (x 7) H := by kernel_rfl
def slices_Insert_Range_g71 (S : Value → Heap → Prop) (x0 : Value) (H : Heap) : Prop :=
  S x0 H
theorem slices_Insert_Range_g71_e (S : Value → Heap → Prop) (x : Nat → Value) (H : Heap) : wpE tab P slices_Insert_Range_pi slices_Insert_Range_c50 (nQ fun l H => S (l.getD 6 undef) H) ((List.range 95).map x) H = slices_Insert_Range_g71 S (x 0) H := by kernel_rfl
def slices_Insert_Range (x0 x1 x2 : Value) (R : Value → Heap → Prop) (H : Heap) : Prop :=
  slices_Insert_Range_g51 (fun x0 x1 x2 H => slices_Insert_Range_g52 (fun x0 x1 x2 H => slices_Insert_Range_g53 (fun x0 x1 x2 x7 H => slices_Insert_Range_g54 (fun x0 x1 x2 x7 x16 H => brV x16
  (slices_Insert_Range_g55 (fun x6 H => R x6 H) x0 H)
  (slices_Insert_Range_g56 (fun x0 x1 x2 x7 x8 H => slices_Insert_Range_g57 (fun x0 x1 x2 x7 x8 x22 H => brV x22
  (slices_Insert_Range_g58 (fun x6 H => R x6 H) x0 x2 H)
  (slices_Insert_Range_g59 (fun x0 x1 x2 x7 x8 x31 H => brV x31
  (slices_Insert_Range_g60 (fun x0 x1 x2 x7 x9 H => slices_Insert_Range_g61 (fun x0 x1 x7 x9 H => slices_Insert_Range_g62 (fun x9 H => slices_Insert_Range_g63 (fun x6 H => R x6 H) x9 H) x0 x1 x7 x9 H) x0 x1 x2 x7 x9 H) x0 x1 x2 x7 x8 H)
  (slices_Insert_Range_g64 (fun x0 x1 x2 x7 x8 H => slices_Insert_Range_g65 (fun x0 x1 x2 x7 x8 x68 H => brV x68
  (slices_Insert_Range_g66 (fun x0 x1 x2 H => slices_Insert_Range_g67 (fun x0 H => slices_Insert_Range_g68 (fun x6 H => R x6 H) x0 H) x0 x1 x2 H) x0 x1 x2 x7 H)
  (slices_Insert_Range_g69 (fun x0 x1 x7 H => slices_Insert_Range_g70 (fun x0 H => slices_Insert_Range_g71 (fun x6 H => R x6 H) x0 H) x0 x1 x7 H) x0 x1 x2 x7 x8 H)) x0 x1 x2 x7 x8 H) x0 x1 x2 x7 x8 H)) x0 x1 x2 x7 x8 H)) x0 x1 x2 x7 x8 H) x0 x1 x2 x7 H)) x0 x1 x2 x7 H) x0 x1 x2 H) x0 x1 x2 H) x0 x1 x2 H
theorem slices_Insert_Range_i (R : Value → Heap → Prop) (x0 x1 x2 : Value) (H : Heap) (h : slices_Insert_Range x0 x1 x2 R H) : wpE tab P slices_Insert_Range_pi slices_Insert_Range_c1 (retQ tab slices_Insert_Range_rs R) [x0, x1, x2, undef, undef, undef, undef, undef, undef, undef, undef, undef, undef, undef, undef, undef, undef, undef, undef, undef, undef, undef, undef, undef, undef, undef, undef, undef, undef, undef, undef, undef, undef, undef, undef, undef, undef, undef, undef, undef, undef, undef, undef, undef, undef, undef, undef, undef, undef, undef, undef, undef, undef, undef, undef, undef, undef, undef, undef, undef, undef, undef, undef, undef, undef, undef, undef, undef, undef, undef, undef, undef, undef, undef, undef, undef, undef, undef, undef, undef, undef, undef, undef, undef, undef, undef, undef, undef, undef, undef, undef, undef, undef, undef, undef] H := by
  obtain ⟨l, hl, el⟩ : ∃ l : List Value, l.length = 95 ∧ l = [x0, x1, x2, undef, undef, undef, undef, undef, undef, undef, undef, undef, undef, undef, undef, undef, undef, undef, undef, undef, undef, undef, undef, undef, undef, undef, undef, undef, undef, undef, undef, undef, undef, undef, undef, undef, undef, undef, undef, undef, undef, undef, undef, undef, undef, undef, undef, undef, undef, undef, undef, undef, undef, undef, undef, undef, undef, undef, undef, undef, undef, undef, undef, undef, undef, undef, undef, undef, undef, undef, undef, undef, undef, undef, undef, undef, undef, undef, undef, undef, undef, undef, undef, undef, undef, undef, undef, undef, undef, undef, undef, undef, undef, undef, undef] := ⟨_, rfl, rfl⟩
  rw [← el]
  have h : (fun (x0 x1 x2 : Value) => slices_Insert_Range_g51 (fun x0 x1 x2 H => slices_Insert_Range_g52 (fun x0 x1 x2 H => slices_Insert_Range_g53 (fun x0 x1 x2 x7 H => slices_Insert_Range_g54 (fun x0 x1 x2 x7 x16 H => brV x16
(slices_Insert_Range_g55 (fun x6 H => R x6 H) x0 H)
(slices_Insert_Range_g56 (fun x0 x1 x2 x7 x8 H => slices_Insert_Range_g57 (fun x0 x1 x2 x7 x8 x22 H => brV x22
(slices_Insert_Range_g58 (fun x6 H => R x6 H) x0 x2 H)
(slices_Insert_Range_g59 (fun x0 x1 x2 x7 x8 x31 H => brV x31
(slices_Insert_Range_g60 (fun x0 x1 x2 x7 x9 H => slices_Insert_Range_g61 (fun x0 x1 x7 x9 H => slices_Insert_Range_g62 (fun x9 H => slices_Insert_Range_g63 (fun x6 H => R x6 H) x9 H) x0 x1 x7 x9 H) x0 x1 x2 x7 x9 H) x0 x1 x2 x7 x8 H)
(slices_Insert_Range_g64 (fun x0 x1 x2 x7 x8 H => slices_Insert_Range_g65 (fun x0 x1 x2 x7 x8 x68 H => brV x68
(slices_Insert_Range_g66 (fun x0 x1 x2 H => slices_Insert_Range_g67 (fun x0 H => slices_Insert_Range_g68 (fun x6 H => R x6 H) x0 H) x0 x1 x2 H) x0 x1 x2 x7 H)
(slices_Insert_Range_g69 (fun x0 x1 x7 H => slices_Insert_Range_g70 (fun x0 H => slices_Insert_Range_g71 (fun x6 H => R x6 H) x0 H) x0 x1 x7 H) x0 x1 x2 x7 x8 H)) x0 x1 x2 x7 x8 H) x0 x1 x2 x7 x8 H)) x0 x1 x2 x7 x8 H)) x0 x1 x2 x7 x8 H) x0 x1 x2 x7 H)) x0 x1 x2 x7 H) x0 x1 x2 H) x0 x1 x2 H) x0 x1 x2 H) (l.getD 0 undef) (l.getD 1 undef) (l.getD 2 undef) := by rw [el]; exact h
  clear el
  refine seqI (c := slices_Insert_Range_c1) rfl ?_
  refine regI hl (Eq.mpr (slices_Insert_Range_g51_e _ (fun i => l.getD i undef) _) h) ?_
  clear h hl
  intro l H hl h
  refine thenN ?_
  refine seqI (c := slices_Insert_Range_c3) rfl ?_
  refine regI hl (Eq.mpr (slices_Insert_Range_g52_e _ (fun i => l.getD i undef) _) h) ?_
  clear h hl
  intro l H hl h
  refine thenN ?_
  refine seqI (c := slices_Insert_Range_c5) rfl ?_
  refine regI hl (Eq.mpr (slices_Insert_Range_g53_e _ (fun i => l.getD i undef) _) h) ?_
  clear h hl
  intro l H hl h
  refine thenN ?_
  refine seqI (c := slices_Insert_Range_c7) rfl ?_
  refine seqI (c := slices_Insert_Range_c8) rfl ?_
  refine regI hl (Eq.mpr (slices_Insert_Range_g54_e _ (fun i => l.getD i undef) _) h) ?_
  clear h hl
  intro l H hl h
  refine thenN ?_
  refine condI (c := slices_Insert_Range_c10) rfl h ?_ ?_
  · clear h; intro h
    refine seqI (c := slices_Insert_Range_c11) rfl ?_
    refine regI hl (Eq.mpr (slices_Insert_Range_g55_e _ (fun i => l.getD i undef) _) h) ?_
    clear h hl
    intro l H hl h
    refine thenN ?_
    refine retI rfl ?_
    refine thenR ?_
    exact h
  · clear h; intro h
    refine skipI rfl ?_
    refine thenN ?_
    refine seqI (c := slices_Insert_Range_c13) rfl ?_
    refine regI hl (Eq.mpr (slices_Insert_Range_g56_e _ (fun i => l.getD i undef) _) h) ?_
    clear h hl
    intro l H hl h
    refine thenN ?_
    refine seqI (c := slices_Insert_Range_c15) rfl ?_
    refine seqI (c := slices_Insert_Range_c16) rfl ?_
    refine regI hl (Eq.mpr (slices_Insert_Range_g57_e _ (fun i => l.getD i undef) _) h) ?_
    clear h hl
    intro l H hl h
    refine thenN ?_
    refine condI (c := slices_Insert_Range_c18) rfl h ?_ ?_
    · clear h; intro h
      refine seqI (c := slices_Insert_Range_c19) rfl ?_
      refine regI hl (Eq.mpr (slices_Insert_Range_g58_e _ (fun i => l.getD i undef) _) h) ?_
      clear h hl
      intro l H hl h
      refine thenN ?_
      refine retI rfl ?_
      refine thenR ?_
      exact h
    · clear h; intro h
      refine skipI rfl ?_
      refine thenN ?_
      refine seqI (c := slices_Insert_Range_c21) rfl ?_
      refine seqI (c := slices_Insert_Range_c22) rfl ?_
      refine regI hl (Eq.mpr (slices_Insert_Range_g59_e _ (fun i => l.getD i undef) _) h) ?_
      clear h hl
      intro l H hl h
      refine thenN ?_
      refine condI (c := slices_Insert_Range_c24) rfl h ?_ ?_
      · clear h; intro h
        refine seqI (c := slices_Insert_Range_c25) rfl ?_
        refine regI hl (Eq.mpr (slices_Insert_Range_g60_e _ (fun i => l.getD i undef) _) h) ?_
        clear h hl
        intro l H hl h
        refine thenN ?_
        refine seqI (c := slices_Insert_Range_c27) rfl ?_
        refine regI hl (Eq.mpr (slices_Insert_Range_g61_e _ (fun i => l.getD i undef) _) h) ?_
        clear h hl
        intro l H hl h
        refine thenN ?_
        refine seqI (c := slices_Insert_Range_c29) rfl ?_
        refine regI hl (Eq.mpr (slices_Insert_Range_g62_e _ (fun i => l.getD i undef) _) h) ?_
        clear h hl
        intro l H hl h
        refine thenN ?_
        refine seqI (c := slices_Insert_Range_c31) rfl ?_
        refine regI hl (Eq.mpr (slices_Insert_Range_g63_e _ (fun i => l.getD i undef) _) h) ?_
        clear h hl
        intro l H hl h
        refine thenN ?_
        refine retI rfl ?_
        refine thenR ?_
        exact h
      · clear h; intro h
        refine skipI rfl ?_
        refine thenN ?_
        refine seqI (c := slices_Insert_Range_c33) rfl ?_
        refine regI hl (Eq.mpr (slices_Insert_Range_g64_e _ (fun i => l.getD i undef) _) h) ?_
        clear h hl
        intro l H hl h
        refine thenN ?_
        refine seqI (c := slices_Insert_Range_c35) rfl ?_
        refine seqI (c := slices_Insert_Range_c36) rfl ?_
        refine regI hl (Eq.mpr (slices_Insert_Range_g65_e _ (fun i => l.getD i undef) _) h) ?_
        clear h hl
        intro l H hl h
        refine thenN ?_
        refine condI (c := slices_Insert_Range_c38) rfl h ?_ ?_
        · clear h; intro h
          refine seqI (c := slices_Insert_Range_c39) rfl ?_
          refine regI hl (Eq.mpr (slices_Insert_Range_g66_e _ (fun i => l.getD i undef) _) h) ?_
          clear h hl
          intro l H hl h
          refine thenN ?_
          refine seqI (c := slices_Insert_Range_c41) rfl ?_
          refine regI hl (Eq.mpr (slices_Insert_Range_g67_e _ (fun i => l.getD i undef) _) h) ?_
          clear h hl
          intro l H hl h
          refine thenN ?_
          refine seqI (c := slices_Insert_Range_c43) rfl ?_
          refine regI hl (Eq.mpr (slices_Insert_Range_g68_e _ (fun i => l.getD i undef) _) h) ?_
          clear h hl
          intro l H hl h
          refine thenN ?_
          refine retI rfl ?_
          refine thenR ?_
          exact h
        · clear h; intro h
          refine skipI rfl ?_
          refine thenN ?_
          refine seqI (c := slices_Insert_Range_c45) rfl ?_
          refine regI hl (Eq.mpr (slices_Insert_Range_g69_e _ (fun i => l.getD i undef) _) h) ?_
          clear h hl
          intro l H hl h
          refine thenN ?_
          refine seqI (c := slices_Insert_Range_c47) rfl ?_
          refine regI hl (Eq.mpr (slices_Insert_Range_g70_e _ (fun i => l.getD i undef) _) h) ?_
          clear h hl
          intro l H hl h
          refine thenN ?_
          refine seqI (c := slices_Insert_Range_c49) rfl ?_
          refine regI hl (Eq.mpr (slices_Insert_Range_g71_e _ (fun i => l.getD i undef) _) h) ?_
          clear h hl
          intro l H hl h
          refine thenN ?_
          refine retI rfl ?_
          exact h
theorem slices_Insert_Range_ok : okB slices_Insert_Range_pi slices_Insert_Range_c1 = true := by kernel_rfl
theorem slices_Insert_Range_ev0 (x0 x1 x2 : Value) (R : Value → Heap → Prop) (H : Heap) (h : slices_Insert_Range x0 x1 x2 R H) : EvL P N.slices_Insert_Range #[x0, x1, x2] H R :=
  EvF_intro (args := [x0, x1, x2]) (k := 92) (rs := slices_Insert_Range_rs) tab_ok mixed Try.func39 (show Try.f39.body = some slices_Insert_Range_c1 by kernel_rfl) Try.call39 Try.ntmps39 (by kernel_rfl) (okCode_of _ slices_Insert_Range_ok) rfl (slices_Insert_Range_i R x0 x1 x2 H h)
theorem slices_Insert_Range_ev (x0 x1 x2 : Value) (R : Value → Heap → Prop) (H : Heap) (h : slices_Insert_Range x0 x1 x2 R H) : EvF P N.slices_Insert_Range #[x0, x1, x2] H R := .inl (slices_Insert_Range_ev0 x0 x1 x2 R H h)
/- 41: slices.rotateRight[sounder/api.Range] -/
def slices_rotateRight_Range_rs : List ResultVar := []
noncomputable def slices_rotateRight_Range_c1 : Code := subC (bodyC Try.f41) []
def slices_rotateRight_Range_pi (_ : Nat) : Pl := .nil
def slices_rotateRight_Range_g2 (S : Heap → Prop) (x0 x1 : Value) (H : Heap) : Prop :=
  bnd (lenV x0) fun v6 =>
  bnd (binV .int .sub v6 x1) fun v8 =>
  EvF P N.slices_rotateLeft_Range #[x0, v8] H fun _ H1 =>
  S H1
theorem slices_rotateRight_Range_g2_e (S : Heap → Prop) (x : Nat → Value) (H : Heap) : wpE tab P slices_rotateRight_Range_pi slices_rotateRight_Range_c1 (nQ fun _ H => S  H) ((List.range 10).map x) H = slices_rotateRight_Range_g2 S (x 0) (x 1) H := by kernel_rfl
def slices_rotateRight_Range (x0 x1 : Value) (R : Value → Heap → Prop) (H : Heap) : Prop :=
  slices_rotateRight_Range_g2 (fun H => R (.tuple #[]) H) x0 x1 H
theorem slices_rotateRight_Range_i (R : Value → Heap → Prop) (x0 x1 : Value) (H : Heap) (h : slices_rotateRight_Range x0 x1 R H) : wpE tab P slices_rotateRight_Range_pi slices_rotateRight_Range_c1 (retQ tab slices_rotateRight_Range_rs R) [x0, x1, undef, undef, undef, undef, undef, undef, undef, undef] H := by
  obtain ⟨l, hl, el⟩ : ∃ l : List Value, l.length = 10 ∧ l = [x0, x1, undef, undef, undef, undef, undef, undef, undef, undef] := ⟨_, rfl, rfl⟩
  rw [← el]
  have h : (fun (x0 x1 : Value) => slices_rotateRight_Range_g2 (fun H => R (.tuple #[]) H) x0 x1 H) (l.getD 0 undef) (l.getD 1 undef) := by rw [el]; exact h
  clear el
  refine regI hl (Eq.mpr (slices_rotateRight_Range_g2_e _ (fun i => l.getD i undef) _) h) ?_
  clear h hl
  intro l H hl h
  exact h
theorem slices_rotateRight_Range_ok : okB slices_rotateRight_Range_pi slices_rotateRight_Range_c1 = true := by kernel_rfl
theorem slices_rotateRight_Range_ev0 (x0 x1 : Value) (R : Value → Heap → Prop) (H : Heap) (h : slices_rotateRight_Range x0 x1 R H) : EvL P N.slices_rotateRight_Range #[x0, x1] H R :=
  EvF_intro (args := [x0, x1]) (k := 8) (rs := slices_rotateRight_Range_rs) tab_ok mixed Try.func41 (show Try.f41.body = some slices_rotateRight_Range_c1 by kernel_rfl) Try.call41 Try.ntmps41 (by kernel_rfl) (okCode_of _ slices_rotateRight_Range_ok) rfl (slices_rotateRight_Range_i R x0 x1 H h)
theorem slices_rotateRight_Range_ev (x0 x1 : Value) (R : Value → Heap → Prop) (H : Heap) (h : slices_rotateRight_Range x0 x1 R H) : EvF P N.slices_rotateRight_Range #[x0, x1] H R := .inl (slices_rotateRight_Range_ev0 x0 x1 R H h)
/- 43: (*sounder/span.Set).falling$1 -/
def span_Set_falling_1_rs : List ResultVar := []
noncomputable def span_Set_falling_1_c2 : Code := subC (bodyC Try.f43) [0]
noncomputable def span_Set_falling_1_c7 : Code := subC (bodyC Try.f43) [1, 0, 0, 0, 0]
noncomputable def span_Set_falling_1_c9 : Code := .exit 0
noncomputable def span_Set_falling_1_c8 : Code := .cond (.tmp 22) Code.skip span_Set_falling_1_c9
noncomputable def span_Set_falling_1_c6 : Code := .seq span_Set_falling_1_c7 span_Set_falling_1_c8
noncomputable def span_Set_falling_1_c11 : Code := .block 1 Code.skip
noncomputable def span_Set_falling_1_c12 : Code := subC (bodyC Try.f43) [1, 0, 0, 1, 1]
noncomputable def span_Set_falling_1_c10 : Code := .seq span_Set_falling_1_c11 span_Set_falling_1_c12
noncomputable def span_Set_falling_1_c5 : Code := .seq span_Set_falling_1_c6 span_Set_falling_1_c10
noncomputable def span_Set_falling_1_c4 : Code := .loop span_Set_falling_1_c5
noncomputable def span_Set_falling_1_c3 : Code := .block 0 span_Set_falling_1_c4
noncomputable def span_Set_falling_1_c1 : Code := .seq span_Set_falling_1_c2 span_Set_falling_1_c3
def span_Set_falling_1_pi (_ : Nat) : Pl := .nil
def span_Set_falling_1_g13 (S : Value → Value → Value → Heap → Prop) (x0 x1 : Value) (H : Heap) : Prop :=
  bnd (ldE false 1 x1 H) fun v4 =>
  bnd (nilV v4) fun v5 =>
  bnd (faV 1 v5) fun v6 =>
  bnd (ldE false 1 v6 H) fun v7 =>
  bnd (lenV v7) fun v8 =>
  bnd (binV .int .sub v8 (.int .i64 1)) fun v9 =>
  S x0 x1 v9 H
theorem span_Set_falling_1_g13_e (S : Value → Value → Value → Heap → Prop) (x : Nat → Value) (H : Heap) : wpE tab P span_Set_falling_1_pi span_Set_falling_1_c2 (nQ fun l H => S (l.getD 0 undef) (l.getD 1 undef) (l.getD 3 undef) H) ((List.range 25).map x) H = span_Set_falling_1_g13 S (x 0) (x 1) H := by kernel_rfl
def span_Set_falling_1_g15 (S : Value → Value → Value → Value → Heap → Prop) (x0 x1 x3 : Value) (H : Heap) : Prop :=
  bnd (binV .int .geq x3 (.int .i64 0)) fun v11 =>
  brV v11
  (bnd (ldE false 1 x1 H) fun v14 =>
  bnd (nilV v14) fun v15 =>
  bnd (faV 1 v15) fun v16 =>
  bnd (ldE false 1 v16 H) fun v17 =>
  bnd (ixSV 2 v17 x3) fun v19 =>
  bnd (ldE true 2 v19 H) fun v20 =>
  callV P x0 [v20] H fun v21 H1 =>
  S x0 x1 x3 v21 H1)
  (S x0 x1 x3 (.bool false) H)
theorem span_Set_falling_1_g15_e (S : Value → Value → Value → Value → Heap → Prop) (x : Nat → Value) (H : Heap) : wpE tab P span_Set_falling_1_pi span_Set_falling_1_c7 (nQ fun l H => S (l.getD 0 undef) (l.getD 1 undef) (l.getD 3 undef) (l.getD 22 undef) H) ((List.range 25).map x) H = span_Set_falling_1_g15 S (x 0) (x 1) (x 3) H := by kernel_rfl
def span_Set_falling_1_g16 (S : Value → Value → Value → Heap → Prop) (x0 x1 x3 : Value) (H : Heap) : Prop :=
  bnd (binV .int .sub x3 (.int .i64 1)) fun v24 =>
  S x0 x1 v24 H
theorem span_Set_falling_1_g16_e (S : Value → Value → Value → Heap → Prop) (x : Nat → Value) (H : Heap) : wpE tab P span_Set_falling_1_pi span_Set_falling_1_c12 (nQ fun l H => S (l.getD 0 undef) (l.getD 1 undef) (l.getD 3 undef) H) ((List.range 25).map x) H = span_Set_falling_1_g16 S (x 0) (x 1) (x 3) H := by kernel_rfl
def span_Set_falling_1_s14 (x0 x1 x3 : Value) (K1 : Value → Value → Value →  Heap → Prop) (R : Value → Heap → Prop) (H : Heap) : Prop :=
  span_Set_falling_1_g15 (fun x0 x1 x3 x22 H => brV x22
  (span_Set_falling_1_g16 (fun x0 x1 x3 H => K1 x0 x1 x3 H) x0 x1 x3 H)
  (R (.tuple #[]) H)) x0 x1 x3 H
noncomputable def span_Set_falling_1_q17 (R : Value → Heap → Prop) : Exit → List Value → Heap → Prop := (retQ tab span_Set_falling_1_rs R)
noncomputable def span_Set_falling_1_q18 (R : Value → Heap → Prop) : Exit → List Value → Heap → Prop := (blkE 0 (span_Set_falling_1_q17 R))
noncomputable def span_Set_falling_1_q19 (K1 : Value → Value → Value →  Heap → Prop) (R : Value → Heap → Prop) : Exit → List Value → Heap → Prop := (thenE (fun l H => K1 (l.getD 0 undef) (l.getD 1 undef) (l.getD 3 undef) H) (span_Set_falling_1_q18 R))
theorem span_Set_falling_1_s14_i (K1 : Value → Value → Value →  Heap → Prop) (R : Value → Heap → Prop) (l : List Value) (H : Heap) (hl : l.length = 25) (h : span_Set_falling_1_s14 (l.getD 0 undef) (l.getD 1 undef) (l.getD 3 undef) K1 R H) : wpE tab P span_Set_falling_1_pi span_Set_falling_1_c5 (span_Set_falling_1_q19 K1 R) l H := by
  refine seqI (c := span_Set_falling_1_c5) rfl ?_
  refine seqI (c := span_Set_falling_1_c6) rfl ?_
  refine regI hl (Eq.mpr (span_Set_falling_1_g15_e _ (fun i => l.getD i undef) _) h) ?_
  clear h hl
  intro l H hl h
  refine thenN ?_
  refine condI (c := span_Set_falling_1_c8) rfl h ?_ ?_
  · clear h; intro h
    refine skipI rfl ?_
    refine thenN ?_
    refine seqI (c := span_Set_falling_1_c10) rfl ?_
    refine blockI (c := span_Set_falling_1_c11) rfl ?_
    refine skipI rfl ?_
    refine blkN ?_
    refine thenN ?_
    refine regI hl (Eq.mpr (span_Set_falling_1_g16_e _ (fun i => l.getD i undef) _) h) ?_
    clear h hl
    intro l H hl h
    refine thenN ?_
    exact h
  · clear h; intro h
    refine exitI (c := span_Set_falling_1_c9) rfl ?_
    refine thenX ?_
    refine thenX ?_
    refine blkX ?_
    exact h
def span_Set_falling_1_l20 (x0 x1 x3 : Value) (R : Value → Heap → Prop) (H : Heap) : Prop :=
  ∃ (I : Value → Heap → Prop) (μ : Value → Heap → Nat), I x3 H ∧ ∀ (y3 : Value) (H : Heap), I y3 H → span_Set_falling_1_s14 x0 x1 y3 (fun z0 z1 z3 H' => z0 = x0 ∧ z1 = x1 ∧ (I z3 H' ∧ μ z3 H' < μ y3 H)) R H
def span_Set_falling_1 (x0 x1 : Value) (R : Value → Heap → Prop) (H : Heap) : Prop :=
  span_Set_falling_1_g13 (fun x0 x1 x3 H => span_Set_falling_1_l20 x0 x1 x3 R H) x0 x1 H
theorem span_Set_falling_1_i (R : Value → Heap → Prop) (x0 x1 : Value) (H : Heap) (h : span_Set_falling_1 x0 x1 R H) : wpE tab P span_Set_falling_1_pi span_Set_falling_1_c1 (retQ tab span_Set_falling_1_rs R) [x0, x1, undef, undef, undef, undef, undef, undef, undef, undef, undef, undef, undef, undef, undef, undef, undef, undef, undef, undef, undef, undef, undef, undef, undef] H := by
  obtain ⟨l, hl, el⟩ : ∃ l : List Value, l.length = 25 ∧ l = [x0, x1, undef, undef, undef, undef, undef, undef, undef, undef, undef, undef, undef, undef, undef, undef, undef, undef, undef, undef, undef, undef, undef, undef, undef] := ⟨_, rfl, rfl⟩
  rw [← el]
  have h : (fun (x0 x1 : Value) => span_Set_falling_1_g13 (fun x0 x1 x3 H => span_Set_falling_1_l20 x0 x1 x3 R H) x0 x1 H) (l.getD 0 undef) (l.getD 1 undef) := by rw [el]; exact h
  clear el
  refine seqI (c := span_Set_falling_1_c1) rfl ?_
  refine regI hl (Eq.mpr (span_Set_falling_1_g13_e _ (fun i => l.getD i undef) _) h) ?_
  clear h hl
  intro l H hl h
  refine thenN ?_
  refine blockI (c := span_Set_falling_1_c3) rfl ?_
  obtain ⟨I, μ, h0, hr⟩ := h
  refine loopI (c := span_Set_falling_1_c4) rfl (fun l' H' => l'.getD 0 undef = l.getD 0 undef ∧ l'.getD 1 undef = l.getD 1 undef ∧ I (l'.getD 3 undef) H') (fun l' H' => μ (l'.getD 3 undef) H') hl ⟨rfl, rfl, h0⟩ ?_
  rintro l1 H1 hl1 ⟨e0, e1, hI⟩
  have hb := hr (l1.getD 3 undef) H1 hI
  rw [← e0, ← e1] at hb
  refine wpE_mono _ l1 H1 hl1 ?_ (span_Set_falling_1_s14_i _ R l1 H1 hl1 hb)
  intro e l2 H2 hl2 hq
  cases e with
  | normal => exact fun _ => (by obtain ⟨d0, d1, g1, g2⟩ := hq; exact ⟨⟨d0.trans e0, d1.trans e1, g1⟩, g2⟩)
  | _ => exact hq
theorem span_Set_falling_1_ok : okB span_Set_falling_1_pi span_Set_falling_1_c1 = true := by kernel_rfl
theorem span_Set_falling_1_ev0 (x0 x1 : Value) (R : Value → Heap → Prop) (H : Heap) (h : span_Set_falling_1 x0 x1 R H) : EvL P N.span_Set_falling_1 #[x0, x1] H R :=
  EvF_intro (args := [x0, x1]) (k := 23) (rs := span_Set_falling_1_rs) tab_ok mixed Try.func43 (show Try.f43.body = some span_Set_falling_1_c1 by kernel_rfl) Try.call43 Try.ntmps43 (by kernel_rfl) (okCode_of _ span_Set_falling_1_ok) rfl (span_Set_falling_1_i R x0 x1 H h)
theorem span_Set_falling_1_ev (x0 x1 : Value) (R : Value → Heap → Prop) (H : Heap) (h : span_Set_falling_1 x0 x1 R H) : EvF P N.span_Set_falling_1 #[x0, x1] H R := .inl (span_Set_falling_1_ev0 x0 x1 R H h)
/- 44: slices.AppendSeq[[]sounder/api.Range,sounder/api.Range] -/
def slices_AppendSeq_Range_rs : List ResultVar := [.tmp 4]
noncomputable def slices_AppendSeq_Range_c2 : Code := subC (bodyC Try.f44) [0]
noncomputable def slices_AppendSeq_Range_c5 : Code := subC (bodyC Try.f44) [1, 0, 0]
noncomputable def slices_AppendSeq_Range_c8 : Code := subC (bodyC Try.f44) [1, 0, 1, 0, 0]
noncomputable def slices_AppendSeq_Range_c10 : Code := subC (bodyC Try.f44) [1, 0, 1, 0, 1, 0]
noncomputable def slices_AppendSeq_Range_c9 : Code := .block 1 slices_AppendSeq_Range_c10
noncomputable def slices_AppendSeq_Range_c7 : Code := .rangeFunc (.tmp 6) #[7] slices_AppendSeq_Range_c8 slices_AppendSeq_Range_c9
noncomputable def slices_AppendSeq_Range_c6 : Code := .block 0 slices_AppendSeq_Range_c7
noncomputable def slices_AppendSeq_Range_c4 : Code := .seq slices_AppendSeq_Range_c5 slices_AppendSeq_Range_c6
noncomputable def slices_AppendSeq_Range_c12 : Code := subC (bodyC Try.f44) [1, 1, 0]
noncomputable def slices_AppendSeq_Range_c11 : Code := .seq slices_AppendSeq_Range_c12 Code.ret
noncomputable def slices_AppendSeq_Range_c3 : Code := .seq slices_AppendSeq_Range_c4 slices_AppendSeq_Range_c11
noncomputable def slices_AppendSeq_Range_c1 : Code := .seq slices_AppendSeq_Range_c2 slices_AppendSeq_Range_c3
def slices_AppendSeq_Range_pi (_ : Nat) : Pl := .nil
def slices_AppendSeq_Range_g13 (S : Value → Value → Heap → Prop) (x0 x1 : Value) (H : Heap) : Prop :=
  newE 45 (Value.cells x0) H fun v2 H1 =>
  S x1 v2 H1
theorem slices_AppendSeq_Range_g13_e (S : Value → Value → Heap → Prop) (x : Nat → Value) (H : Heap) : wpE tab P slices_AppendSeq_Range_pi slices_AppendSeq_Range_c2 (nQ fun l H => S (l.getD 1 undef) (l.getD 2 undef) H) ((List.range 13).map x) H = slices_AppendSeq_Range_g13 S (x 0) (x 1) H := by kernel_rfl
def slices_AppendSeq_Range_g14 (S : Value → Value → Heap → Prop) (x1 x2 : Value) (H : Heap) : Prop :=
  S x2 x1 H
theorem slices_AppendSeq_Range_g14_e (S : Value → Value → Heap → Prop) (x : Nat → Value) (H : Heap) : wpE tab P slices_AppendSeq_Range_pi slices_AppendSeq_Range_c5 (nQ fun l H => S (l.getD 2 undef) (l.getD 6 undef) H) ((List.range 13).map x) H = slices_AppendSeq_Range_g14 S (x 1) (x 2) H := by kernel_rfl
noncomputable def slices_AppendSeq_Range_L (fn : FuncId) (l : List Value) (d : Nat) : Loop := mkL fn l #[7] slices_AppendSeq_Range_c8 slices_AppendSeq_Range_c9 d
def slices_AppendSeq_Range_g16 (S : Heap → Prop) (x2 x5 : Value) (H : Heap) : Prop :=
  bnd (ldE false 1 x2 H) fun v8 =>
  bnd (ldE true 2 x5 H) fun v9 =>
  bslE 48 #[(.int .i64 0), (.int .i64 0)] 2 1 [(0, v9)] H fun v10 H1 =>
  appE 48 #[(.int .i64 0), (.int .i64 0)] 2 16 v8 v10 H1 fun v11 H2 =>
  bnd (stE 1 x2 v11 H2) fun H3 =>
  S H3
theorem slices_AppendSeq_Range_g16_e (S : Heap → Prop) (x : Nat → Value) (H : Heap) : wpE tab P slices_AppendSeq_Range_pi slices_AppendSeq_Range_c10 (nQ fun _ H => S  H) ((List.range 13).map x) H = slices_AppendSeq_Range_g16 S (x 2) (x 5) H := by kernel_rfl
def slices_AppendSeq_Range_s15 (x2 x5 : Value) (lp : Nat) (r : Loop) (R : Value → Heap → Prop) (H : Heap) : Prop :=
  slices_AppendSeq_Range_g16 (fun H => (H.arr[lp]? = some (.loop (busy r)) ∧ R (.bool true) (setO H lp (.loop r)))) x2 x5 H
noncomputable def slices_AppendSeq_Range_q17 (lp : Nat) (r : Loop) (R : Value → Heap → Prop) : Exit → List Value → Heap → Prop := (nQ fun _ H2 => H2.arr[lp]? = some (.loop (busy r)) ∧ R (.bool true) (setO H2 lp (.loop r)))
theorem slices_AppendSeq_Range_s15_i (lp : Nat) (r : Loop) (R : Value → Heap → Prop) (l : List Value) (H : Heap) (hl : l.length = 13) (h : slices_AppendSeq_Range_s15 (l.getD 2 undef) (l.getD 5 undef) lp r R H) : wpE tab P slices_AppendSeq_Range_pi slices_AppendSeq_Range_c9 (slices_AppendSeq_Range_q17 lp r R) l H := by
  refine blockI (c := slices_AppendSeq_Range_c9) rfl ?_
  refine regI hl (Eq.mpr (slices_AppendSeq_Range_g16_e _ (fun i => l.getD i undef) _) h) ?_
  clear h hl
  intro l H hl h
  refine blkN ?_
  exact h
def slices_AppendSeq_Range_g18 (S : Value → Value → Heap → Prop) (x2 x7 : Value) (H : Heap) : Prop :=
  newE 48 #[(.int .i64 0), (.int .i64 0)] H fun v5 H1 =>
  bnd (stE 2 v5 x7 H1) fun H2 =>
  S x2 v5 H2
theorem slices_AppendSeq_Range_g18_e (S : Value → Value → Heap → Prop) (x : Nat → Value) (H : Heap) : wpE tab P slices_AppendSeq_Range_pi slices_AppendSeq_Range_c8 (nQ fun l H => S (l.getD 2 undef) (l.getD 5 undef) H) ((List.range 13).map x) H = slices_AppendSeq_Range_g18 S (x 2) (x 7) H := by kernel_rfl
def slices_AppendSeq_Range_r (lp : Nat) (r : Loop) (R : Value → Heap → Prop) (x2 x7 : Value) (H : Heap) : Prop :=
  slices_AppendSeq_Range_g18 (fun x2 x5 H => (H.arr[lp]? = some (.loop r) ∧
  slices_AppendSeq_Range_s15 x2 x5 lp r R (setO H lp (.loop (busy r))))) x2 x7 H
theorem slices_AppendSeq_Range_ri (lp : Nat) (r : Loop) (R : Value → Heap → Prop) (l : List Value) (H : Heap) (hl : l.length = 13) (h : slices_AppendSeq_Range_r lp r R (l.getD 2 undef) (l.getD 7 undef) H) : wpE tab P slices_AppendSeq_Range_pi slices_AppendSeq_Range_c8 (nQ fun l H => H.arr[lp]? = some (.loop r) ∧ wpE tab P slices_AppendSeq_Range_pi slices_AppendSeq_Range_c9 (nQ fun _ H2 => H2.arr[lp]? = some (.loop (busy r)) ∧ R (.bool true) (setO H2 lp (.loop r))) l (setO H lp (.loop (busy r)))) l H := by
  refine regI hl (Eq.mpr (slices_AppendSeq_Range_g18_e _ (fun i => l.getD i undef) _) h) ?_
  clear h hl
  intro l H hl h
  exact ⟨h.1, slices_AppendSeq_Range_s15_i lp r R l _ hl h.2⟩
theorem slices_AppendSeq_Range_y (fn : FuncId) (d : Nat) (l : List Value) (hl : l.length = 13) (lp : Nat) (v7 : Value) (K : Heap) (R : Value → Heap → Prop) (hK : K.arr[lp]? = some (.loop (slices_AppendSeq_Range_L fn l d))) (h : slices_AppendSeq_Range_r lp (slices_AppendSeq_Range_L fn l d) R (l.getD 2 undef) v7 K) : EvY P lp #[v7] K R := by
  refine EvY_intro (t := (l.set 7 v7)) tab_ok mixed hK rfl rfl rfl (by simp [slices_AppendSeq_Range_L, mkL]) ⟨okCode_of _ (show okB slices_AppendSeq_Range_pi slices_AppendSeq_Range_c8 = true by kernel_rfl), okCode_of _ (show okB slices_AppendSeq_Range_pi slices_AppendSeq_Range_c9 = true by kernel_rfl)⟩ ?_
  have e2 : (l.set 7 v7).getD 2 undef = l.getD 2 undef := by simp [hl]
  have e7 : (l.set 7 v7).getD 7 undef = v7 := by simp [hl]
  exact slices_AppendSeq_Range_ri lp (slices_AppendSeq_Range_L fn l d) R (l.set 7 v7) K (by simp [hl]) (by rw [e2, e7]; exact h)
def slices_AppendSeq_Range_g19 (S : Value → Heap → Prop) (x2 : Value) (H : Heap) : Prop :=
  bnd (ldE false 1 x2 H) fun v12 =>
  S v12 H
theorem slices_AppendSeq_Range_g19_e (S : Value → Heap → Prop) (x : Nat → Value) (H : Heap) : wpE tab P slices_AppendSeq_Range_pi slices_AppendSeq_Range_c12 (nQ fun l H => S (l.getD 4 undef) H) ((List.range 13).map x) H = slices_AppendSeq_Range_g19 S (x 2) H := by kernel_rfl
def slices_AppendSeq_Range (x0 x1 : Value) (R : Value → Heap → Prop) (H : Heap) : Prop :=
  slices_AppendSeq_Range_g13 (fun x1 x2 H => slices_AppendSeq_Range_g14 (fun x2 x6 H => (∀ (fn : FuncId) (l : List Value), l.length = 13 → l.getD 2 undef = x2 → callL P x6 [.func (.yield (H.size + 1)) #[] #[]] (pushO (pushO H (.deferred (some []))) (.loop (slices_AppendSeq_Range_L fn l H.size))) fun _ H2 =>
  H2.arr[H.size + 1]? = some (.loop (slices_AppendSeq_Range_L fn l H.size)) ∧
  (fun (m : Nat) (H : Heap) =>
  slices_AppendSeq_Range_g19 (fun x4 H => (H.arr[m]? = some (.deferred (some [])) ∧ (fun H : Heap =>
  R x4 H) (setO H m (.deferred none)))) x2 H) H.size (setO H2 (H.size + 1) (.loop (done (slices_AppendSeq_Range_L fn l H.size)))))) x1 x2 H) x0 x1 H
theorem slices_AppendSeq_Range_i (R : Value → Heap → Prop) (x0 x1 : Value) (H : Heap) (h : slices_AppendSeq_Range x0 x1 R H) : wpR tab P slices_AppendSeq_Range_pi slices_AppendSeq_Range_c1 (retQ tab slices_AppendSeq_Range_rs R) (retQM tab slices_AppendSeq_Range_rs R) [x0, x1, undef, undef, undef, undef, undef, undef, undef, undef, undef, undef, undef] H := by
  obtain ⟨l, hl, el⟩ : ∃ l : List Value, l.length = 13 ∧ l = [x0, x1, undef, undef, undef, undef, undef, undef, undef, undef, undef, undef, undef] := ⟨_, rfl, rfl⟩
  rw [← el]
  have h : (fun (x0 x1 : Value) => slices_AppendSeq_Range_g13 (fun x1 x2 H => slices_AppendSeq_Range_g14 (fun x2 x6 H => (∀ (fn : FuncId) (l : List Value), l.length = 13 → l.getD 2 undef = x2 → callL P x6 [.func (.yield (H.size + 1)) #[] #[]] (pushO (pushO H (.deferred (some []))) (.loop (slices_AppendSeq_Range_L fn l H.size))) fun _ H2 =>
H2.arr[H.size + 1]? = some (.loop (slices_AppendSeq_Range_L fn l H.size)) ∧
(fun (m : Nat) (H : Heap) =>
slices_AppendSeq_Range_g19 (fun x4 H => (H.arr[m]? = some (.deferred (some [])) ∧ (fun H : Heap =>
R x4 H) (setO H m (.deferred none)))) x2 H) H.size (setO H2 (H.size + 1) (.loop (done (slices_AppendSeq_Range_L fn l H.size)))))) x1 x2 H) x0 x1 H) (l.getD 0 undef) (l.getD 1 undef) := by rw [el]; exact h
  clear el
  refine seqR (c := slices_AppendSeq_Range_c1) rfl ?_
  refine wpR_of _ hl ?_
  refine regI hl (Eq.mpr (slices_AppendSeq_Range_g13_e _ (fun i => l.getD i undef) _) h) ?_
  clear h hl
  intro l H hl h
  refine thenN ?_
  refine seqR (c := slices_AppendSeq_Range_c3) rfl ?_
  refine seqR (c := slices_AppendSeq_Range_c4) rfl ?_
  refine wpR_of _ hl ?_
  refine regI hl (Eq.mpr (slices_AppendSeq_Range_g14_e _ (fun i => l.getD i undef) _) h) ?_
  clear h hl
  intro l H hl h
  refine thenN ?_
  refine blockR (c := slices_AppendSeq_Range_c6) rfl ?_
  refine rangeR (c := slices_AppendSeq_Range_c7) rfl ?_
  intro fn
  have h := h fn l hl rfl
  refine callL_mono (fun _ H2 h => ?_) h
  refine ⟨h.1, ?_⟩
  have h := h.2
  refine blkN ?_
  refine thenN ?_
  refine seqI (c := slices_AppendSeq_Range_c11) rfl ?_
  refine regI hl (Eq.mpr (slices_AppendSeq_Range_g19_e _ (fun i => l.getD i undef) _) h) ?_
  clear h hl
  intro l H hl h
  refine thenN ?_
  refine retI rfl ?_
  exact h
theorem slices_AppendSeq_Range_ok : okBR slices_AppendSeq_Range_pi slices_AppendSeq_Range_c1 = true := by kernel_rfl
theorem slices_AppendSeq_Range_ev0 (x0 x1 : Value) (R : Value → Heap → Prop) (H : Heap) (h : slices_AppendSeq_Range x0 x1 R H) : EvL P N.slices_AppendSeq_Range #[x0, x1] H R :=
  EvR_intro (args := [x0, x1]) (k := 11) (rs := slices_AppendSeq_Range_rs) tab_ok mixed Try.func44 (show Try.f44.body = some slices_AppendSeq_Range_c1 by kernel_rfl) Try.call44 Try.ntmps44 (by kernel_rfl) (okCodeR_of _ slices_AppendSeq_Range_ok) rfl (slices_AppendSeq_Range_i R x0 x1 H h)
theorem slices_AppendSeq_Range_ev (x0 x1 : Value) (R : Value → Heap → Prop) (H : Heap) (h : slices_AppendSeq_Range x0 x1 R H) : EvF P N.slices_AppendSeq_Range #[x0, x1] H R := .inl (slices_AppendSeq_Range_ev0 x0 x1 R H h)
/- 45: slices.rotateLeft[sounder/api.Range] -/
def slices_rotateLeft_Range_rs : List ResultVar := []
noncomputable def slices_rotateLeft_Range_c2 : Code := subC (bodyC Try.f45) [0]
noncomputable def slices_rotateLeft_Range_c4 : Code := subC (bodyC Try.f45) [1, 0]
noncomputable def slices_rotateLeft_Range_c5 : Code := subC (bodyC Try.f45) [1, 1]
noncomputable def slices_rotateLeft_Range_c3 : Code := .seq slices_rotateLeft_Range_c4 slices_rotateLeft_Range_c5
noncomputable def slices_rotateLeft_Range_c1 : Code := .seq slices_rotateLeft_Range_c2 slices_rotateLeft_Range_c3
def slices_rotateLeft_Range_pi (_ : Nat) : Pl := .nil
def slices_rotateLeft_Range_g6 (S : Value → Value → Heap → Prop) (x0 x1 : Value) (H : Heap) : Prop :=
  bnd (sliceV 2 x0 none (some x1)) fun v6 =>
  EvF P N.slices_Reverse_Range #[v6] H fun _ H1 =>
  S x0 x1 H1
theorem slices_rotateLeft_Range_g6_e (S : Value → Value → Heap → Prop) (x : Nat → Value) (H : Heap) : wpE tab P slices_rotateLeft_Range_pi slices_rotateLeft_Range_c2 (nQ fun l H => S (l.getD 0 undef) (l.getD 1 undef) H) ((List.range 14).map x) H = slices_rotateLeft_Range_g6 S (x 0) (x 1) H := by kernel_rfl
def slices_rotateLeft_Range_g7 (S : Value → Heap → Prop) (x0 x1 : Value) (H : Heap) : Prop :=
  bnd (sliceV 2 x0 (some x1) none) fun v10 =>
  EvF P N.slices_Reverse_Range #[v10] H fun _ H1 =>
  S x0 H1
theorem slices_rotateLeft_Range_g7_e (S : Value → Heap → Prop) (x : Nat → Value) (H : Heap) : wpE tab P slices_rotateLeft_Range_pi slices_rotateLeft_Range_c4 (nQ fun l H => S (l.getD 0 undef) H) ((List.range 14).map x) H = slices_rotateLeft_Range_g7 S (x 0) (x 1) H := by kernel_rfl
def slices_rotateLeft_Range_g8 (S : Heap → Prop) (x0 : Value) (H : Heap) : Prop :=
  EvF P N.slices_Reverse_Range #[x0] H fun _ H1 =>
  S H1
theorem slices_rotateLeft_Range_g8_e (S : Heap → Prop) (x : Nat → Value) (H : Heap) : wpE tab P slices_rotateLeft_Range_pi slices_rotateLeft_Range_c5 (nQ fun _ H => S  H) ((List.range 14).map x) H = slices_rotateLeft_Range_g8 S (x 0) H := by kernel_rfl
def slices_rotateLeft_Range (x0 x1 : Value) (R : Value → Heap → Prop) (H : Heap) : Prop :=
  slices_rotateLeft_Range_g6 (fun x0 x1 H => slices_rotateLeft_Range_g7 (fun x0 H => slices_rotateLeft_Range_g8 (fun H => R (.tuple #[]) H) x0 H) x0 x1 H) x0 x1 H
theorem slices_rotateLeft_Range_i (R : Value → Heap → Prop) (x0 x1 : Value) (H : Heap) (h : slices_rotateLeft_Range x0 x1 R H) : wpE tab P slices_rotateLeft_Range_pi slices_rotateLeft_Range_c1 (retQ tab slices_rotateLeft_Range_rs R) [x0, x1, undef, undef, undef, undef, undef, undef, undef, undef, undef, undef, undef, undef] H := by
  obtain ⟨l, hl, el⟩ : ∃ l : List Value, l.length = 14 ∧ l = [x0, x1, undef, undef, undef, undef, undef, undef, undef, undef, undef, undef, undef, undef] := ⟨_, rfl, rfl⟩
  rw [← el]
  have h : (fun (x0 x1 : Value) => slices_rotateLeft_Range_g6 (fun x0 x1 H => slices_rotateLeft_Range_g7 (fun x0 H => slices_rotateLeft_Range_g8 (fun H => R (.tuple #[]) H) x0 H) x0 x1 H) x0 x1 H) (l.getD 0 undef) (l.getD 1 undef) := by rw [el]; exact h
  clear el
  refine seqI (c := slices_rotateLeft_Range_c1) rfl ?_
  refine regI hl (Eq.mpr (slices_rotateLeft_Range_g6_e _ (fun i => l.getD i undef) _) h) ?_
  clear h hl
  intro l H hl h
  refine thenN ?_
  refine seqI (c := slices_rotateLeft_Range_c3) rfl ?_
  refine regI hl (Eq.mpr (slices_rotateLeft_Range_g7_e _ (fun i => l.getD i undef) _) h) ?_
  clear h hl
  intro l H hl h
  refine thenN ?_
  refine regI hl (Eq.mpr (slices_rotateLeft_Range_g8_e _ (fun i => l.getD i undef) _) h) ?_
  clear h hl
  intro l H hl h
  exact h
theorem slices_rotateLeft_Range_ok : okB slices_rotateLeft_Range_pi slices_rotateLeft_Range_c1 = true := by kernel_rfl
theorem slices_rotateLeft_Range_ev0 (x0 x1 : Value) (R : Value → Heap → Prop) (H : Heap) (h : slices_rotateLeft_Range x0 x1 R H) : EvL P N.slices_rotateLeft_Range #[x0, x1] H R :=
  EvF_intro (args := [x0, x1]) (k := 12) (rs := slices_rotateLeft_Range_rs) tab_ok mixed Try.func45 (show Try.f45.body = some slices_rotateLeft_Range_c1 by kernel_rfl) Try.call45 Try.ntmps45 (by kernel_rfl) (okCode_of _ slices_rotateLeft_Range_ok) rfl (slices_rotateLeft_Range_i R x0 x1 H h)
theorem slices_rotateLeft_Range_ev (x0 x1 : Value) (R : Value → Heap → Prop) (H : Heap) (h : slices_rotateLeft_Range x0 x1 R H) : EvF P N.slices_rotateLeft_Range #[x0, x1] H R := .inl (slices_rotateLeft_Range_ev0 x0 x1 R H h)
/- 46: slices.Reverse[[]sounder/api.Range,sounder/api.Range] -/
def slices_Reverse_Range_rs : List ResultVar := []
noncomputable def slices_Reverse_Range_c2 : Code := subC (bodyC Try.f46) [0]
noncomputable def slices_Reverse_Range_c7 : Code := subC (bodyC Try.f46) [1, 0, 0, 0, 0]
noncomputable def slices_Reverse_Range_c9 : Code := .exit 0
noncomputable def slices_Reverse_Range_c8 : Code := .cond (.tmp 9) Code.skip slices_Reverse_Range_c9
noncomputable def slices_Reverse_Range_c6 : Code := .seq slices_Reverse_Range_c7 slices_Reverse_Range_c8
noncomputable def slices_Reverse_Range_c12 : Code := subC (bodyC Try.f46) [1, 0, 0, 1, 0, 0]
noncomputable def slices_Reverse_Range_c11 : Code := .block 1 slices_Reverse_Range_c12
noncomputable def slices_Reverse_Range_c13 : Code := subC (bodyC Try.f46) [1, 0, 0, 1, 1]
noncomputable def slices_Reverse_Range_c10 : Code := .seq slices_Reverse_Range_c11 slices_Reverse_Range_c13
noncomputable def slices_Reverse_Range_c5 : Code := .seq slices_Reverse_Range_c6 slices_Reverse_Range_c10
noncomputable def slices_Reverse_Range_c4 : Code := .loop slices_Reverse_Range_c5
noncomputable def slices_Reverse_Range_c3 : Code := .block 0 slices_Reverse_Range_c4
noncomputable def slices_Reverse_Range_c1 : Code := .seq slices_Reverse_Range_c2 slices_Reverse_Range_c3
def slices_Reverse_Range_pi (i : Nat) : Pl := match i with
  | 3 => (ones [0, 1, 2, 3, 4, 5, 6, 7, 8, 9, 10, 11, 12, 13, 14, 15] .nil)
  | _ => .nil
def slices_Reverse_Range_g14 (S : Value → Value → Value → Heap → Prop) (x0 : Value) (H : Heap) : Prop :=
  bnd (lenV x0) fun v5 =>
  bnd (binV .int .sub v5 (.int .i64 1)) fun v6 =>
  S x0 (.int .i64 0) v6 H
theorem slices_Reverse_Range_g14_e (S : Value → Value → Value → Heap → Prop) (x : Nat → Value) (H : Heap) : wpE tab P slices_Reverse_Range_pi slices_Reverse_Range_c2 (nQ fun l H => S (l.getD 0 undef) (l.getD 2 undef) (l.getD 3 undef) H) ((List.range 28).map x) H = slices_Reverse_Range_g14 S (x 0) H := by kernel_rfl
def slices_Reverse_Range_g16 (S : Value → Value → Value → Value → Heap → Prop) (x0 x2 x3 : Value) (H : Heap) : Prop :=
  bnd (binV .int .lss x2 x3) fun v9 =>
  S x0 x2 x3 v9 H
theorem slices_Reverse_Range_g16_e (S : Value → Value → Value → Value → Heap → Prop) (x : Nat → Value) (H : Heap) : wpE tab P slices_Reverse_Range_pi slices_Reverse_Range_c7 (nQ fun l H => S (l.getD 0 undef) (l.getD 2 undef) (l.getD 3 undef) (l.getD 9 undef) H) ((List.range 28).map x) H = slices_Reverse_Range_g16 S (x 0) (x 2) (x 3) H := by kernel_rfl
def slices_Reverse_Range_g17 (S : Value → Value → Value → Heap → Prop) (x0 x2 x3 : Value) (H : Heap) : Prop :=
  bnd (ixSV 2 x0 x3) fun v20 =>
  bnd (ldE true 2 v20 H) fun v21 =>
  bnd (ixSV 2 x0 x2) fun v24 =>
  bnd (ldE true 2 v24 H) fun v25 =>
  bnd (ixSV 2 x0 x2) fun v26 =>
  bnd (stE 2 v26 v21 H) fun H1 =>
  bnd (ixSV 2 x0 x3) fun v27 =>
  bnd (stE 2 v27 v25 H1) fun H2 =>
  S x0 x2 x3 H2
theorem slices_Reverse_Range_g17_e (S : Value → Value → Value → Heap → Prop) (x : Nat → Value) (H : Heap) : wpE tab P slices_Reverse_Range_pi slices_Reverse_Range_c12 (nQ fun l H => S (l.getD 0 undef) (l.getD 2 undef) (l.getD 3 undef) H) ((List.range 28).map x) H = slices_Reverse_Range_g17 S (x 0) (x 2) (x 3) H := by kernel_rfl
def slices_Reverse_Range_g18 (S : Value → Value → Value → Heap → Prop) (x0 x2 x3 : Value) (H : Heap) : Prop :=
  bnd (binV .int .add x2 (.int .i64 1)) fun v11 =>
  bnd (binV .int .sub x3 (.int .i64 1)) fun v13 =>
  S x0 v11 v13 H
theorem slices_Reverse_Range_g18_e (S : Value → Value → Value → Heap → Prop) (x : Nat → Value) (H : Heap) : wpE tab P slices_Reverse_Range_pi slices_Reverse_Range_c13 (nQ fun l H => S (l.getD 0 undef) (l.getD 2 undef) (l.getD 3 undef) H) ((List.range 28).map x) H = slices_Reverse_Range_g18 S (x 0) (x 2) (x 3) H := by kernel_rfl
def slices_Reverse_Range_s15 (x0 x2 x3 : Value) (K1 : Value → Value → Value →  Heap → Prop) (R : Value → Heap → Prop) (H : Heap) : Prop :=
  slices_Reverse_Range_g16 (fun x0 x2 x3 x9 H => brV x9
  (slices_Reverse_Range_g17 (fun x0 x2 x3 H => slices_Reverse_Range_g18 (fun x0 x2 x3 H => K1 x0 x2 x3 H) x0 x2 x3 H) x0 x2 x3 H)
  (R (.tuple #[]) H)) x0 x2 x3 H
noncomputable def slices_Reverse_Range_q19 (R : Value → Heap → Prop) : Exit → List Value → Heap → Prop := (retQ tab slices_Reverse_Range_rs R)
noncomputable def slices_Reverse_Range_q20 (R : Value → Heap → Prop) : Exit → List Value → Heap → Prop := (blkE 0 (slices_Reverse_Range_q19 R))
noncomputable def slices_Reverse_Range_q21 (K1 : Value → Value → Value →  Heap → Prop) (R : Value → Heap → Prop) : Exit → List Value → Heap → Prop := (thenE (fun l H => K1 (l.getD 0 undef) (l.getD 2 undef) (l.getD 3 undef) H) (slices_Reverse_Range_q20 R))
theorem slices_Reverse_Range_s15_i (K1 : Value → Value → Value →  Heap → Prop) (R : Value → Heap → Prop) (l : List Value) (H : Heap) (hl : l.length = 28) (h : slices_Reverse_Range_s15 (l.getD 0 undef) (l.getD 2 undef) (l.getD 3 undef) K1 R H) : wpE tab P slices_Reverse_Range_pi slices_Reverse_Range_c5 (slices_Reverse_Range_q21 K1 R) l H := by
  refine seqI (c := slices_Reverse_Range_c5) rfl ?_
  refine seqI (c := slices_Reverse_Range_c6) rfl ?_
  refine regI hl (Eq.mpr (slices_Reverse_Range_g16_e _ (fun i => l.getD i undef) _) h) ?_
  clear h hl
  intro l H hl h
  refine thenN ?_
  refine condI (c := slices_Reverse_Range_c8) rfl h ?_ ?_
  · clear h; intro h
    refine skipI rfl ?_
    refine thenN ?_
    refine seqI (c := slices_Reverse_Range_c10) rfl ?_
    refine blockI (c := slices_Reverse_Range_c11) rfl ?_
    refine regI hl (Eq.mpr (slices_Reverse_Range_g17_e _ (fun i => l.getD i undef) _) h) ?_
    clear h hl
    intro l H hl h
    refine blkN ?_
    refine thenN ?_
    refine regI hl (Eq.mpr (slices_Reverse_Range_g18_e _ (fun i => l.getD i undef) _) h) ?_
    clear h hl
    intro l H hl h
    refine thenN ?_
    exact h
  · clear h; intro h
    refine exitI (c := slices_Reverse_Range_c9) rfl ?_
    refine thenX ?_
    refine thenX ?_
    refine blkX ?_
    exact h
def slices_Reverse_Range_l22 (x0 x2 x3 : Value) (R : Value → Heap → Prop) (H : Heap) : Prop :=
  ∃ (I : Value → Value → Heap → Prop) (μ : Value → Value → Heap → Nat), I x2 x3 H ∧ ∀ (y2 : Value) (y3 : Value) (H : Heap), I y2 y3 H → slices_Reverse_Range_s15 x0 y2 y3 (fun z0 z2 z3 H' => z0 = x0 ∧ (I z2 z3 H' ∧ μ z2 z3 H' < μ y2 y3 H)) R H
def slices_Reverse_Range (x0 : Value) (R : Value → Heap → Prop) (H : Heap) : Prop :=
  slices_Reverse_Range_g14 (fun x0 x2 x3 H => slices_Reverse_Range_l22 x0 x2 x3 R H) x0 H
theorem slices_Reverse_Range_i (R : Value → Heap → Prop) (x0 : Value) (H : Heap) (h : slices_Reverse_Range x0 R H) : wpE tab P slices_Reverse_Range_pi slices_Reverse_Range_c1 (retQ tab slices_Reverse_Range_rs R) [x0, undef, undef, undef, undef, undef, undef, undef, undef, undef, undef, undef, undef, undef, undef, undef, undef, undef, undef, undef, undef, undef, undef, undef, undef, undef, undef, undef] H := by
  obtain ⟨l, hl, el⟩ : ∃ l : List Value, l.length = 28 ∧ l = [x0, undef, undef, undef, undef, undef, undef, undef, undef, undef, undef, undef, undef, undef, undef, undef, undef, undef, undef, undef, undef, undef, undef, undef, undef, undef, undef, undef] := ⟨_, rfl, rfl⟩
  rw [← el]
  have h : (fun (x0 : Value) => slices_Reverse_Range_g14 (fun x0 x2 x3 H => slices_Reverse_Range_l22 x0 x2 x3 R H) x0 H) (l.getD 0 undef) := by rw [el]; exact h
  clear el
  refine seqI (c := slices_Reverse_Range_c1) rfl ?_
  refine regI hl (Eq.mpr (slices_Reverse_Range_g14_e _ (fun i => l.getD i undef) _) h) ?_
  clear h hl
  intro l H hl h
  refine thenN ?_
  refine blockI (c := slices_Reverse_Range_c3) rfl ?_
  obtain ⟨I, μ, h0, hr⟩ := h
  refine loopI (c := slices_Reverse_Range_c4) rfl (fun l' H' => l'.getD 0 undef = l.getD 0 undef ∧ I (l'.getD 2 undef) (l'.getD 3 undef) H') (fun l' H' => μ (l'.getD 2 undef) (l'.getD 3 undef) H') hl ⟨rfl, h0⟩ ?_
  rintro l1 H1 hl1 ⟨e0, hI⟩
  have hb := hr (l1.getD 2 undef) (l1.getD 3 undef) H1 hI
  rw [← e0] at hb
  refine wpE_mono _ l1 H1 hl1 ?_ (slices_Reverse_Range_s15_i _ R l1 H1 hl1 hb)
  intro e l2 H2 hl2 hq
  cases e with
  | normal => exact fun _ => (by obtain ⟨d0, g1, g2⟩ := hq; exact ⟨⟨d0.trans e0, g1⟩, g2⟩)
  | _ => exact hq
theorem slices_Reverse_Range_ok : okB slices_Reverse_Range_pi slices_Reverse_Range_c1 = true := by kernel_rfl
theorem slices_Reverse_Range_ev0 (x0 : Value) (R : Value → Heap → Prop) (H : Heap) (h : slices_Reverse_Range x0 R H) : EvL P N.slices_Reverse_Range #[x0] H R :=
  EvF_intro (args := [x0]) (k := 27) (rs := slices_Reverse_Range_rs) tab_ok mixed Try.func46 (show Try.f46.body = some slices_Reverse_Range_c1 by kernel_rfl) Try.call46 Try.ntmps46 (by kernel_rfl) (okCode_of _ slices_Reverse_Range_ok) rfl (slices_Reverse_Range_i R x0 H h)
theorem slices_Reverse_Range_ev (x0 : Value) (R : Value → Heap → Prop) (H : Heap) (h : slices_Reverse_Range x0 R H) : EvF P N.slices_Reverse_Range #[x0] H R := .inl (slices_Reverse_Range_ev0 x0 R H h)
end Go.Hc
