/- Functions, printed by gen.py. -/
import Derived.Test.YtbchcnmghcmaoaaT
set_option linter.unusedSimpArgs false
set_option linter.unusedVariables false
set_option maxRecDepth 100000
namespace Go.Hc
open Go Go.Proofs
/- 67: slices.IndexFunc[[]sounder/api.Range,sounder/api.Range] -/
def slices_IndexFunc_Range_rs : List ResultVar := [.tmp 4]
noncomputable def slices_IndexFunc_Range_c2 : Code := subC (bodyC Try.f67) [0]
noncomputable def slices_IndexFunc_Range_c5 : Code := subC (bodyC Try.f67) [1, 0, 0]
noncomputable def slices_IndexFunc_Range_c9 : Code := subC (bodyC Try.f67) [1, 0, 1, 0, 0, 0]
noncomputable def slices_IndexFunc_Range_c12 : Code := .exit 0
noncomputable def slices_IndexFunc_Range_c11 : Code := .cond (.tmp 9) Code.skip slices_IndexFunc_Range_c12
noncomputable def slices_IndexFunc_Range_c16 : Code := subC (bodyC Try.f67) [1, 0, 1, 0, 0, 1, 1, 0, 0, 0]
noncomputable def slices_IndexFunc_Range_c18 : Code := subC (bodyC Try.f67) [1, 0, 1, 0, 0, 1, 1, 0, 0, 1, 0]
noncomputable def slices_IndexFunc_Range_c21 : Code := subC (bodyC Try.f67) [1, 0, 1, 0, 0, 1, 1, 0, 0, 1, 1, 0, 0]
noncomputable def slices_IndexFunc_Range_c20 : Code := .seq slices_IndexFunc_Range_c21 Code.ret
noncomputable def slices_IndexFunc_Range_c19 : Code := .cond (.tmp 16) slices_IndexFunc_Range_c20 Code.skip
noncomputable def slices_IndexFunc_Range_c17 : Code := .seq slices_IndexFunc_Range_c18 slices_IndexFunc_Range_c19
noncomputable def slices_IndexFunc_Range_c15 : Code := .seq slices_IndexFunc_Range_c16 slices_IndexFunc_Range_c17
noncomputable def slices_IndexFunc_Range_c14 : Code := .block 1 slices_IndexFunc_Range_c15
noncomputable def slices_IndexFunc_Range_c22 : Code := subC (bodyC Try.f67) [1, 0, 1, 0, 0, 1, 1, 1]
noncomputable def slices_IndexFunc_Range_c13 : Code := .seq slices_IndexFunc_Range_c14 slices_IndexFunc_Range_c22
noncomputable def slices_IndexFunc_Range_c10 : Code := .seq slices_IndexFunc_Range_c11 slices_IndexFunc_Range_c13
noncomputable def slices_IndexFunc_Range_c8 : Code := .seq slices_IndexFunc_Range_c9 slices_IndexFunc_Range_c10
noncomputable def slices_IndexFunc_Range_c7 : Code := .loop slices_IndexFunc_Range_c8
noncomputable def slices_IndexFunc_Range_c6 : Code := .block 0 slices_IndexFunc_Range_c7
noncomputable def slices_IndexFunc_Range_c4 : Code := .seq slices_IndexFunc_Range_c5 slices_IndexFunc_Range_c6
noncomputable def slices_IndexFunc_Range_c24 : Code := subC (bodyC Try.f67) [1, 1, 0]
noncomputable def slices_IndexFunc_Range_c23 : Code := .seq slices_IndexFunc_Range_c24 Code.ret
noncomputable def slices_IndexFunc_Range_c3 : Code := .seq slices_IndexFunc_Range_c4 slices_IndexFunc_Range_c23
noncomputable def slices_IndexFunc_Range_c1 : Code := .seq slices_IndexFunc_Range_c2 slices_IndexFunc_Range_c3
def slices_IndexFunc_Range_pi (_ : Nat) : Pl := .nil
def slices_IndexFunc_Range_g25 (S : Value → Value → Heap → Prop) (x0 x1 : Value) (H : Heap) : Prop :=
  S x0 x1 H
theorem slices_IndexFunc_Range_g25_e (S : Value → Value → Heap → Prop) (x : Nat → Value) (H : Heap) : wpE tab P slices_IndexFunc_Range_pi slices_IndexFunc_Range_c2 (nQ fun l H => S (l.getD 0 undef) (l.getD 1 undef) H) ((List.range 19).map x) H = slices_IndexFunc_Range_g25 S (x 0) (x 1) H := by kernel_rfl
def slices_IndexFunc_Range_g26 (S : Value → Value → Value → Value → Heap → Prop) (x0 x1 : Value) (H : Heap) : Prop :=
  bnd (lenV x0) fun v7 =>
  S x0 x1 v7 (.int .i64 0) H
theorem slices_IndexFunc_Range_g26_e (S : Value → Value → Value → Value → Heap → Prop) (x : Nat → Value) (H : Heap) : wpE tab P slices_IndexFunc_Range_pi slices_IndexFunc_Range_c5 (nQ fun l H => S (l.getD 0 undef) (l.getD 1 undef) (l.getD 7 undef) (l.getD 8 undef) H) ((List.range 19).map x) H = slices_IndexFunc_Range_g26 S (x 0) (x 1) H := by kernel_rfl
def slices_IndexFunc_Range_g28 (S : Value → Value → Value → Value → Value → Heap → Prop) (x0 x1 x7 x8 : Value) (H : Heap) : Prop :=
  bnd (binV .int .lss x8 x7) fun v9 =>
  S x0 x1 x7 x8 v9 H
theorem slices_IndexFunc_Range_g28_e (S : Value → Value → Value → Value → Value → Heap → Prop) (x : Nat → Value) (H : Heap) : wpE tab P slices_IndexFunc_Range_pi slices_IndexFunc_Range_c9 (nQ fun l H => S (l.getD 0 undef) (l.getD 1 undef) (l.getD 7 undef) (l.getD 8 undef) (l.getD 9 undef) H) ((List.range 19).map x) H = slices_IndexFunc_Range_g28 S (x 0) (x 1) (x 7) (x 8) H := by kernel_rfl
def slices_IndexFunc_Range_g29 (S : Value → Value → Value → Value → Value → Heap → Prop) (x0 x1 x7 x8 : Value) (H : Heap) : Prop :=
  S x0 x1 x8 x7 x8 H
theorem slices_IndexFunc_Range_g29_e (S : Value → Value → Value → Value → Value → Heap → Prop) (x : Nat → Value) (H : Heap) : wpE tab P slices_IndexFunc_Range_pi slices_IndexFunc_Range_c16 (nQ fun l H => S (l.getD 0 undef) (l.getD 1 undef) (l.getD 5 undef) (l.getD 7 undef) (l.getD 8 undef) H) ((List.range 19).map x) H = slices_IndexFunc_Range_g29 S (x 0) (x 1) (x 7) (x 8) H := by kernel_rfl
def slices_IndexFunc_Range_g30 (S : Value → Value → Value → Value → Value → Value → Heap → Prop) (x0 x1 x5 x7 x8 : Value) (H : Heap) : Prop :=
  bnd (ixSV 2 x0 x5) fun v14 =>
  bnd (ldE true 2 v14 H) fun v15 =>
  callV P x1 [v15] H fun v16 H1 =>
  S x0 x1 x5 x7 x8 v16 H1
theorem slices_IndexFunc_Range_g30_e (S : Value → Value → Value → Value → Value → Value → Heap → Prop) (x : Nat → Value) (H : Heap) : wpE tab P slices_IndexFunc_Range_pi slices_IndexFunc_Range_c18 (nQ fun l H => S (l.getD 0 undef) (l.getD 1 undef) (l.getD 5 undef) (l.getD 7 undef) (l.getD 8 undef) (l.getD 16 undef) H) ((List.range 19).map x) H = slices_IndexFunc_Range_g30 S (x 0) (x 1) (x 5) (x 7) (x 8) H := by kernel_rfl
def slices_IndexFunc_Range_g31 (S : Value → Heap → Prop) (x5 : Value) (H : Heap) : Prop :=
  S x5 H
theorem slices_IndexFunc_Range_g31_e (S : Value → Heap → Prop) (x : Nat → Value) (H : Heap) : wpE tab P slices_IndexFunc_Range_pi slices_IndexFunc_Range_c21 (nQ fun l H => S (l.getD 4 undef) H) ((List.range 19).map x) H = slices_IndexFunc_Range_g31 S (x 5) H := by kernel_rfl
def slices_IndexFunc_Range_g32 (S : Value → Value → Value → Value → Heap → Prop) (x0 x1 x7 x8 : Value) (H : Heap) : Prop :=
  bnd (binV .int .add x8 (.int .i64 1)) fun v18 =>
  S x0 x1 x7 v18 H
theorem slices_IndexFunc_Range_g32_e (S : Value → Value → Value → Value → Heap → Prop) (x : Nat → Value) (H : Heap) : wpE tab P slices_IndexFunc_Range_pi slices_IndexFunc_Range_c22 (nQ fun l H => S (l.getD 0 undef) (l.getD 1 undef) (l.getD 7 undef) (l.getD 8 undef) H) ((List.range 19).map x) H = slices_IndexFunc_Range_g32 S (x 0) (x 1) (x 7) (x 8) H := by kernel_rfl
def slices_IndexFunc_Range_g33 (S : Value → Heap → Prop) (H : Heap) : Prop :=
  S (.int .i64 (-1)) H
theorem slices_IndexFunc_Range_g33_e (S : Value → Heap → Prop) (x : Nat → Value) (H : Heap) : wpE tab P slices_IndexFunc_Range_pi slices_IndexFunc_Range_c24 (nQ fun l H => S (l.getD 4 undef) H) ((List.range 19).map x) H = slices_IndexFunc_Range_g33 S  H := by kernel_rfl
def slices_IndexFunc_Range_s27 (x0 x1 x7 x8 : Value) (K1 : Value → Value → Value → Value →  Heap → Prop) (R : Value → Heap → Prop) (H : Heap) : Prop :=
  slices_IndexFunc_Range_g28 (fun x0 x1 x7 x8 x9 H => brV x9
  (slices_IndexFunc_Range_g29 (fun x0 x1 x5 x7 x8 H => slices_IndexFunc_Range_g30 (fun x0 x1 x5 x7 x8 x16 H => brV x16
  (slices_IndexFunc_Range_g31 (fun x4 H => R x4 H) x5 H)
  (slices_IndexFunc_Range_g32 (fun x0 x1 x7 x8 H => K1 x0 x1 x7 x8 H) x0 x1 x7 x8 H)) x0 x1 x5 x7 x8 H) x0 x1 x7 x8 H)
  (slices_IndexFunc_Range_g33 (fun x4 H => R x4 H) H)) x0 x1 x7 x8 H
noncomputable def slices_IndexFunc_Range_q34 (R : Value → Heap → Prop) : Exit → List Value → Heap → Prop := (retQ tab slices_IndexFunc_Range_rs R)
noncomputable def slices_IndexFunc_Range_q35 (R : Value → Heap → Prop) : Exit → List Value → Heap → Prop := (thenE (fun l H => wpE tab P slices_IndexFunc_Range_pi slices_IndexFunc_Range_c23 (slices_IndexFunc_Range_q34 R) l H) (slices_IndexFunc_Range_q34 R))
noncomputable def slices_IndexFunc_Range_q36 (R : Value → Heap → Prop) : Exit → List Value → Heap → Prop := (blkE 0 (slices_IndexFunc_Range_q35 R))
noncomputable def slices_IndexFunc_Range_q37 (K1 : Value → Value → Value → Value →  Heap → Prop) (R : Value → Heap → Prop) : Exit → List Value → Heap → Prop := (thenE (fun l H => K1 (l.getD 0 undef) (l.getD 1 undef) (l.getD 7 undef) (l.getD 8 undef) H) (slices_IndexFunc_Range_q36 R))
theorem slices_IndexFunc_Range_s27_i (K1 : Value → Value → Value → Value →  Heap → Prop) (R : Value → Heap → Prop) (l : List Value) (H : Heap) (hl : l.length = 19) (h : slices_IndexFunc_Range_s27 (l.getD 0 undef) (l.getD 1 undef) (l.getD 7 undef) (l.getD 8 undef) K1 R H) : wpE tab P slices_IndexFunc_Range_pi slices_IndexFunc_Range_c8 (slices_IndexFunc_Range_q37 K1 R) l H := by
  refine seqI (c := slices_IndexFunc_Range_c8) rfl ?_
  refine regI hl (Eq.mpr (slices_IndexFunc_Range_g28_e _ (fun i => l.getD i undef) _) h) ?_
  clear h hl
  intro l H hl h
  refine thenN ?_
  refine seqI (c := slices_IndexFunc_Range_c10) rfl ?_
  refine condI (c := slices_IndexFunc_Range_c11) rfl h ?_ ?_
  · clear h; intro h
    refine skipI rfl ?_
    refine thenN ?_
    refine seqI (c := slices_IndexFunc_Range_c13) rfl ?_
    refine blockI (c := slices_IndexFunc_Range_c14) rfl ?_
    refine seqI (c := slices_IndexFunc_Range_c15) rfl ?_
    refine regI hl (Eq.mpr (slices_IndexFunc_Range_g29_e _ (fun i => l.getD i undef) _) h) ?_
    clear h hl
    intro l H hl h
    refine thenN ?_
    refine seqI (c := slices_IndexFunc_Range_c17) rfl ?_
    refine regI hl (Eq.mpr (slices_IndexFunc_Range_g30_e _ (fun i => l.getD i undef) _) h) ?_
    clear h hl
    intro l H hl h
    refine thenN ?_
    refine condI (c := slices_IndexFunc_Range_c19) rfl h ?_ ?_
    · clear h; intro h
      refine seqI (c := slices_IndexFunc_Range_c20) rfl ?_
      refine regI hl (Eq.mpr (slices_IndexFunc_Range_g31_e _ (fun i => l.getD i undef) _) h) ?_
      clear h hl
      intro l H hl h
      refine thenN ?_
      refine retI rfl ?_
      refine blkR ?_
      refine thenR ?_
      refine thenR ?_
      refine blkR ?_
      refine thenR ?_
      exact h
    · clear h; intro h
      refine skipI rfl ?_
      refine blkN ?_
      refine thenN ?_
      refine regI hl (Eq.mpr (slices_IndexFunc_Range_g32_e _ (fun i => l.getD i undef) _) h) ?_
      clear h hl
      intro l H hl h
      refine thenN ?_
      exact h
  · clear h; intro h
    refine exitI (c := slices_IndexFunc_Range_c12) rfl ?_
    refine thenX ?_
    refine thenX ?_
    refine blkX ?_
    refine thenN ?_
    refine seqI (c := slices_IndexFunc_Range_c23) rfl ?_
    refine regI hl (Eq.mpr (slices_IndexFunc_Range_g33_e _ (fun i => l.getD i undef) _) h) ?_
    clear h hl
    intro l H hl h
    refine thenN ?_
    refine retI rfl ?_
    exact h
def slices_IndexFunc_Range_l38 (x0 x1 x7 x8 : Value) (R : Value → Heap → Prop) (H : Heap) : Prop :=
  ∃ (I : Value → Heap → Prop) (μ : Value → Heap → Nat), I x8 H ∧ ∀ (y8 : Value) (H : Heap), I y8 H → slices_IndexFunc_Range_s27 x0 x1 x7 y8 (fun z0 z1 z7 z8 H' => z0 = x0 ∧ z1 = x1 ∧ z7 = x7 ∧ (I z8 H' ∧ μ z8 H' < μ y8 H)) R H
def slices_IndexFunc_Range (x0 x1 : Value) (R : Value → Heap → Prop) (H : Heap) : Prop :=
  slices_IndexFunc_Range_g25 (fun x0 x1 H => slices_IndexFunc_Range_g26 (fun x0 x1 x7 x8 H => slices_IndexFunc_Range_l38 x0 x1 x7 x8 R H) x0 x1 H) x0 x1 H
theorem slices_IndexFunc_Range_i (R : Value → Heap → Prop) (x0 x1 : Value) (H : Heap) (h : slices_IndexFunc_Range x0 x1 R H) : wpE tab P slices_IndexFunc_Range_pi slices_IndexFunc_Range_c1 (retQ tab slices_IndexFunc_Range_rs R) [x0, x1, undef, undef, undef, undef, undef, undef, undef, undef, undef, undef, undef, undef, undef, undef, undef, undef, undef] H := by
  obtain ⟨l, hl, el⟩ : ∃ l : List Value, l.length = 19 ∧ l = [x0, x1, undef, undef, undef, undef, undef, undef, undef, undef, undef, undef, undef, undef, undef, undef, undef, undef, undef] := ⟨_, rfl, rfl⟩
  rw [← el]
  have h : (fun (x0 x1 : Value) => slices_IndexFunc_Range_g25 (fun x0 x1 H => slices_IndexFunc_Range_g26 (fun x0 x1 x7 x8 H => slices_IndexFunc_Range_l38 x0 x1 x7 x8 R H) x0 x1 H) x0 x1 H) (l.getD 0 undef) (l.getD 1 undef) := by rw [el]; exact h
  clear el
  refine seqI (c := slices_IndexFunc_Range_c1) rfl ?_
  refine regI hl (Eq.mpr (slices_IndexFunc_Range_g25_e _ (fun i => l.getD i undef) _) h) ?_
  clear h hl
  intro l H hl h
  refine thenN ?_
  refine seqI (c := slices_IndexFunc_Range_c3) rfl ?_
  refine seqI (c := slices_IndexFunc_Range_c4) rfl ?_
  refine regI hl (Eq.mpr (slices_IndexFunc_Range_g26_e _ (fun i => l.getD i undef) _) h) ?_
  clear h hl
  intro l H hl h
  refine thenN ?_
  refine blockI (c := slices_IndexFunc_Range_c6) rfl ?_
  obtain ⟨I, μ, h0, hr⟩ := h
  refine loopI (c := slices_IndexFunc_Range_c7) rfl (fun l' H' => l'.getD 0 undef = l.getD 0 undef ∧ l'.getD 1 undef = l.getD 1 undef ∧ l'.getD 7 undef = l.getD 7 undef ∧ I (l'.getD 8 undef) H') (fun l' H' => μ (l'.getD 8 undef) H') hl ⟨rfl, rfl, rfl, h0⟩ ?_
  rintro l1 H1 hl1 ⟨e0, e1, e7, hI⟩
  have hb := hr (l1.getD 8 undef) H1 hI
  rw [← e0, ← e1, ← e7] at hb
  refine wpE_mono _ l1 H1 hl1 ?_ (slices_IndexFunc_Range_s27_i _ R l1 H1 hl1 hb)
  intro e l2 H2 hl2 hq
  cases e with
  | normal => exact fun _ => (by obtain ⟨d0, d1, d7, g1, g2⟩ := hq; exact ⟨⟨d0.trans e0, d1.trans e1, d7.trans e7, g1⟩, g2⟩)
  | _ => exact hq
theorem slices_IndexFunc_Range_ok : okB slices_IndexFunc_Range_pi slices_IndexFunc_Range_c1 = true := by kernel_rfl
theorem slices_IndexFunc_Range_ev0 (x0 x1 : Value) (R : Value → Heap → Prop) (H : Heap) (h : slices_IndexFunc_Range x0 x1 R H) : EvL P N.slices_IndexFunc_Range #[x0, x1] H R :=
  EvF_intro (args := [x0, x1]) (k := 17) (rs := slices_IndexFunc_Range_rs) tab_ok mixed Try.func67 (show Try.f67.body = some slices_IndexFunc_Range_c1 by kernel_rfl) Try.call67 Try.ntmps67 (by kernel_rfl) (okCode_of _ slices_IndexFunc_Range_ok) rfl (slices_IndexFunc_Range_i R x0 x1 H h)
theorem slices_IndexFunc_Range_ev (x0 x1 : Value) (R : Value → Heap → Prop) (H : Heap) (h : slices_IndexFunc_Range x0 x1 R H) : EvF P N.slices_IndexFunc_Range #[x0, x1] H R := .inl (slices_IndexFunc_Range_ev0 x0 x1 R H h)
/- 68: slices.Collect[sounder/api.Range] -/
def slices_Collect_Range_rs : List ResultVar := [.tmp 2]
noncomputable def slices_Collect_Range_c2 : Code := subC (bodyC Try.f68) [0]
noncomputable def slices_Collect_Range_c4 : Code := subC (bodyC Try.f68) [1, 0]
noncomputable def slices_Collect_Range_c3 : Code := .seq slices_Collect_Range_c4 Code.ret
noncomputable def slices_Collect_Range_c1 : Code := .seq slices_Collect_Range_c2 slices_Collect_Range_c3
def slices_Collect_Range_pi (_ : Nat) : Pl := .nil
def slices_Collect_Range_g5 (S : Value → Heap → Prop) (x0 : Value) (H : Heap) : Prop :=
  S x0 H
theorem slices_Collect_Range_g5_e (S : Value → Heap → Prop) (x : Nat → Value) (H : Heap) : wpE tab P slices_Collect_Range_pi slices_Collect_Range_c2 (nQ fun l H => S (l.getD 0 undef) H) ((List.range 5).map x) H = slices_Collect_Range_g5 S (x 0) H := by kernel_rfl
def slices_Collect_Range_g6 (S : Value → Heap → Prop) (x0 : Value) (H : Heap) : Prop :=
  EvF P N.slices_AppendSeq_Range #[(.slice none 0 0), x0] H fun v4 H1 =>
  S v4 H1
theorem slices_Collect_Range_g6_e (S : Value → Heap → Prop) (x : Nat → Value) (H : Heap) : wpE tab P slices_Collect_Range_pi slices_Collect_Range_c4 (nQ fun l H => S (l.getD 2 undef) H) ((List.range 5).map x) H = slices_Collect_Range_g6 S (x 0) H := by kernel_rfl
def slices_Collect_Range (x0 : Value) (R : Value → Heap → Prop) (H : Heap) : Prop :=
  slices_Collect_Range_g5 (fun x0 H => slices_Collect_Range_g6 (fun x2 H => R x2 H) x0 H) x0 H
theorem slices_Collect_Range_i (R : Value → Heap → Prop) (x0 : Value) (H : Heap) (h : slices_Collect_Range x0 R H) : wpE tab P slices_Collect_Range_pi slices_Collect_Range_c1 (retQ tab slices_Collect_Range_rs R) [x0, undef, undef, undef, undef] H := by
  obtain ⟨l, hl, el⟩ : ∃ l : List Value, l.length = 5 ∧ l = [x0, undef, undef, undef, undef] := ⟨_, rfl, rfl⟩
  rw [← el]
  have h : (fun (x0 : Value) => slices_Collect_Range_g5 (fun x0 H => slices_Collect_Range_g6 (fun x2 H => R x2 H) x0 H) x0 H) (l.getD 0 undef) := by rw [el]; exact h
  clear el
  refine seqI (c := slices_Collect_Range_c1) rfl ?_
  refine regI hl (Eq.mpr (slices_Collect_Range_g5_e _ (fun i => l.getD i undef) _) h) ?_
  clear h hl
  intro l H hl h
  refine thenN ?_
  refine seqI (c := slices_Collect_Range_c3) rfl ?_
  refine regI hl (Eq.mpr (slices_Collect_Range_g6_e _ (fun i => l.getD i undef) _) h) ?_
  clear h hl
  intro l H hl h
  refine thenN ?_
  refine retI rfl ?_
  exact h
theorem slices_Collect_Range_ok : okB slices_Collect_Range_pi slices_Collect_Range_c1 = true := by kernel_rfl
theorem slices_Collect_Range_ev0 (x0 : Value) (R : Value → Heap → Prop) (H : Heap) (h : slices_Collect_Range x0 R H) : EvL P N.slices_Collect_Range #[x0] H R :=
  EvF_intro (args := [x0]) (k := 4) (rs := slices_Collect_Range_rs) tab_ok mixed Try.func68 (show Try.f68.body = some slices_Collect_Range_c1 by kernel_rfl) Try.call68 Try.ntmps68 (by kernel_rfl) (okCode_of _ slices_Collect_Range_ok) rfl (slices_Collect_Range_i R x0 H h)
theorem slices_Collect_Range_ev (x0 : Value) (R : Value → Heap → Prop) (H : Heap) (h : slices_Collect_Range x0 R H) : EvF P N.slices_Collect_Range #[x0] H R := .inl (slices_Collect_Range_ev0 x0 R H h)
/- 69: (*sounder/span.Set).falling -/
def span_Set_falling_rs : List ResultVar := [.tmp 2]
noncomputable def span_Set_falling_c2 : Code := subC (bodyC Try.f69) [0]
noncomputable def span_Set_falling_c4 : Code := subC (bodyC Try.f69) [1, 0]
noncomputable def span_Set_falling_c3 : Code := .seq span_Set_falling_c4 Code.ret
noncomputable def span_Set_falling_c1 : Code := .seq span_Set_falling_c2 span_Set_falling_c3
def span_Set_falling_pi (_ : Nat) : Pl := .nil
def span_Set_falling_g5 (S : Value → Heap → Prop) (x0 : Value) (H : Heap) : Prop :=
  newE 28 (Value.cells x0) H fun v1 H1 =>
  S v1 H1
theorem span_Set_falling_g5_e (S : Value → Heap → Prop) (x : Nat → Value) (H : Heap) : wpE tab P span_Set_falling_pi span_Set_falling_c2 (nQ fun l H => S (l.getD 1 undef) H) ((List.range 4).map x) H = span_Set_falling_g5 S (x 0) H := by kernel_rfl
def span_Set_falling_g6 (S : Value → Heap → Prop) (x1 : Value) (H : Heap) : Prop :=
  S (.func (.func N.span_Set_falling_1) #[] #[x1]) H
theorem span_Set_falling_g6_e (S : Value → Heap → Prop) (x : Nat → Value) (H : Heap) : wpE tab P span_Set_falling_pi span_Set_falling_c4 (nQ fun l H => S (l.getD 2 undef) H) ((List.range 4).map x) H = span_Set_falling_g6 S (x 1) H := by kernel_rfl
def span_Set_falling (x0 : Value) (R : Value → Heap → Prop) (H : Heap) : Prop :=
  span_Set_falling_g5 (fun x1 H => span_Set_falling_g6 (fun x2 H => R x2 H) x1 H) x0 H
theorem span_Set_falling_i (R : Value → Heap → Prop) (x0 : Value) (H : Heap) (h : span_Set_falling x0 R H) : wpE tab P span_Set_falling_pi span_Set_falling_c1 (retQ tab span_Set_falling_rs R) [x0, undef, undef, undef] H := by
  obtain ⟨l, hl, el⟩ : ∃ l : List Value, l.length = 4 ∧ l = [x0, undef, undef, undef] := ⟨_, rfl, rfl⟩
  rw [← el]
  have h : (fun (x0 : Value) => span_Set_falling_g5 (fun x1 H => span_Set_falling_g6 (fun x2 H => R x2 H) x1 H) x0 H) (l.getD 0 undef) := by rw [el]; exact h
  clear el
  refine seqI (c := span_Set_falling_c1) rfl ?_
  refine regI hl (Eq.mpr (span_Set_falling_g5_e _ (fun i => l.getD i undef) _) h) ?_
  clear h hl
  intro l H hl h
  refine thenN ?_
  refine seqI (c := span_Set_falling_c3) rfl ?_
  refine regI hl (Eq.mpr (span_Set_falling_g6_e _ (fun i => l.getD i undef) _) h) ?_
  clear h hl
  intro l H hl h
  refine thenN ?_
  refine retI rfl ?_
  exact h
theorem span_Set_falling_ok : okB span_Set_falling_pi span_Set_falling_c1 = true := by kernel_rfl
theorem span_Set_falling_ev0 (x0 : Value) (R : Value → Heap → Prop) (H : Heap) (h : span_Set_falling x0 R H) : EvL P N.span_Set_falling #[x0] H R :=
  EvF_intro (args := [x0]) (k := 3) (rs := span_Set_falling_rs) tab_ok mixed Try.func69 (show Try.f69.body = some span_Set_falling_c1 by kernel_rfl) Try.call69 Try.ntmps69 (by kernel_rfl) (okCode_of _ span_Set_falling_ok) rfl (span_Set_falling_i R x0 H h)
theorem span_Set_falling_ev (x0 : Value) (R : Value → Heap → Prop) (H : Heap) (h : span_Set_falling x0 R H) : EvF P N.span_Set_falling #[x0] H R := .inl (span_Set_falling_ev0 x0 R H h)
/- 77: slices.rotateLeft[sounder/api.Range] -/
def slices_rotateLeft_Range_rs : List ResultVar := []
noncomputable def slices_rotateLeft_Range_c2 : Code := subC (bodyC Try.f77) [0]
noncomputable def slices_rotateLeft_Range_c4 : Code := subC (bodyC Try.f77) [1, 0]
noncomputable def slices_rotateLeft_Range_c5 : Code := subC (bodyC Try.f77) [1, 1]
noncomputable def slices_rotateLeft_Range_c3 : Code := .seq slices_rotateLeft_Range_c4 slices_rotateLeft_Range_c5
noncomputable def slices_rotateLeft_Range_c1 : Code := .seq slices_rotateLeft_Range_c2 slices_rotateLeft_Range_c3
def slices_rotateLeft_Range_pi (_ : Nat) : Pl := .nil
def slices_rotateLeft_Range_g6 (S : Value → Value → Heap → Prop) (x0 x1 : Value) (H : Heap) : Prop :=
  bnd (sliceV 2 x0 none (some x1)) fun v6 =>
  EvF P N.slices_Reverse_Range #[v6] H fun _ H1 =>
  S x0 x1 H1
theorem slices_rotateLeft_Range_g6_e (S : Value → Value → Heap → Prop) (x : Nat → Value) (H : Heap) : wpE tab P slices_rotateLeft_Range_pi slices_rotateLeft_Range_c2 (nQ fun l H => S (l.getD 0 undef) (l.getD 1 undef) H) ((List.range 14).map x) H = slices_rotateLeft_Range_g6 S (x 0) (x 1) H := by kernel_rfl
def slices_rotateLeft_Range_g7 (S : Value → Heap → Prop) (x0 x1 : Value) (H : Heap) : Prop :=
  bnd (sliceV 2 x0 (some x1) none) fun v10 =>
  EvF P N.slices_Reverse_Range #[v10] H fun _ H1 =>
  S x0 H1
theorem slices_rotateLeft_Range_g7_e (S : Value → Heap → Prop) (x : Nat → Value) (H : Heap) : wpE tab P slices_rotateLeft_Range_pi slices_rotateLeft_Range_c4 (nQ fun l H => S (l.getD 0 undef) H) ((List.range 14).map x) H = slices_rotateLeft_Range_g7 S (x 0) (x 1) H := by kernel_rfl
def slices_rotateLeft_Range_g8 (S : Heap → Prop) (x0 : Value) (H : Heap) : Prop :=
  EvF P N.slices_Reverse_Range #[x0] H fun _ H1 =>
  S H1
theorem slices_rotateLeft_Range_g8_e (S : Heap → Prop) (x : Nat → Value) (H : Heap) : wpE tab P slices_rotateLeft_Range_pi slices_rotateLeft_Range_c5 (nQ fun _ H => S  H) ((List.range 14).map x) H = slices_rotateLeft_Range_g8 S (x 0) H := by kernel_rfl
def slices_rotateLeft_Range (x0 x1 : Value) (R : Value → Heap → Prop) (H : Heap) : Prop :=
  slices_rotateLeft_Range_g6 (fun x0 x1 H => slices_rotateLeft_Range_g7 (fun x0 H => slices_rotateLeft_Range_g8 (fun H => R (.tuple #[]) H) x0 H) x0 x1 H) x0 x1 H
theorem slices_rotateLeft_Range_i (R : Value → Heap → Prop) (x0 x1 : Value) (H : Heap) (h : slices_rotateLeft_Range x0 x1 R H) : wpE tab P slices_rotateLeft_Range_pi slices_rotateLeft_Range_c1 (retQ tab slices_rotateLeft_Range_rs R) [x0, x1, undef, undef, undef, undef, undef, undef, undef, undef, undef, undef, undef, undef] H := by
  obtain ⟨l, hl, el⟩ : ∃ l : List Value, l.length = 14 ∧ l = [x0, x1, undef, undef, undef, undef, undef, undef, undef, undef, undef, undef, undef, undef] := ⟨_, rfl, rfl⟩
  rw [← el]
  have h : (fun (x0 x1 : Value) => slices_rotateLeft_Range_g6 (fun x0 x1 H => slices_rotateLeft_Range_g7 (fun x0 H => slices_rotateLeft_Range_g8 (fun H => R (.tuple #[]) H) x0 H) x0 x1 H) x0 x1 H) (l.getD 0 undef) (l.getD 1 undef) := by rw [el]; exact h
  clear el
  refine seqI (c := slices_rotateLeft_Range_c1) rfl ?_
  refine regI hl (Eq.mpr (slices_rotateLeft_Range_g6_e _ (fun i => l.getD i undef) _) h) ?_
  clear h hl
  intro l H hl h
  refine thenN ?_
  refine seqI (c := slices_rotateLeft_Range_c3) rfl ?_
  refine regI hl (Eq.mpr (slices_rotateLeft_Range_g7_e _ (fun i => l.getD i undef) _) h) ?_
  clear h hl
  intro l H hl h
  refine thenN ?_
  refine regI hl (Eq.mpr (slices_rotateLeft_Range_g8_e _ (fun i => l.getD i undef) _) h) ?_
  clear h hl
  intro l H hl h
  exact h
theorem slices_rotateLeft_Range_ok : okB slices_rotateLeft_Range_pi slices_rotateLeft_Range_c1 = true := by kernel_rfl
theorem slices_rotateLeft_Range_ev0 (x0 x1 : Value) (R : Value → Heap → Prop) (H : Heap) (h : slices_rotateLeft_Range x0 x1 R H) : EvL P N.slices_rotateLeft_Range #[x0, x1] H R :=
  EvF_intro (args := [x0, x1]) (k := 12) (rs := slices_rotateLeft_Range_rs) tab_ok mixed Try.func77 (show Try.f77.body = some slices_rotateLeft_Range_c1 by kernel_rfl) Try.call77 Try.ntmps77 (by kernel_rfl) (okCode_of _ slices_rotateLeft_Range_ok) rfl (slices_rotateLeft_Range_i R x0 x1 H h)
theorem slices_rotateLeft_Range_ev (x0 x1 : Value) (R : Value → Heap → Prop) (H : Heap) (h : slices_rotateLeft_Range x0 x1 R H) : EvF P N.slices_rotateLeft_Range #[x0, x1] H R := .inl (slices_rotateLeft_Range_ev0 x0 x1 R H h)
/- 78: slices.AppendSeq[[]sounder/api.Range,sounder/api.Range] -/
def slices_AppendSeq_Range_rs : List ResultVar := [.tmp 4]
noncomputable def slices_AppendSeq_Range_c2 : Code := subC (bodyC Try.f78) [0]
noncomputable def slices_AppendSeq_Range_c5 : Code := subC (bodyC Try.f78) [1, 0, 0]
noncomputable def slices_AppendSeq_Range_c8 : Code := subC (bodyC Try.f78) [1, 0, 1, 0, 0]
noncomputable def slices_AppendSeq_Range_c10 : Code := subC (bodyC Try.f78) [1, 0, 1, 0, 1, 0]
noncomputable def slices_AppendSeq_Range_c9 : Code := .block 1 slices_AppendSeq_Range_c10
noncomputable def slices_AppendSeq_Range_c7 : Code := .rangeFunc (.tmp 6) #[7] slices_AppendSeq_Range_c8 slices_AppendSeq_Range_c9
noncomputable def slices_AppendSeq_Range_c6 : Code := .block 0 slices_AppendSeq_Range_c7
noncomputable def slices_AppendSeq_Range_c4 : Code := .seq slices_AppendSeq_Range_c5 slices_AppendSeq_Range_c6
noncomputable def slices_AppendSeq_Range_c12 : Code := subC (bodyC Try.f78) [1, 1, 0]
noncomputable def slices_AppendSeq_Range_c11 : Code := .seq slices_AppendSeq_Range_c12 Code.ret
noncomputable def slices_AppendSeq_Range_c3 : Code := .seq slices_AppendSeq_Range_c4 slices_AppendSeq_Range_c11
noncomputable def slices_AppendSeq_Range_c1 : Code := .seq slices_AppendSeq_Range_c2 slices_AppendSeq_Range_c3
def slices_AppendSeq_Range_pi (_ : Nat) : Pl := .nil
def slices_AppendSeq_Range_g13 (S : Value → Value → Heap → Prop) (x0 x1 : Value) (H : Heap) : Prop :=
  newE 46 (Value.cells x0) H fun v2 H1 =>
  S x1 v2 H1
theorem slices_AppendSeq_Range_g13_e (S : Value → Value → Heap → Prop) (x : Nat → Value) (H : Heap) : wpE tab P slices_AppendSeq_Range_pi slices_AppendSeq_Range_c2 (nQ fun l H => S (l.getD 1 undef) (l.getD 2 undef) H) ((List.range 13).map x) H = slices_AppendSeq_Range_g13 S (x 0) (x 1) H := by kernel_rfl
def slices_AppendSeq_Range_g14 (S : Value → Value → Heap → Prop) (x1 x2 : Value) (H : Heap) : Prop :=
  S x2 x1 H
theorem slices_AppendSeq_Range_g14_e (S : Value → Value → Heap → Prop) (x : Nat → Value) (H : Heap) : wpE tab P slices_AppendSeq_Range_pi slices_AppendSeq_Range_c5 (nQ fun l H => S (l.getD 2 undef) (l.getD 6 undef) H) ((List.range 13).map x) H = slices_AppendSeq_Range_g14 S (x 1) (x 2) H := by kernel_rfl
noncomputable def slices_AppendSeq_Range_L (fn : FuncId) (l : List Value) (d : Nat) : Loop := mkL fn l #[7] slices_AppendSeq_Range_c8 slices_AppendSeq_Range_c9 d
def slices_AppendSeq_Range_g16 (S : Heap → Prop) (x2 x5 : Value) (H : Heap) : Prop :=
  bnd (ldE false 1 x2 H) fun v8 =>
  bnd (ldE true 2 x5 H) fun v9 =>
  bslE 45 #[(.int .i64 0), (.int .i64 0)] 2 1 [(0, v9)] H fun v10 H1 =>
  appE 45 #[(.int .i64 0), (.int .i64 0)] 2 16 v8 v10 H1 fun v11 H2 =>
  bnd (stE 1 x2 v11 H2) fun H3 =>
  S H3
theorem slices_AppendSeq_Range_g16_e (S : Heap → Prop) (x : Nat → Value) (H : Heap) : wpE tab P slices_AppendSeq_Range_pi slices_AppendSeq_Range_c10 (nQ fun _ H => S  H) ((List.range 13).map x) H = slices_AppendSeq_Range_g16 S (x 2) (x 5) H := by kernel_rfl
def slices_AppendSeq_Range_s15 (x2 x5 : Value) (lp : Nat) (r : Loop) (R : Value → Heap → Prop) (H : Heap) : Prop :=
  slices_AppendSeq_Range_g16 (fun H => (H.arr[lp]? = some (.loop (busy r)) ∧ R (.bool true) (setO H lp (.loop r)))) x2 x5 H
noncomputable def slices_AppendSeq_Range_q17 (lp : Nat) (r : Loop) (R : Value → Heap → Prop) : Exit → List Value → Heap → Prop := (nQ fun _ H2 => H2.arr[lp]? = some (.loop (busy r)) ∧ R (.bool true) (setO H2 lp (.loop r)))
theorem slices_AppendSeq_Range_s15_i (lp : Nat) (r : Loop) (R : Value → Heap → Prop) (l : List Value) (H : Heap) (hl : l.length = 13) (h : slices_AppendSeq_Range_s15 (l.getD 2 undef) (l.getD 5 undef) lp r R H) : wpE tab P slices_AppendSeq_Range_pi slices_AppendSeq_Range_c9 (slices_AppendSeq_Range_q17 lp r R) l H := by
  refine blockI (c := slices_AppendSeq_Range_c9) rfl ?_
  refine regI hl (Eq.mpr (slices_AppendSeq_Range_g16_e _ (fun i => l.getD i undef) _) h) ?_
  clear h hl
  intro l H hl h
  refine blkN ?_
  exact h
def slices_AppendSeq_Range_g18 (S : Value → Value → Heap → Prop) (x2 x7 : Value) (H : Heap) : Prop :=
  newE 45 #[(.int .i64 0), (.int .i64 0)] H fun v5 H1 =>
  bnd (stE 2 v5 x7 H1) fun H2 =>
  S x2 v5 H2
theorem slices_AppendSeq_Range_g18_e (S : Value → Value → Heap → Prop) (x : Nat → Value) (H : Heap) : wpE tab P slices_AppendSeq_Range_pi slices_AppendSeq_Range_c8 (nQ fun l H => S (l.getD 2 undef) (l.getD 5 undef) H) ((List.range 13).map x) H = slices_AppendSeq_Range_g18 S (x 2) (x 7) H := by kernel_rfl
def slices_AppendSeq_Range_r (lp : Nat) (r : Loop) (R : Value → Heap → Prop) (x2 x7 : Value) (H : Heap) : Prop :=
  slices_AppendSeq_Range_g18 (fun x2 x5 H => (H.arr[lp]? = some (.loop r) ∧
  slices_AppendSeq_Range_s15 x2 x5 lp r R (setO H lp (.loop (busy r))))) x2 x7 H
theorem slices_AppendSeq_Range_ri (lp : Nat) (r : Loop) (R : Value → Heap → Prop) (l : List Value) (H : Heap) (hl : l.length = 13) (h : slices_AppendSeq_Range_r lp r R (l.getD 2 undef) (l.getD 7 undef) H) : wpE tab P slices_AppendSeq_Range_pi slices_AppendSeq_Range_c8 (nQ fun l H => H.arr[lp]? = some (.loop r) ∧ wpE tab P slices_AppendSeq_Range_pi slices_AppendSeq_Range_c9 (nQ fun _ H2 => H2.arr[lp]? = some (.loop (busy r)) ∧ R (.bool true) (setO H2 lp (.loop r))) l (setO H lp (.loop (busy r)))) l H := by
  refine regI hl (Eq.mpr (slices_AppendSeq_Range_g18_e _ (fun i => l.getD i undef) _) h) ?_
  clear h hl
  intro l H hl h
  exact ⟨h.1, slices_AppendSeq_Range_s15_i lp r R l _ hl h.2⟩
theorem slices_AppendSeq_Range_y (fn : FuncId) (d : Nat) (l : List Value) (hl : l.length = 13) (lp : Nat) (v7 : Value) (K : Heap) (R : Value → Heap → Prop) (hK : K.arr[lp]? = some (.loop (slices_AppendSeq_Range_L fn l d))) (h : slices_AppendSeq_Range_r lp (slices_AppendSeq_Range_L fn l d) R (l.getD 2 undef) v7 K) : EvY P lp #[v7] K R := by
  refine EvY_intro (t := (l.set 7 v7)) tab_ok mixed hK rfl rfl rfl (by simp [slices_AppendSeq_Range_L, mkL]) ⟨okCode_of _ (show okB slices_AppendSeq_Range_pi slices_AppendSeq_Range_c8 = true by kernel_rfl), okCode_of _ (show okB slices_AppendSeq_Range_pi slices_AppendSeq_Range_c9 = true by kernel_rfl)⟩ ?_
  have e2 : (l.set 7 v7).getD 2 undef = l.getD 2 undef := by simp [hl]
  have e7 : (l.set 7 v7).getD 7 undef = v7 := by simp [hl]
  exact slices_AppendSeq_Range_ri lp (slices_AppendSeq_Range_L fn l d) R (l.set 7 v7) K (by simp [hl]) (by rw [e2, e7]; exact h)
def slices_AppendSeq_Range_g19 (S : Value → Heap → Prop) (x2 : Value) (H : Heap) : Prop :=
  bnd (ldE false 1 x2 H) fun v12 =>
  S v12 H
theorem slices_AppendSeq_Range_g19_e (S : Value → Heap → Prop) (x : Nat → Value) (H : Heap) : wpE tab P slices_AppendSeq_Range_pi slices_AppendSeq_Range_c12 (nQ fun l H => S (l.getD 4 undef) H) ((List.range 13).map x) H = slices_AppendSeq_Range_g19 S (x 2) H := by kernel_rfl
def slices_AppendSeq_Range (x0 x1 : Value) (R : Value → Heap → Prop) (H : Heap) : Prop :=
  slices_AppendSeq_Range_g13 (fun x1 x2 H => slices_AppendSeq_Range_g14 (fun x2 x6 H => (∀ (fn : FuncId) (l : List Value), l.length = 13 → l.getD 2 undef = x2 → callL P x6 [.func (.yield (H.size + 1)) #[] #[]] (pushO (pushO H (.deferred (some []))) (.loop (slices_AppendSeq_Range_L fn l H.size))) fun _ H2 =>
  H2.arr[H.size + 1]? = some (.loop (slices_AppendSeq_Range_L fn l H.size)) ∧
  (fun (m : Nat) (H : Heap) =>
  slices_AppendSeq_Range_g19 (fun x4 H => (H.arr[m]? = some (.deferred (some [])) ∧ (fun H : Heap =>
  R x4 H) (setO H m (.deferred none)))) x2 H) H.size (setO H2 (H.size + 1) (.loop (done (slices_AppendSeq_Range_L fn l H.size)))))) x1 x2 H) x0 x1 H
theorem slices_AppendSeq_Range_i (R : Value → Heap → Prop) (x0 x1 : Value) (H : Heap) (h : slices_AppendSeq_Range x0 x1 R H) : wpR tab P slices_AppendSeq_Range_pi slices_AppendSeq_Range_c1 (retQ tab slices_AppendSeq_Range_rs R) (retQM tab slices_AppendSeq_Range_rs R) [x0, x1, undef, undef, undef, undef, undef, undef, undef, undef, undef, undef, undef] H := by
  obtain ⟨l, hl, el⟩ : ∃ l : List Value, l.length = 13 ∧ l = [x0, x1, undef, undef, undef, undef, undef, undef, undef, undef, undef, undef, undef] := ⟨_, rfl, rfl⟩
  rw [← el]
  have h : (fun (x0 x1 : Value) => slices_AppendSeq_Range_g13 (fun x1 x2 H => slices_AppendSeq_Range_g14 (fun x2 x6 H => (∀ (fn : FuncId) (l : List Value), l.length = 13 → l.getD 2 undef = x2 → callL P x6 [.func (.yield (H.size + 1)) #[] #[]] (pushO (pushO H (.deferred (some []))) (.loop (slices_AppendSeq_Range_L fn l H.size))) fun _ H2 =>
H2.arr[H.size + 1]? = some (.loop (slices_AppendSeq_Range_L fn l H.size)) ∧
(fun (m : Nat) (H : Heap) =>
slices_AppendSeq_Range_g19 (fun x4 H => (H.arr[m]? = some (.deferred (some [])) ∧ (fun H : Heap =>
R x4 H) (setO H m (.deferred none)))) x2 H) H.size (setO H2 (H.size + 1) (.loop (done (slices_AppendSeq_Range_L fn l H.size)))))) x1 x2 H) x0 x1 H) (l.getD 0 undef) (l.getD 1 undef) := by rw [el]; exact h
  clear el
  refine seqR (c := slices_AppendSeq_Range_c1) rfl ?_
  refine wpR_of _ hl ?_
  refine regI hl (Eq.mpr (slices_AppendSeq_Range_g13_e _ (fun i => l.getD i undef) _) h) ?_
  clear h hl
  intro l H hl h
  refine thenN ?_
  refine seqR (c := slices_AppendSeq_Range_c3) rfl ?_
  refine seqR (c := slices_AppendSeq_Range_c4) rfl ?_
  refine wpR_of _ hl ?_
  refine regI hl (Eq.mpr (slices_AppendSeq_Range_g14_e _ (fun i => l.getD i undef) _) h) ?_
  clear h hl
  intro l H hl h
  refine thenN ?_
  refine blockR (c := slices_AppendSeq_Range_c6) rfl ?_
  refine rangeR (c := slices_AppendSeq_Range_c7) rfl ?_
  intro fn
  have h := h fn l hl rfl
  refine callL_mono (fun _ H2 h => ?_) h
  refine ⟨h.1, ?_⟩
  have h := h.2
  refine blkN ?_
  refine thenN ?_
  refine seqI (c := slices_AppendSeq_Range_c11) rfl ?_
  refine regI hl (Eq.mpr (slices_AppendSeq_Range_g19_e _ (fun i => l.getD i undef) _) h) ?_
  clear h hl
  intro l H hl h
  refine thenN ?_
  refine retI rfl ?_
  exact h
theorem slices_AppendSeq_Range_ok : okBR slices_AppendSeq_Range_pi slices_AppendSeq_Range_c1 = true := by kernel_rfl
theorem slices_AppendSeq_Range_ev0 (x0 x1 : Value) (R : Value → Heap → Prop) (H : Heap) (h : slices_AppendSeq_Range x0 x1 R H) : EvL P N.slices_AppendSeq_Range #[x0, x1] H R :=
  EvR_intro (args := [x0, x1]) (k := 11) (rs := slices_AppendSeq_Range_rs) tab_ok mixed Try.func78 (show Try.f78.body = some slices_AppendSeq_Range_c1 by kernel_rfl) Try.call78 Try.ntmps78 (by kernel_rfl) (okCodeR_of _ slices_AppendSeq_Range_ok) rfl (slices_AppendSeq_Range_i R x0 x1 H h)
theorem slices_AppendSeq_Range_ev (x0 x1 : Value) (R : Value → Heap → Prop) (H : Heap) (h : slices_AppendSeq_Range x0 x1 R H) : EvF P N.slices_AppendSeq_Range #[x0, x1] H R := .inl (slices_AppendSeq_Range_ev0 x0 x1 R H h)
/- 79: (*sounder/span.Set).falling$1 -/
def span_Set_falling_1_rs : List ResultVar := []
noncomputable def span_Set_falling_1_c2 : Code := subC (bodyC Try.f79) [0]
noncomputable def span_Set_falling_1_c7 : Code := subC (bodyC Try.f79) [1, 0, 0, 0, 0]
noncomputable def span_Set_falling_1_c9 : Code := .exit 0
noncomputable def span_Set_falling_1_c8 : Code := .cond (.tmp 22) Code.skip span_Set_falling_1_c9
noncomputable def span_Set_falling_1_c6 : Code := .seq span_Set_falling_1_c7 span_Set_falling_1_c8
noncomputable def span_Set_falling_1_c11 : Code := .block 1 Code.skip
noncomputable def span_Set_falling_1_c12 : Code := subC (bodyC Try.f79) [1, 0, 0, 1, 1]
noncomputable def span_Set_falling_1_c10 : Code := .seq span_Set_falling_1_c11 span_Set_falling_1_c12
noncomputable def span_Set_falling_1_c5 : Code := .seq span_Set_falling_1_c6 span_Set_falling_1_c10
noncomputable def span_Set_falling_1_c4 : Code := .loop span_Set_falling_1_c5
noncomputable def span_Set_falling_1_c3 : Code := .block 0 span_Set_falling_1_c4
noncomputable def span_Set_falling_1_c1 : Code := .seq span_Set_falling_1_c2 span_Set_falling_1_c3
def span_Set_falling_1_pi (_ : Nat) : Pl := .nil
def span_Set_falling_1_g13 (S : Value → Value → Value → Heap → Prop) (x0 x1 : Value) (H : Heap) : Prop :=
  bnd (ldE false 1 x1 H) fun v4 =>
  bnd (nilV v4) fun v5 =>
  bnd (faV 1 v5) fun v6 =>
  bnd (ldE false 1 v6 H) fun v7 =>
  bnd (lenV v7) fun v8 =>
  bnd (binV .int .sub v8 (.int .i64 1)) fun v9 =>
  S x0 x1 v9 H
theorem span_Set_falling_1_g13_e (S : Value → Value → Value → Heap → Prop) (x : Nat → Value) (H : Heap) : wpE tab P span_Set_falling_1_pi span_Set_falling_1_c2 (nQ fun l H => S (l.getD 0 undef) (l.getD 1 undef) (l.getD 3 undef) H) ((List.range 25).map x) H = span_Set_falling_1_g13 S (x 0) (x 1) H := by kernel_rfl
def span_Set_falling_1_g15 (S : Value → Value → Value → Value → Heap → Prop) (x0 x1 x3 : Value) (H : Heap) : Prop :=
  bnd (binV .int .geq x3 (.int .i64 0)) fun v11 =>
  brV v11
  (bnd (ldE false 1 x1 H) fun v14 =>
  bnd (nilV v14) fun v15 =>
  bnd (faV 1 v15) fun v16 =>
  bnd (ldE false 1 v16 H) fun v17 =>
  bnd (ixSV 2 v17 x3) fun v19 =>
  bnd (ldE true 2 v19 H) fun v20 =>
  callV P x0 [v20] H fun v21 H1 =>
  S x0 x1 x3 v21 H1)
  (S x0 x1 x3 (.bool false) H)
theorem span_Set_falling_1_g15_e (S : Value → Value → Value → Value → Heap → Prop) (x : Nat → Value) (H : Heap) : wpE tab P span_Set_falling_1_pi span_Set_falling_1_c7 (nQ fun l H => S (l.getD 0 undef) (l.getD 1 undef) (l.getD 3 undef) (l.getD 22 undef) H) ((List.range 25).map x) H = span_Set_falling_1_g15 S (x 0) (x 1) (x 3) H := by kernel_rfl
def span_Set_falling_1_g16 (S : Value → Value → Value → Heap → Prop) (x0 x1 x3 : Value) (H : Heap) : Prop :=
  bnd (binV .int .sub x3 (.int .i64 1)) fun v24 =>
  S x0 x1 v24 H
theorem span_Set_falling_1_g16_e (S : Value → Value → Value → Heap → Prop) (x : Nat → Value) (H : Heap) : wpE tab P span_Set_falling_1_pi span_Set_falling_1_c12 (nQ fun l H => S (l.getD 0 undef) (l.getD 1 undef) (l.getD 3 undef) H) ((List.range 25).map x) H = span_Set_falling_1_g16 S (x 0) (x 1) (x 3) H := by kernel_rfl
def span_Set_falling_1_s14 (x0 x1 x3 : Value) (K1 : Value → Value → Value →  Heap → Prop) (R : Value → Heap → Prop) (H : Heap) : Prop :=
  span_Set_falling_1_g15 (fun x0 x1 x3 x22 H => brV x22
  (span_Set_falling_1_g16 (fun x0 x1 x3 H => K1 x0 x1 x3 H) x0 x1 x3 H)
  (R (.tuple #[]) H)) x0 x1 x3 H
noncomputable def span_Set_falling_1_q17 (R : Value → Heap → Prop) : Exit → List Value → Heap → Prop := (retQ tab span_Set_falling_1_rs R)
noncomputable def span_Set_falling_1_q18 (R : Value → Heap → Prop) : Exit → List Value → Heap → Prop := (blkE 0 (span_Set_falling_1_q17 R))
noncomputable def span_Set_falling_1_q19 (K1 : Value → Value → Value →  Heap → Prop) (R : Value → Heap → Prop) : Exit → List Value → Heap → Prop := (thenE (fun l H => K1 (l.getD 0 undef) (l.getD 1 undef) (l.getD 3 undef) H) (span_Set_falling_1_q18 R))
theorem span_Set_falling_1_s14_i (K1 : Value → Value → Value →  Heap → Prop) (R : Value → Heap → Prop) (l : List Value) (H : Heap) (hl : l.length = 25) (h : span_Set_falling_1_s14 (l.getD 0 undef) (l.getD 1 undef) (l.getD 3 undef) K1 R H) : wpE tab P span_Set_falling_1_pi span_Set_falling_1_c5 (span_Set_falling_1_q19 K1 R) l H := by
  refine seqI (c := span_Set_falling_1_c5) rfl ?_
  refine seqI (c := span_Set_falling_1_c6) rfl ?_
  refine regI hl (Eq.mpr (span_Set_falling_1_g15_e _ (fun i => l.getD i undef) _) h) ?_
  clear h hl
  intro l H hl h
  refine thenN ?_
  refine condI (c := span_Set_falling_1_c8) rfl h ?_ ?_
  · clear h; intro h
    refine skipI rfl ?_
    refine thenN ?_
    refine seqI (c := span_Set_falling_1_c10) rfl ?_
    refine blockI (c := span_Set_falling_1_c11) rfl ?_
    refine skipI rfl ?_
    refine blkN ?_
    refine thenN ?_
    refine regI hl (Eq.mpr (span_Set_falling_1_g16_e _ (fun i => l.getD i undef) _) h) ?_
    clear h hl
    intro l H hl h
    refine thenN ?_
    exact h
  · clear h; intro h
    refine exitI (c := span_Set_falling_1_c9) rfl ?_
    refine thenX ?_
    refine thenX ?_
    refine blkX ?_
    exact h
def span_Set_falling_1_l20 (x0 x1 x3 : Value) (R : Value → Heap → Prop) (H : Heap) : Prop :=
  ∃ (I : Value → Heap → Prop) (μ : Value → Heap → Nat), I x3 H ∧ ∀ (y3 : Value) (H : Heap), I y3 H → span_Set_falling_1_s14 x0 x1 y3 (fun z0 z1 z3 H' => z0 = x0 ∧ z1 = x1 ∧ (I z3 H' ∧ μ z3 H' < μ y3 H)) R H
def span_Set_falling_1 (x0 x1 : Value) (R : Value → Heap → Prop) (H : Heap) : Prop :=
  span_Set_falling_1_g13 (fun x0 x1 x3 H => span_Set_falling_1_l20 x0 x1 x3 R H) x0 x1 H
theorem span_Set_falling_1_i (R : Value → Heap → Prop) (x0 x1 : Value) (H : Heap) (h : span_Set_falling_1 x0 x1 R H) : wpE tab P span_Set_falling_1_pi span_Set_falling_1_c1 (retQ tab span_Set_falling_1_rs R) [x0, x1, undef, undef, undef, undef, undef, undef, undef, undef, undef, undef, undef, undef, undef, undef, undef, undef, undef, undef, undef, undef, undef, undef, undef] H := by
  obtain ⟨l, hl, el⟩ : ∃ l : List Value, l.length = 25 ∧ l = [x0, x1, undef, undef, undef, undef, undef, undef, undef, undef, undef, undef, undef, undef, undef, undef, undef, undef, undef, undef, undef, undef, undef, undef, undef] := ⟨_, rfl, rfl⟩
  rw [← el]
  have h : (fun (x0 x1 : Value) => span_Set_falling_1_g13 (fun x0 x1 x3 H => span_Set_falling_1_l20 x0 x1 x3 R H) x0 x1 H) (l.getD 0 undef) (l.getD 1 undef) := by rw [el]; exact h
  clear el
  refine seqI (c := span_Set_falling_1_c1) rfl ?_
  refine regI hl (Eq.mpr (span_Set_falling_1_g13_e _ (fun i => l.getD i undef) _) h) ?_
  clear h hl
  intro l H hl h
  refine thenN ?_
  refine blockI (c := span_Set_falling_1_c3) rfl ?_
  obtain ⟨I, μ, h0, hr⟩ := h
  refine loopI (c := span_Set_falling_1_c4) rfl (fun l' H' => l'.getD 0 undef = l.getD 0 undef ∧ l'.getD 1 undef = l.getD 1 undef ∧ I (l'.getD 3 undef) H') (fun l' H' => μ (l'.getD 3 undef) H') hl ⟨rfl, rfl, h0⟩ ?_
  rintro l1 H1 hl1 ⟨e0, e1, hI⟩
  have hb := hr (l1.getD 3 undef) H1 hI
  rw [← e0, ← e1] at hb
  refine wpE_mono _ l1 H1 hl1 ?_ (span_Set_falling_1_s14_i _ R l1 H1 hl1 hb)
  intro e l2 H2 hl2 hq
  cases e with
  | normal => exact fun _ => (by obtain ⟨d0, d1, g1, g2⟩ := hq; exact ⟨⟨d0.trans e0, d1.trans e1, g1⟩, g2⟩)
  | _ => exact hq
theorem span_Set_falling_1_ok : okB span_Set_falling_1_pi span_Set_falling_1_c1 = true := by kernel_rfl
theorem span_Set_falling_1_ev0 (x0 x1 : Value) (R : Value → Heap → Prop) (H : Heap) (h : span_Set_falling_1 x0 x1 R H) : EvL P N.span_Set_falling_1 #[x0, x1] H R :=
  EvF_intro (args := [x0, x1]) (k := 23) (rs := span_Set_falling_1_rs) tab_ok mixed Try.func79 (show Try.f79.body = some span_Set_falling_1_c1 by kernel_rfl) Try.call79 Try.ntmps79 (by kernel_rfl) (okCode_of _ span_Set_falling_1_ok) rfl (span_Set_falling_1_i R x0 x1 H h)
theorem span_Set_falling_1_ev (x0 x1 : Value) (R : Value → Heap → Prop) (H : Heap) (h : span_Set_falling_1 x0 x1 R H) : EvF P N.span_Set_falling_1 #[x0, x1] H R := .inl (span_Set_falling_1_ev0 x0 x1 R H h)
/- 80: slices.Reverse[[]sounder/api.Range,sounder/api.Range] -/
def slices_Reverse_Range_rs : List ResultVar := []
noncomputable def slices_Reverse_Range_c2 : Code := subC (bodyC Try.f80) [0]
noncomputable def slices_Reverse_Range_c7 : Code := subC (bodyC Try.f80) [1, 0, 0, 0, 0]
noncomputable def slices_Reverse_Range_c9 : Code := .exit 0
noncomputable def slices_Reverse_Range_c8 : Code := .cond (.tmp 9) Code.skip slices_Reverse_Range_c9
noncomputable def slices_Reverse_Range_c6 : Code := .seq slices_Reverse_Range_c7 slices_Reverse_Range_c8
noncomputable def slices_Reverse_Range_c12 : Code := subC (bodyC Try.f80) [1, 0, 0, 1, 0, 0]
noncomputable def slices_Reverse_Range_c11 : Code := .block 1 slices_Reverse_Range_c12
noncomputable def slices_Reverse_Range_c13 : Code := subC (bodyC Try.f80) [1, 0, 0, 1, 1]
noncomputable def slices_Reverse_Range_c10 : Code := .seq slices_Reverse_Range_c11 slices_Reverse_Range_c13
noncomputable def slices_Reverse_Range_c5 : Code := .seq slices_Reverse_Range_c6 slices_Reverse_Range_c10
noncomputable def slices_Reverse_Range_c4 : Code := .loop slices_Reverse_Range_c5
noncomputable def slices_Reverse_Range_c3 : Code := .block 0 slices_Reverse_Range_c4
noncomputable def slices_Reverse_Range_c1 : Code := .seq slices_Reverse_Range_c2 slices_Reverse_Range_c3
def slices_Reverse_Range_pi (i : Nat) : Pl := match i with
  | 3 => (ones [0, 1, 2, 3, 4, 5, 6, 7, 8, 9, 10, 11, 12, 13, 14, 15] .nil)
  | _ => .nil
def slices_Reverse_Range_g14 (S : Value → Value → Value → Heap → Prop) (x0 : Value) (H : Heap) : Prop :=
  bnd (lenV x0) fun v5 =>
  bnd (binV .int .sub v5 (.int .i64 1)) fun v6 =>
  S x0 (.int .i64 0) v6 H
theorem slices_Reverse_Range_g14_e (S : Value → Value → Value → Heap → Prop) (x : Nat → Value) (H : Heap) : wpE tab P slices_Reverse_Range_pi slices_Reverse_Range_c2 (nQ fun l H => S (l.getD 0 undef) (l.getD 2 undef) (l.getD 3 undef) H) ((List.range 28).map x) H = slices_Reverse_Range_g14 S (x 0) H := by kernel_rfl
def slices_Reverse_Range_g16 (S : Value → Value → Value → Value → Heap → Prop) (x0 x2 x3 : Value) (H : Heap) : Prop :=
  bnd (binV .int .lss x2 x3) fun v9 =>
  S x0 x2 x3 v9 H
theorem slices_Reverse_Range_g16_e (S : Value → Value → Value → Value → Heap → Prop) (x : Nat → Value) (H : Heap) : wpE tab P slices_Reverse_Range_pi slices_Reverse_Range_c7 (nQ fun l H => S (l.getD 0 undef) (l.getD 2 undef) (l.getD 3 undef) (l.getD 9 undef) H) ((List.range 28).map x) H = slices_Reverse_Range_g16 S (x 0) (x 2) (x 3) H := by kernel_rfl
def slices_Reverse_Range_g17 (S : Value → Value → Value → Heap → Prop) (x0 x2 x3 : Value) (H : Heap) : Prop :=
  bnd (ixSV 2 x0 x3) fun v20 =>
  bnd (ldE true 2 v20 H) fun v21 =>
  bnd (ixSV 2 x0 x2) fun v24 =>
  bnd (ldE true 2 v24 H) fun v25 =>
  bnd (ixSV 2 x0 x2) fun v26 =>
  bnd (stE 2 v26 v21 H) fun H1 =>
  bnd (ixSV 2 x0 x3) fun v27 =>
  bnd (stE 2 v27 v25 H1) fun H2 =>
  S x0 x2 x3 H2
theorem slices_Reverse_Range_g17_e (S : Value → Value → Value → Heap → Prop) (x : Nat → Value) (H : Heap) : wpE tab P slices_Reverse_Range_pi slices_Reverse_Range_c12 (nQ fun l H => S (l.getD 0 undef) (l.getD 2 undef) (l.getD 3 undef) H) ((List.range 28).map x) H = slices_Reverse_Range_g17 S (x 0) (x 2) (x 3) H := by kernel_rfl
def slices_Reverse_Range_g18 (S : Value → Value → Value → Heap → Prop) (x0 x2 x3 : Value) (H : Heap) : Prop :=
  bnd (binV .int .add x2 (.int .i64 1)) fun v11 =>
  bnd (binV .int .sub x3 (.int .i64 1)) fun v13 =>
  S x0 v11 v13 H
theorem slices_Reverse_Range_g18_e (S : Value → Value → Value → Heap → Prop) (x : Nat → Value) (H : Heap) : wpE tab P slices_Reverse_Range_pi slices_Reverse_Range_c13 (nQ fun l H => S (l.getD 0 undef) (l.getD 2 undef) (l.getD 3 undef) H) ((List.range 28).map x) H = slices_Reverse_Range_g18 S (x 0) (x 2) (x 3) H := by kernel_rfl
def slices_Reverse_Range_s15 (x0 x2 x3 : Value) (K1 : Value → Value → Value →  Heap → Prop) (R : Value → Heap → Prop) (H : Heap) : Prop :=
  slices_Reverse_Range_g16 (fun x0 x2 x3 x9 H => brV x9
  (slices_Reverse_Range_g17 (fun x0 x2 x3 H => slices_Reverse_Range_g18 (fun x0 x2 x3 H => K1 x0 x2 x3 H) x0 x2 x3 H) x0 x2 x3 H)
  (R (.tuple #[]) H)) x0 x2 x3 H
noncomputable def slices_Reverse_Range_q19 (R : Value → Heap → Prop) : Exit → List Value → Heap → Prop := (retQ tab slices_Reverse_Range_rs R)
noncomputable def slices_Reverse_Range_q20 (R : Value → Heap → Prop) : Exit → List Value → Heap → Prop := (blkE 0 (slices_Reverse_Range_q19 R))
noncomputable def slices_Reverse_Range_q21 (K1 : Value → Value → Value →  Heap → Prop) (R : Value → Heap → Prop) : Exit → List Value → Heap → Prop := (thenE (fun l H => K1 (l.getD 0 undef) (l.getD 2 undef) (l.getD 3 undef) H) (slices_Reverse_Range_q20 R))
theorem slices_Reverse_Range_s15_i (K1 : Value → Value → Value →  Heap → Prop) (R : Value → Heap → Prop) (l : List Value) (H : Heap) (hl : l.length = 28) (h : slices_Reverse_Range_s15 (l.getD 0 undef) (l.getD 2 undef) (l.getD 3 undef) K1 R H) : wpE tab P slices_Reverse_Range_pi slices_Reverse_Range_c5 (slices_Reverse_Range_q21 K1 R) l H := by
  refine seqI (c := slices_Reverse_Range_c5) rfl ?_
  refine seqI (c := slices_Reverse_Range_c6) rfl ?_
  refine regI hl (Eq.mpr (slices_Reverse_Range_g16_e _ (fun i => l.getD i undef) _) h) ?_
  clear h hl
  intro l H hl h
  refine thenN ?_
  refine condI (c := slices_Reverse_Range_c8) rfl h ?_ ?_
  · clear h; intro h
    refine skipI rfl ?_
    refine thenN ?_
    refine seqI (c := slices_Reverse_Range_c10) rfl ?_
    refine blockI (c := slices_Reverse_Range_c11) rfl ?_
    refine regI hl (Eq.mpr (slices_Reverse_Range_g17_e _ (fun i => l.getD i undef) _) h) ?_
    clear h hl
    intro l H hl h
    refine blkN ?_
    refine thenN ?_
    refine regI hl (Eq.mpr (slices_Reverse_Range_g18_e _ (fun i => l.getD i undef) _) h) ?_
    clear h hl
    intro l H hl h
    refine thenN ?_
    exact h
  · clear h; intro h
    refine exitI (c := slices_Reverse_Range_c9) rfl ?_
    refine thenX ?_
    refine thenX ?_
    refine blkX ?_
    exact h
def slices_Reverse_Range_l22 (x0 x2 x3 : Value) (R : Value → Heap → Prop) (H : Heap) : Prop :=
  ∃ (I : Value → Value → Heap → Prop) (μ : Value → Value → Heap → Nat), I x2 x3 H ∧ ∀ (y2 : Value) (y3 : Value) (H : Heap), I y2 y3 H → slices_Reverse_Range_s15 x0 y2 y3 (fun z0 z2 z3 H' => z0 = x0 ∧ (I z2 z3 H' ∧ μ z2 z3 H' < μ y2 y3 H)) R H
def slices_Reverse_Range (x0 : Value) (R : Value → Heap → Prop) (H : Heap) : Prop :=
  slices_Reverse_Range_g14 (fun x0 x2 x3 H => slices_Reverse_Range_l22 x0 x2 x3 R H) x0 H
theorem slices_Reverse_Range_i (R : Value → Heap → Prop) (x0 : Value) (H : Heap) (h : slices_Reverse_Range x0 R H) : wpE tab P slices_Reverse_Range_pi slices_Reverse_Range_c1 (retQ tab slices_Reverse_Range_rs R) [x0, undef, undef, undef, undef, undef, undef, undef, undef, undef, undef, undef, undef, undef, undef, undef, undef, undef, undef, undef, undef, undef, undef, undef, undef, undef, undef, undef] H := by
  obtain ⟨l, hl, el⟩ : ∃ l : List Value, l.length = 28 ∧ l = [x0, undef, undef, undef, undef, undef, undef, undef, undef, undef, undef, undef, undef, undef, undef, undef, undef, undef, undef, undef, undef, undef, undef, undef, undef, undef, undef, undef] := ⟨_, rfl, rfl⟩
  rw [← el]
  have h : (fun (x0 : Value) => slices_Reverse_Range_g14 (fun x0 x2 x3 H => slices_Reverse_Range_l22 x0 x2 x3 R H) x0 H) (l.getD 0 undef) := by rw [el]; exact h
  clear el
  refine seqI (c := slices_Reverse_Range_c1) rfl ?_
  refine regI hl (Eq.mpr (slices_Reverse_Range_g14_e _ (fun i => l.getD i undef) _) h) ?_
  clear h hl
  intro l H hl h
  refine thenN ?_
  refine blockI (c := slices_Reverse_Range_c3) rfl ?_
  obtain ⟨I, μ, h0, hr⟩ := h
  refine loopI (c := slices_Reverse_Range_c4) rfl (fun l' H' => l'.getD 0 undef = l.getD 0 undef ∧ I (l'.getD 2 undef) (l'.getD 3 undef) H') (fun l' H' => μ (l'.getD 2 undef) (l'.getD 3 undef) H') hl ⟨rfl, h0⟩ ?_
  rintro l1 H1 hl1 ⟨e0, hI⟩
  have hb := hr (l1.getD 2 undef) (l1.getD 3 undef) H1 hI
  rw [← e0] at hb
  refine wpE_mono _ l1 H1 hl1 ?_ (slices_Reverse_Range_s15_i _ R l1 H1 hl1 hb)
  intro e l2 H2 hl2 hq
  cases e with
  | normal => exact fun _ => (by obtain ⟨d0, g1, g2⟩ := hq; exact ⟨⟨d0.trans e0, g1⟩, g2⟩)
  | _ => exact hq
theorem slices_Reverse_Range_ok : okB slices_Reverse_Range_pi slices_Reverse_Range_c1 = true := by kernel_rfl
theorem slices_Reverse_Range_ev0 (x0 : Value) (R : Value → Heap → Prop) (H : Heap) (h : slices_Reverse_Range x0 R H) : EvL P N.slices_Reverse_Range #[x0] H R :=
  EvF_intro (args := [x0]) (k := 27) (rs := slices_Reverse_Range_rs) tab_ok mixed Try.func80 (show Try.f80.body = some slices_Reverse_Range_c1 by kernel_rfl) Try.call80 Try.ntmps80 (by kernel_rfl) (okCode_of _ slices_Reverse_Range_ok) rfl (slices_Reverse_Range_i R x0 H h)
theorem slices_Reverse_Range_ev (x0 : Value) (R : Value → Heap → Prop) (H : Heap) (h : slices_Reverse_Range x0 R H) : EvF P N.slices_Reverse_Range #[x0] H R := .inl (slices_Reverse_Range_ev0 x0 R H h)
end Go.Hc
