/- Functions, printed by gen.py. -/
import Derived.Test.YtchdnhbkjfdnmaaT
set_option linter.unusedSimpArgs false
set_option linter.unusedVariables false
set_option maxRecDepth 100000
namespace Go.Hc
open Go Go.Proofs
/- 48: (*sounder/sounderref06.Log).Get -/
def sounderref06_Log_Get_rs : List ResultVar := [.cell 4 30, .tmp 5]
noncomputable def sounderref06_Log_Get_c2 : Code := subC (bodyC Try.f48) [0]
noncomputable def sounderref06_Log_Get_c5 : Code := subC (bodyC Try.f48) [1, 0, 0]
noncomputable def sounderref06_Log_Get_c10 : Code := subC (bodyC Try.f48) [1, 0, 1, 0, 0, 0, 0]
noncomputable def sounderref06_Log_Get_c12 : Code := .exit 0
noncomputable def sounderref06_Log_Get_c11 : Code := .cond (.tmp 13) Code.skip sounderref06_Log_Get_c12
noncomputable def sounderref06_Log_Get_c9 : Code := .seq sounderref06_Log_Get_c10 sounderref06_Log_Get_c11
noncomputable def sounderref06_Log_Get_c16 : Code := subC (bodyC Try.f48) [1, 0, 1, 0, 0, 1, 0, 0, 0]
noncomputable def sounderref06_Log_Get_c19 : Code := subC (bodyC Try.f48) [1, 0, 1, 0, 0, 1, 0, 0, 1, 0, 0]
noncomputable def sounderref06_Log_Get_c18 : Code := .seq sounderref06_Log_Get_c19 Code.ret
noncomputable def sounderref06_Log_Get_c17 : Code := .cond (.tmp 25) sounderref06_Log_Get_c18 Code.skip
noncomputable def sounderref06_Log_Get_c15 : Code := .seq sounderref06_Log_Get_c16 sounderref06_Log_Get_c17
noncomputable def sounderref06_Log_Get_c14 : Code := .block 1 sounderref06_Log_Get_c15
noncomputable def sounderref06_Log_Get_c20 : Code := subC (bodyC Try.f48) [1, 0, 1, 0, 0, 1, 1]
noncomputable def sounderref06_Log_Get_c13 : Code := .seq sounderref06_Log_Get_c14 sounderref06_Log_Get_c20
noncomputable def sounderref06_Log_Get_c8 : Code := .seq sounderref06_Log_Get_c9 sounderref06_Log_Get_c13
noncomputable def sounderref06_Log_Get_c7 : Code := .loop sounderref06_Log_Get_c8
noncomputable def sounderref06_Log_Get_c6 : Code := .block 0 sounderref06_Log_Get_c7
noncomputable def sounderref06_Log_Get_c4 : Code := .seq sounderref06_Log_Get_c5 sounderref06_Log_Get_c6
noncomputable def sounderref06_Log_Get_c22 : Code := subC (bodyC Try.f48) [1, 1, 0]
noncomputable def sounderref06_Log_Get_c21 : Code := .seq sounderref06_Log_Get_c22 Code.ret
noncomputable def sounderref06_Log_Get_c3 : Code := .seq sounderref06_Log_Get_c4 sounderref06_Log_Get_c21
noncomputable def sounderref06_Log_Get_c1 : Code := .seq sounderref06_Log_Get_c2 sounderref06_Log_Get_c3
def sounderref06_Log_Get_pi (_ : Nat) : Pl := .nil
def sounderref06_Log_Get_g23 (S : Value → Value → Value → Heap → Prop) (x0 x1 : Value) (H : Heap) : Prop :=
  newE 30 #[(.int .i64 0), (.int .i64 0), (.int .i64 0), (.bool false), (.bool false), (.bool false)] H fun v4 H1 =>
  S x0 x1 v4 H1
theorem sounderref06_Log_Get_g23_e (S : Value → Value → Value → Heap → Prop) (x : Nat → Value) (H : Heap) : wpE tab P sounderref06_Log_Get_pi sounderref06_Log_Get_c2 (nQ fun l H => S (l.getD 0 undef) (l.getD 1 undef) (l.getD 4 undef) H) ((List.range 34).map x) H = sounderref06_Log_Get_g23 S (x 0) (x 1) H := by kernel_rfl
def sounderref06_Log_Get_g24 (S : Value → Value → Value → Value → Heap → Prop) (x0 x1 x4 : Value) (H : Heap) : Prop :=
  S x0 x1 x4 (.int .i64 0) H
theorem sounderref06_Log_Get_g24_e (S : Value → Value → Value → Value → Heap → Prop) (x : Nat → Value) (H : Heap) : wpE tab P sounderref06_Log_Get_pi sounderref06_Log_Get_c5 (nQ fun l H => S (l.getD 0 undef) (l.getD 1 undef) (l.getD 4 undef) (l.getD 6 undef) H) ((List.range 34).map x) H = sounderref06_Log_Get_g24 S (x 0) (x 1) (x 4) H := by kernel_rfl
def sounderref06_Log_Get_g26 (S : Value → Value → Value → Value → Value → Heap → Prop) (x0 x1 x4 x6 : Value) (H : Heap) : Prop :=
  bnd (nilV x0) fun v9 =>
  bnd (faV 2 v9) fun v10 =>
  bnd (ldE false 1 v10 H) fun v11 =>
  bnd (lenV v11) fun v12 =>
  bnd (binV .int .lss x6 v12) fun v13 =>
  S x0 x1 x4 x6 v13 H
theorem sounderref06_Log_Get_g26_e (S : Value → Value → Value → Value → Value → Heap → Prop) (x : Nat → Value) (H : Heap) : wpE tab P sounderref06_Log_Get_pi sounderref06_Log_Get_c10 (nQ fun l H => S (l.getD 0 undef) (l.getD 1 undef) (l.getD 4 undef) (l.getD 6 undef) (l.getD 13 undef) H) ((List.range 34).map x) H = sounderref06_Log_Get_g26 S (x 0) (x 1) (x 4) (x 6) H := by kernel_rfl
def sounderref06_Log_Get_g27 (S : Value → Value → Value → Value → Value → Heap → Prop) (x0 x1 x4 x6 : Value) (H : Heap) : Prop :=
  bnd (nilV x0) fun v17 =>
  bnd (faV 2 v17) fun v18 =>
  bnd (ldE false 1 v18 H) fun v19 =>
  bnd (ixSV 6 v19 x6) fun v21 =>
  bnd (faV 0 v21) fun v22 =>
  bnd (ldE false 1 v22 H) fun v23 =>
  bnd (binV .int .eql v23 x1) fun v25 =>
  S x0 x1 x4 x6 v25 H
theorem sounderref06_Log_Get_g27_e (S : Value → Value → Value → Value → Value → Heap → Prop) (x : Nat → Value) (H : Heap) : wpE tab P sounderref06_Log_Get_pi sounderref06_Log_Get_c16 (nQ fun l H => S (l.getD 0 undef) (l.getD 1 undef) (l.getD 4 undef) (l.getD 6 undef) (l.getD 25 undef) H) ((List.range 34).map x) H = sounderref06_Log_Get_g27 S (x 0) (x 1) (x 4) (x 6) H := by kernel_rfl
def sounderref06_Log_Get_g28 (S : Value → Value → Heap → Prop) (x0 x4 x6 : Value) (H : Heap) : Prop :=
  bnd (nilV x0) fun v27 =>
  bnd (faV 2 v27) fun v28 =>
  bnd (ldE false 1 v28 H) fun v29 =>
  bnd (ixSV 6 v29 x6) fun v31 =>
  bnd (ldE true 6 v31 H) fun v32 =>
  bnd (stE 6 x4 v32 H) fun H1 =>
  S x4 (.bool true) H1
theorem sounderref06_Log_Get_g28_e (S : Value → Value → Heap → Prop) (x : Nat → Value) (H : Heap) : wpE tab P sounderref06_Log_Get_pi sounderref06_Log_Get_c19 (nQ fun l H => S (l.getD 4 undef) (l.getD 5 undef) H) ((List.range 34).map x) H = sounderref06_Log_Get_g28 S (x 0) (x 4) (x 6) H := by kernel_rfl
def sounderref06_Log_Get_g29 (S : Value → Value → Value → Value → Heap → Prop) (x0 x1 x4 x6 : Value) (H : Heap) : Prop :=
  bnd (binV .int .add x6 (.int .i64 1)) fun v15 =>
  S x0 x1 x4 v15 H
theorem sounderref06_Log_Get_g29_e (S : Value → Value → Value → Value → Heap → Prop) (x : Nat → Value) (H : Heap) : wpE tab P sounderref06_Log_Get_pi sounderref06_Log_Get_c20 (nQ fun l H => S (l.getD 0 undef) (l.getD 1 undef) (l.getD 4 undef) (l.getD 6 undef) H) ((List.range 34).map x) H = sounderref06_Log_Get_g29 S (x 0) (x 1) (x 4) (x 6) H := by kernel_rfl
def sounderref06_Log_Get_g30 (S : Value → Value → Heap → Prop) (x4 : Value) (H : Heap) : Prop :=
  bnd (buildV #[(.int .i64 0), (.int .i64 0), (.int .i64 0), (.bool false), (.bool false), (.bool false)] (places [(0, 1), (1, 1), (2, 1), (3, 1), (4, 1), (5, 1)]) []) fun v33 =>
  bnd (stE 6 x4 v33 H) fun H1 =>
  S x4 (.bool false) H1
theorem sounderref06_Log_Get_g30_e (S : Value → Value → Heap → Prop) (x : Nat → Value) (H : Heap) : wpE tab P sounderref06_Log_Get_pi sounderref06_Log_Get_c22 (nQ fun l H => S (l.getD 4 undef) (l.getD 5 undef) H) ((List.range 34).map x) H = sounderref06_Log_Get_g30 S (x 4) H := by kernel_rfl
def sounderref06_Log_Get_s25 (x0 x1 x4 x6 : Value) (K1 : Value → Value → Value → Value →  Heap → Prop) (R : Value → Heap → Prop) (H : Heap) : Prop :=
  sounderref06_Log_Get_g26 (fun x0 x1 x4 x6 x13 H => brV x13
  (sounderref06_Log_Get_g27 (fun x0 x1 x4 x6 x25 H => brV x25
  (sounderref06_Log_Get_g28 (fun x4 x5 H => bnd (ldE true 6 x4 H) fun r0 =>
  R (.tuple #[r0, x5]) H) x0 x4 x6 H)
  (sounderref06_Log_Get_g29 (fun x0 x1 x4 x6 H => K1 x0 x1 x4 x6 H) x0 x1 x4 x6 H)) x0 x1 x4 x6 H)
  (sounderref06_Log_Get_g30 (fun x4 x5 H => bnd (ldE true 6 x4 H) fun r0 =>
  R (.tuple #[r0, x5]) H) x4 H)) x0 x1 x4 x6 H
noncomputable def sounderref06_Log_Get_q31 (R : Value → Heap → Prop) : Exit → List Value → Heap → Prop := (retQ tab sounderref06_Log_Get_rs R)
noncomputable def sounderref06_Log_Get_q32 (R : Value → Heap → Prop) : Exit → List Value → Heap → Prop := (thenE (fun l H => wpE tab P sounderref06_Log_Get_pi sounderref06_Log_Get_c21 (sounderref06_Log_Get_q31 R) l H) (sounderref06_Log_Get_q31 R))
noncomputable def sounderref06_Log_Get_q33 (R : Value → Heap → Prop) : Exit → List Value → Heap → Prop := (blkE 0 (sounderref06_Log_Get_q32 R))
noncomputable def sounderref06_Log_Get_q34 (K1 : Value → Value → Value → Value →  Heap → Prop) (R : Value → Heap → Prop) : Exit → List Value → Heap → Prop := (thenE (fun l H => K1 (l.getD 0 undef) (l.getD 1 undef) (l.getD 4 undef) (l.getD 6 undef) H) (sounderref06_Log_Get_q33 R))
theorem sounderref06_Log_Get_s25_i (K1 : Value → Value → Value → Value →  Heap → Prop) (R : Value → Heap → Prop) (l : List Value) (H : Heap) (hl : l.length = 34) (h : sounderref06_Log_Get_s25 (l.getD 0 undef) (l.getD 1 undef) (l.getD 4 undef) (l.getD 6 undef) K1 R H) : wpE tab P sounderref06_Log_Get_pi sounderref06_Log_Get_c8 (sounderref06_Log_Get_q34 K1 R) l H := by
  refine seqI (c := sounderref06_Log_Get_c8) rfl ?_
  refine seqI (c := sounderref06_Log_Get_c9) rfl ?_
  refine regI hl (Eq.mpr (sounderref06_Log_Get_g26_e _ (fun i => l.getD i undef) _) h) ?_
  clear h hl
  intro l H hl h
  refine thenN ?_
  refine condI (c := sounderref06_Log_Get_c11) rfl h ?_ ?_
  · clear h; intro h
    refine skipI rfl ?_
    refine thenN ?_
    refine seqI (c := sounderref06_Log_Get_c13) rfl ?_
    refine blockI (c := sounderref06_Log_Get_c14) rfl ?_
    refine seqI (c := sounderref06_Log_Get_c15) rfl ?_
    refine regI hl (Eq.mpr (sounderref06_Log_Get_g27_e _ (fun i => l.getD i undef) _) h) ?_
    clear h hl
    intro l H hl h
    refine thenN ?_
    refine condI (c := sounderref06_Log_Get_c17) rfl h ?_ ?_
    · clear h; intro h
      refine seqI (c := sounderref06_Log_Get_c18) rfl ?_
      refine regI hl (Eq.mpr (sounderref06_Log_Get_g28_e _ (fun i => l.getD i undef) _) h) ?_
      clear h hl
      intro l H hl h
      refine thenN ?_
      refine retI rfl ?_
      refine blkR ?_
      refine thenR ?_
      refine thenR ?_
      refine blkR ?_
      refine thenR ?_
      exact h
    · clear h; intro h
      refine skipI rfl ?_
      refine blkN ?_
      refine thenN ?_
      refine regI hl (Eq.mpr (sounderref06_Log_Get_g29_e _ (fun i => l.getD i undef) _) h) ?_
      clear h hl
      intro l H hl h
      refine thenN ?_
      exact h
  · clear h; intro h
    refine exitI (c := sounderref06_Log_Get_c12) rfl ?_
    refine thenX ?_
    refine thenX ?_
    refine blkX ?_
    refine thenN ?_
    refine seqI (c := sounderref06_Log_Get_c21) rfl ?_
    refine regI hl (Eq.mpr (sounderref06_Log_Get_g30_e _ (fun i => l.getD i undef) _) h) ?_
    clear h hl
    intro l H hl h
    refine thenN ?_
    refine retI rfl ?_
    exact h
def sounderref06_Log_Get_l35 (x0 x1 x4 x6 : Value) (R : Value → Heap → Prop) (H : Heap) : Prop :=
  ∃ (I : Value → Heap → Prop) (μ : Value → Heap → Nat), I x6 H ∧ ∀ (y6 : Value) (H : Heap), I y6 H → sounderref06_Log_Get_s25 x0 x1 x4 y6 (fun z0 z1 z4 z6 H' => z0 = x0 ∧ z1 = x1 ∧ z4 = x4 ∧ (I z6 H' ∧ μ z6 H' < μ y6 H)) R H
def sounderref06_Log_Get (x0 x1 : Value) (R : Value → Heap → Prop) (H : Heap) : Prop :=
  sounderref06_Log_Get_g23 (fun x0 x1 x4 H => sounderref06_Log_Get_g24 (fun x0 x1 x4 x6 H => sounderref06_Log_Get_l35 x0 x1 x4 x6 R H) x0 x1 x4 H) x0 x1 H
theorem sounderref06_Log_Get_i (R : Value → Heap → Prop) (x0 x1 : Value) (H : Heap) (h : sounderref06_Log_Get x0 x1 R H) : wpE tab P sounderref06_Log_Get_pi sounderref06_Log_Get_c1 (retQ tab sounderref06_Log_Get_rs R) [x0, x1, undef, undef, undef, undef, undef, undef, undef, undef, undef, undef, undef, undef, undef, undef, undef, undef, undef, undef, undef, undef, undef, undef, undef, undef, undef, undef, undef, undef, undef, undef, undef, undef] H := by
  obtain ⟨l, hl, el⟩ : ∃ l : List Value, l.length = 34 ∧ l = [x0, x1, undef, undef, undef, undef, undef, undef, undef, undef, undef, undef, undef, undef, undef, undef, undef, undef, undef, undef, undef, undef, undef, undef, undef, undef, undef, undef, undef, undef, undef, undef, undef, undef] := ⟨_, rfl, rfl⟩
  rw [← el]
  have h : (fun (x0 x1 : Value) => sounderref06_Log_Get_g23 (fun x0 x1 x4 H => sounderref06_Log_Get_g24 (fun x0 x1 x4 x6 H => sounderref06_Log_Get_l35 x0 x1 x4 x6 R H) x0 x1 x4 H) x0 x1 H) (l.getD 0 undef) (l.getD 1 undef) := by rw [el]; exact h
  clear el
  refine seqI (c := sounderref06_Log_Get_c1) rfl ?_
  refine regI hl (Eq.mpr (sounderref06_Log_Get_g23_e _ (fun i => l.getD i undef) _) h) ?_
  clear h hl
  intro l H hl h
  refine thenN ?_
  refine seqI (c := sounderref06_Log_Get_c3) rfl ?_
  refine seqI (c := sounderref06_Log_Get_c4) rfl ?_
  refine regI hl (Eq.mpr (sounderref06_Log_Get_g24_e _ (fun i => l.getD i undef) _) h) ?_
  clear h hl
  intro l H hl h
  refine thenN ?_
  refine blockI (c := sounderref06_Log_Get_c6) rfl ?_
  obtain ⟨I, μ, h0, hr⟩ := h
  refine loopI (c := sounderref06_Log_Get_c7) rfl (fun l' H' => l'.getD 0 undef = l.getD 0 undef ∧ l'.getD 1 undef = l.getD 1 undef ∧ l'.getD 4 undef = l.getD 4 undef ∧ I (l'.getD 6 undef) H') (fun l' H' => μ (l'.getD 6 undef) H') hl ⟨rfl, rfl, rfl, h0⟩ ?_
  rintro l1 H1 hl1 ⟨e0, e1, e4, hI⟩
  have hb := hr (l1.getD 6 undef) H1 hI
  rw [← e0, ← e1, ← e4] at hb
  refine wpE_mono _ l1 H1 hl1 ?_ (sounderref06_Log_Get_s25_i _ R l1 H1 hl1 hb)
  intro e l2 H2 hl2 hq
  cases e with
  | normal => exact fun _ => (by obtain ⟨d0, d1, d4, g1, g2⟩ := hq; exact ⟨⟨d0.trans e0, d1.trans e1, d4.trans e4, g1⟩, g2⟩)
  | _ => exact hq
theorem sounderref06_Log_Get_ok : okB sounderref06_Log_Get_pi sounderref06_Log_Get_c1 = true := by kernel_rfl
theorem sounderref06_Log_Get_ev (x0 x1 : Value) (R : Value → Heap → Prop) (H : Heap) (h : sounderref06_Log_Get x0 x1 R H) : EvF P N.sounderref06_Log_Get #[x0, x1] H R :=
  EvF_intro (args := [x0, x1]) (k := 32) (rs := sounderref06_Log_Get_rs) tab_ok mixed Try.func48 (show Try.f48.body = some sounderref06_Log_Get_c1 by kernel_rfl) Try.call48 Try.ntmps48 (by kernel_rfl) (okCode_of _ sounderref06_Log_Get_ok) rfl (sounderref06_Log_Get_i R x0 x1 H h)
/- 49: slices.Clone[[]sounder/sent.slot,sounder/sent.slot] -/
def slices_Clone_slot_rs : List ResultVar := [.tmp 2]
noncomputable def slices_Clone_slot_c2 : Code := subC (bodyC Try.f49) [0]
noncomputable def slices_Clone_slot_c5 : Code := subC (bodyC Try.f49) [1, 0, 0]
noncomputable def slices_Clone_slot_c8 : Code := subC (bodyC Try.f49) [1, 0, 1, 0, 0]
noncomputable def slices_Clone_slot_c7 : Code := .seq slices_Clone_slot_c8 Code.ret
noncomputable def slices_Clone_slot_c6 : Code := .cond (.tmp 4) slices_Clone_slot_c7 Code.skip
noncomputable def slices_Clone_slot_c4 : Code := .seq slices_Clone_slot_c5 slices_Clone_slot_c6
noncomputable def slices_Clone_slot_c10 : Code := subC (bodyC Try.f49) [1, 1, 0]
noncomputable def slices_Clone_slot_c9 : Code := .seq slices_Clone_slot_c10 Code.ret
noncomputable def slices_Clone_slot_c3 : Code := .seq slices_Clone_slot_c4 slices_Clone_slot_c9
noncomputable def slices_Clone_slot_c1 : Code := .seq slices_Clone_slot_c2 slices_Clone_slot_c3
def slices_Clone_slot_pi (_ : Nat) : Pl := .nil
def slices_Clone_slot_g11 (S : Value → Heap → Prop) (x0 : Value) (H : Heap) : Prop :=
  S x0 H
theorem slices_Clone_slot_g11_e (S : Value → Heap → Prop) (x : Nat → Value) (H : Heap) : wpE tab P slices_Clone_slot_pi slices_Clone_slot_c2 (nQ fun l H => S (l.getD 0 undef) H) ((List.range 8).map x) H = slices_Clone_slot_g11 S (x 0) H := by kernel_rfl
def slices_Clone_slot_g12 (S : Value → Value → Heap → Prop) (x0 : Value) (H : Heap) : Prop :=
  bnd (binV .slice .eql x0 (.slice none 0 0)) fun v4 =>
  S x0 v4 H
theorem slices_Clone_slot_g12_e (S : Value → Value → Heap → Prop) (x : Nat → Value) (H : Heap) : wpE tab P slices_Clone_slot_pi slices_Clone_slot_c5 (nQ fun l H => S (l.getD 0 undef) (l.getD 4 undef) H) ((List.range 8).map x) H = slices_Clone_slot_g12 S (x 0) H := by kernel_rfl
def slices_Clone_slot_g13 (S : Value → Heap → Prop) (H : Heap) : Prop :=
  S (.slice none 0 0) H
theorem slices_Clone_slot_g13_e (S : Value → Heap → Prop) (x : Nat → Value) (H : Heap) : wpE tab P slices_Clone_slot_pi slices_Clone_slot_c8 (nQ fun l H => S (l.getD 2 undef) H) ((List.range 8).map x) H = slices_Clone_slot_g13 S  H := by kernel_rfl
def slices_Clone_slot_g14 (S : Value → Heap → Prop) (x0 : Value) (H : Heap) : Prop :=
  bslE 65 #[(.int .i64 0), (.int .i64 0), (.int .i64 0), (.bool false), (.bool false), (.bool false), (.bool false)] 7 0 [] H fun v5 H1 =>
  appE 65 #[(.int .i64 0), (.int .i64 0), (.int .i64 0), (.bool false), (.bool false), (.bool false), (.bool false)] 7 40 v5 x0 H1 fun v7 H2 =>
  S v7 H2
theorem slices_Clone_slot_g14_e (S : Value → Heap → Prop) (x : Nat → Value) (H : Heap) : wpE tab P slices_Clone_slot_pi slices_Clone_slot_c10 (nQ fun l H => S (l.getD 2 undef) H) ((List.range 8).map x) H = slices_Clone_slot_g14 S (x 0) H := by kernel_rfl
def slices_Clone_slot (x0 : Value) (R : Value → Heap → Prop) (H : Heap) : Prop :=
  slices_Clone_slot_g11 (fun x0 H => slices_Clone_slot_g12 (fun x0 x4 H => brV x4
  (slices_Clone_slot_g13 (fun x2 H => R x2 H) H)
  (slices_Clone_slot_g14 (fun x2 H => R x2 H) x0 H)) x0 H) x0 H
theorem slices_Clone_slot_i (R : Value → Heap → Prop) (x0 : Value) (H : Heap) (h : slices_Clone_slot x0 R H) : wpE tab P slices_Clone_slot_pi slices_Clone_slot_c1 (retQ tab slices_Clone_slot_rs R) [x0, undef, undef, undef, undef, undef, undef, undef] H := by
  obtain ⟨l, hl, el⟩ : ∃ l : List Value, l.length = 8 ∧ l = [x0, undef, undef, undef, undef, undef, undef, undef] := ⟨_, rfl, rfl⟩
  rw [← el]
  have h : (fun (x0 : Value) => slices_Clone_slot_g11 (fun x0 H => slices_Clone_slot_g12 (fun x0 x4 H => brV x4
(slices_Clone_slot_g13 (fun x2 H => R x2 H) H)
(slices_Clone_slot_g14 (fun x2 H => R x2 H) x0 H)) x0 H) x0 H) (l.getD 0 undef) := by rw [el]; exact h
  clear el
  refine seqI (c := slices_Clone_slot_c1) rfl ?_
  refine regI hl (Eq.mpr (slices_Clone_slot_g11_e _ (fun i => l.getD i undef) _) h) ?_
  clear h hl
  intro l H hl h
  refine thenN ?_
  refine seqI (c := slices_Clone_slot_c3) rfl ?_
  refine seqI (c := slices_Clone_slot_c4) rfl ?_
  refine regI hl (Eq.mpr (slices_Clone_slot_g12_e _ (fun i => l.getD i undef) _) h) ?_
  clear h hl
  intro l H hl h
  refine thenN ?_
  refine condI (c := slices_Clone_slot_c6) rfl h ?_ ?_
  · clear h; intro h
    refine seqI (c := slices_Clone_slot_c7) rfl ?_
    refine regI hl (Eq.mpr (slices_Clone_slot_g13_e _ (fun i => l.getD i undef) _) h) ?_
    clear h hl
    intro l H hl h
    refine thenN ?_
    refine retI rfl ?_
    refine thenR ?_
    exact h
  · clear h; intro h
    refine skipI rfl ?_
    refine thenN ?_
    refine seqI (c := slices_Clone_slot_c9) rfl ?_
    refine regI hl (Eq.mpr (slices_Clone_slot_g14_e _ (fun i => l.getD i undef) _) h) ?_
    clear h hl
    intro l H hl h
    refine thenN ?_
    refine retI rfl ?_
    exact h
theorem slices_Clone_slot_ok : okB slices_Clone_slot_pi slices_Clone_slot_c1 = true := by kernel_rfl
theorem slices_Clone_slot_ev (x0 : Value) (R : Value → Heap → Prop) (H : Heap) (h : slices_Clone_slot x0 R H) : EvF P N.slices_Clone_slot #[x0] H R :=
  EvF_intro (args := [x0]) (k := 7) (rs := slices_Clone_slot_rs) tab_ok mixed Try.func49 (show Try.f49.body = some slices_Clone_slot_c1 by kernel_rfl) Try.call49 Try.ntmps49 (by kernel_rfl) (okCode_of _ slices_Clone_slot_ok) rfl (slices_Clone_slot_i R x0 H h)
/- 50: (*sounder/sounderref06.Log).Oldest -/
def sounderref06_Log_Oldest_rs : List ResultVar := [.cell 2 30, .tmp 3]
noncomputable def sounderref06_Log_Oldest_c2 : Code := subC (bodyC Try.f50) [0]
noncomputable def sounderref06_Log_Oldest_c5 : Code := subC (bodyC Try.f50) [1, 0, 0]
noncomputable def sounderref06_Log_Oldest_c8 : Code := subC (bodyC Try.f50) [1, 0, 1, 0, 0]
noncomputable def sounderref06_Log_Oldest_c7 : Code := .seq sounderref06_Log_Oldest_c8 Code.ret
noncomputable def sounderref06_Log_Oldest_c6 : Code := .cond (.tmp 9) sounderref06_Log_Oldest_c7 Code.skip
noncomputable def sounderref06_Log_Oldest_c4 : Code := .seq sounderref06_Log_Oldest_c5 sounderref06_Log_Oldest_c6
noncomputable def sounderref06_Log_Oldest_c10 : Code := subC (bodyC Try.f50) [1, 1, 0]
noncomputable def sounderref06_Log_Oldest_c9 : Code := .seq sounderref06_Log_Oldest_c10 Code.ret
noncomputable def sounderref06_Log_Oldest_c3 : Code := .seq sounderref06_Log_Oldest_c4 sounderref06_Log_Oldest_c9
noncomputable def sounderref06_Log_Oldest_c1 : Code := .seq sounderref06_Log_Oldest_c2 sounderref06_Log_Oldest_c3
def sounderref06_Log_Oldest_pi (_ : Nat) : Pl := .nil
def sounderref06_Log_Oldest_g11 (S : Value → Value → Heap → Prop) (x0 : Value) (H : Heap) : Prop :=
  newE 30 #[(.int .i64 0), (.int .i64 0), (.int .i64 0), (.bool false), (.bool false), (.bool false)] H fun v2 H1 =>
  S x0 v2 H1
theorem sounderref06_Log_Oldest_g11_e (S : Value → Value → Heap → Prop) (x : Nat → Value) (H : Heap) : wpE tab P sounderref06_Log_Oldest_pi sounderref06_Log_Oldest_c2 (nQ fun l H => S (l.getD 0 undef) (l.getD 2 undef) H) ((List.range 17).map x) H = sounderref06_Log_Oldest_g11 S (x 0) H := by kernel_rfl
def sounderref06_Log_Oldest_g12 (S : Value → Value → Value → Heap → Prop) (x0 x2 : Value) (H : Heap) : Prop :=
  bnd (nilV x0) fun v5 =>
  bnd (faV 2 v5) fun v6 =>
  bnd (ldE false 1 v6 H) fun v7 =>
  bnd (lenV v7) fun v8 =>
  bnd (binV .int .eql v8 (.int .i64 0)) fun v9 =>
  S x0 x2 v9 H
theorem sounderref06_Log_Oldest_g12_e (S : Value → Value → Value → Heap → Prop) (x : Nat → Value) (H : Heap) : wpE tab P sounderref06_Log_Oldest_pi sounderref06_Log_Oldest_c5 (nQ fun l H => S (l.getD 0 undef) (l.getD 2 undef) (l.getD 9 undef) H) ((List.range 17).map x) H = sounderref06_Log_Oldest_g12 S (x 0) (x 2) H := by kernel_rfl
def sounderref06_Log_Oldest_g13 (S : Value → Value → Heap → Prop) (x2 : Value) (H : Heap) : Prop :=
  bnd (buildV #[(.int .i64 0), (.int .i64 0), (.int .i64 0), (.bool false), (.bool false), (.bool false)] (places [(0, 1), (1, 1), (2, 1), (3, 1), (4, 1), (5, 1)]) []) fun v10 =>
  bnd (stE 6 x2 v10 H) fun H1 =>
  S x2 (.bool false) H1
theorem sounderref06_Log_Oldest_g13_e (S : Value → Value → Heap → Prop) (x : Nat → Value) (H : Heap) : wpE tab P sounderref06_Log_Oldest_pi sounderref06_Log_Oldest_c8 (nQ fun l H => S (l.getD 2 undef) (l.getD 3 undef) H) ((List.range 17).map x) H = sounderref06_Log_Oldest_g13 S (x 2) H := by kernel_rfl
def sounderref06_Log_Oldest_g14 (S : Value → Value → Heap → Prop) (x0 x2 : Value) (H : Heap) : Prop :=
  bnd (nilV x0) fun v12 =>
  bnd (faV 2 v12) fun v13 =>
  bnd (ldE false 1 v13 H) fun v14 =>
  bnd (ixSV 6 v14 (.int .i64 0)) fun v15 =>
  bnd (ldE true 6 v15 H) fun v16 =>
  bnd (stE 6 x2 v16 H) fun H1 =>
  S x2 (.bool true) H1
theorem sounderref06_Log_Oldest_g14_e (S : Value → Value → Heap → Prop) (x : Nat → Value) (H : Heap) : wpE tab P sounderref06_Log_Oldest_pi sounderref06_Log_Oldest_c10 (nQ fun l H => S (l.getD 2 undef) (l.getD 3 undef) H) ((List.range 17).map x) H = sounderref06_Log_Oldest_g14 S (x 0) (x 2) H := by kernel_rfl
def sounderref06_Log_Oldest (x0 : Value) (R : Value → Heap → Prop) (H : Heap) : Prop :=
  sounderref06_Log_Oldest_g11 (fun x0 x2 H => sounderref06_Log_Oldest_g12 (fun x0 x2 x9 H => brV x9
  (sounderref06_Log_Oldest_g13 (fun x2 x3 H => bnd (ldE true 6 x2 H) fun r0 =>
  R (.tuple #[r0, x3]) H) x2 H)
  (sounderref06_Log_Oldest_g14 (fun x2 x3 H => bnd (ldE true 6 x2 H) fun r0 =>
  R (.tuple #[r0, x3]) H) x0 x2 H)) x0 x2 H) x0 H
theorem sounderref06_Log_Oldest_i (R : Value → Heap → Prop) (x0 : Value) (H : Heap) (h : sounderref06_Log_Oldest x0 R H) : wpE tab P sounderref06_Log_Oldest_pi sounderref06_Log_Oldest_c1 (retQ tab sounderref06_Log_Oldest_rs R) [x0, undef, undef, undef, undef, undef, undef, undef, undef, undef, undef, undef, undef, undef, undef, undef, undef] H := by
  obtain ⟨l, hl, el⟩ : ∃ l : List Value, l.length = 17 ∧ l = [x0, undef, undef, undef, undef, undef, undef, undef, undef, undef, undef, undef, undef, undef, undef, undef, undef] := ⟨_, rfl, rfl⟩
  rw [← el]
  have h : (fun (x0 : Value) => sounderref06_Log_Oldest_g11 (fun x0 x2 H => sounderref06_Log_Oldest_g12 (fun x0 x2 x9 H => brV x9
(sounderref06_Log_Oldest_g13 (fun x2 x3 H => bnd (ldE true 6 x2 H) fun r0 =>
R (.tuple #[r0, x3]) H) x2 H)
(sounderref06_Log_Oldest_g14 (fun x2 x3 H => bnd (ldE true 6 x2 H) fun r0 =>
R (.tuple #[r0, x3]) H) x0 x2 H)) x0 x2 H) x0 H) (l.getD 0 undef) := by rw [el]; exact h
  clear el
  refine seqI (c := sounderref06_Log_Oldest_c1) rfl ?_
  refine regI hl (Eq.mpr (sounderref06_Log_Oldest_g11_e _ (fun i => l.getD i undef) _) h) ?_
  clear h hl
  intro l H hl h
  refine thenN ?_
  refine seqI (c := sounderref06_Log_Oldest_c3) rfl ?_
  refine seqI (c := sounderref06_Log_Oldest_c4) rfl ?_
  refine regI hl (Eq.mpr (sounderref06_Log_Oldest_g12_e _ (fun i => l.getD i undef) _) h) ?_
  clear h hl
  intro l H hl h
  refine thenN ?_
  refine condI (c := sounderref06_Log_Oldest_c6) rfl h ?_ ?_
  · clear h; intro h
    refine seqI (c := sounderref06_Log_Oldest_c7) rfl ?_
    refine regI hl (Eq.mpr (sounderref06_Log_Oldest_g13_e _ (fun i => l.getD i undef) _) h) ?_
    clear h hl
    intro l H hl h
    refine thenN ?_
    refine retI rfl ?_
    refine thenR ?_
    exact h
  · clear h; intro h
    refine skipI rfl ?_
    refine thenN ?_
    refine seqI (c := sounderref06_Log_Oldest_c9) rfl ?_
    refine regI hl (Eq.mpr (sounderref06_Log_Oldest_g14_e _ (fun i => l.getD i undef) _) h) ?_
    clear h hl
    intro l H hl h
    refine thenN ?_
    refine retI rfl ?_
    exact h
theorem sounderref06_Log_Oldest_ok : okB sounderref06_Log_Oldest_pi sounderref06_Log_Oldest_c1 = true := by kernel_rfl
theorem sounderref06_Log_Oldest_ev (x0 : Value) (R : Value → Heap → Prop) (H : Heap) (h : sounderref06_Log_Oldest x0 R H) : EvF P N.sounderref06_Log_Oldest #[x0] H R :=
  EvF_intro (args := [x0]) (k := 16) (rs := sounderref06_Log_Oldest_rs) tab_ok mixed Try.func50 (show Try.f50.body = some sounderref06_Log_Oldest_c1 by kernel_rfl) Try.call50 Try.ntmps50 (by kernel_rfl) (okCode_of _ sounderref06_Log_Oldest_ok) rfl (sounderref06_Log_Oldest_i R x0 H h)
/- 51: (*sounder/sounderref06.Log).Flight -/
def sounderref06_Log_Flight_rs : List ResultVar := [.tmp 2]
noncomputable def sounderref06_Log_Flight_c2 : Code := subC (bodyC Try.f51) [0]
noncomputable def sounderref06_Log_Flight_c4 : Code := subC (bodyC Try.f51) [1, 0]
noncomputable def sounderref06_Log_Flight_c7 : Code := subC (bodyC Try.f51) [1, 1, 0, 0]
noncomputable def sounderref06_Log_Flight_c12 : Code := subC (bodyC Try.f51) [1, 1, 0, 1, 0, 0, 0, 0]
noncomputable def sounderref06_Log_Flight_c14 : Code := .exit 0
noncomputable def sounderref06_Log_Flight_c13 : Code := .cond (.tmp 11) Code.skip sounderref06_Log_Flight_c14
noncomputable def sounderref06_Log_Flight_c11 : Code := .seq sounderref06_Log_Flight_c12 sounderref06_Log_Flight_c13
noncomputable def sounderref06_Log_Flight_c18 : Code := subC (bodyC Try.f51) [1, 1, 0, 1, 0, 0, 1, 0, 0, 0]
noncomputable def sounderref06_Log_Flight_c20 : Code := subC (bodyC Try.f51) [1, 1, 0, 1, 0, 0, 1, 0, 0, 1, 0]
noncomputable def sounderref06_Log_Flight_c19 : Code := .cond (.tmp 21) sounderref06_Log_Flight_c20 Code.skip
noncomputable def sounderref06_Log_Flight_c17 : Code := .seq sounderref06_Log_Flight_c18 sounderref06_Log_Flight_c19
noncomputable def sounderref06_Log_Flight_c16 : Code := .block 1 sounderref06_Log_Flight_c17
noncomputable def sounderref06_Log_Flight_c21 : Code := subC (bodyC Try.f51) [1, 1, 0, 1, 0, 0, 1, 1]
noncomputable def sounderref06_Log_Flight_c15 : Code := .seq sounderref06_Log_Flight_c16 sounderref06_Log_Flight_c21
noncomputable def sounderref06_Log_Flight_c10 : Code := .seq sounderref06_Log_Flight_c11 sounderref06_Log_Flight_c15
noncomputable def sounderref06_Log_Flight_c9 : Code := .loop sounderref06_Log_Flight_c10
noncomputable def sounderref06_Log_Flight_c8 : Code := .block 0 sounderref06_Log_Flight_c9
noncomputable def sounderref06_Log_Flight_c6 : Code := .seq sounderref06_Log_Flight_c7 sounderref06_Log_Flight_c8
noncomputable def sounderref06_Log_Flight_c23 : Code := subC (bodyC Try.f51) [1, 1, 1, 0]
noncomputable def sounderref06_Log_Flight_c22 : Code := .seq sounderref06_Log_Flight_c23 Code.ret
noncomputable def sounderref06_Log_Flight_c5 : Code := .seq sounderref06_Log_Flight_c6 sounderref06_Log_Flight_c22
noncomputable def sounderref06_Log_Flight_c3 : Code := .seq sounderref06_Log_Flight_c4 sounderref06_Log_Flight_c5
noncomputable def sounderref06_Log_Flight_c1 : Code := .seq sounderref06_Log_Flight_c2 sounderref06_Log_Flight_c3
def sounderref06_Log_Flight_pi (_ : Nat) : Pl := .nil
def sounderref06_Log_Flight_g24 (S : Value → Heap → Prop) (x0 : Value) (H : Heap) : Prop :=
  S x0 H
theorem sounderref06_Log_Flight_g24_e (S : Value → Heap → Prop) (x : Nat → Value) (H : Heap) : wpE tab P sounderref06_Log_Flight_pi sounderref06_Log_Flight_c2 (nQ fun l H => S (l.getD 0 undef) H) ((List.range 33).map x) H = sounderref06_Log_Flight_g24 S (x 0) H := by kernel_rfl
def sounderref06_Log_Flight_g25 (S : Value → Value → Heap → Prop) (x0 : Value) (H : Heap) : Prop :=
  S x0 (.int .i64 0) H
theorem sounderref06_Log_Flight_g25_e (S : Value → Value → Heap → Prop) (x : Nat → Value) (H : Heap) : wpE tab P sounderref06_Log_Flight_pi sounderref06_Log_Flight_c4 (nQ fun l H => S (l.getD 0 undef) (l.getD 3 undef) H) ((List.range 33).map x) H = sounderref06_Log_Flight_g25 S (x 0) H := by kernel_rfl
def sounderref06_Log_Flight_g26 (S : Value → Value → Value → Heap → Prop) (x0 x3 : Value) (H : Heap) : Prop :=
  S x0 x3 (.int .i64 0) H
theorem sounderref06_Log_Flight_g26_e (S : Value → Value → Value → Heap → Prop) (x : Nat → Value) (H : Heap) : wpE tab P sounderref06_Log_Flight_pi sounderref06_Log_Flight_c7 (nQ fun l H => S (l.getD 0 undef) (l.getD 3 undef) (l.getD 4 undef) H) ((List.range 33).map x) H = sounderref06_Log_Flight_g26 S (x 0) (x 3) H := by kernel_rfl
def sounderref06_Log_Flight_g28 (S : Value → Value → Value → Value → Heap → Prop) (x0 x3 x4 : Value) (H : Heap) : Prop :=
  bnd (nilV x0) fun v7 =>
  bnd (faV 2 v7) fun v8 =>
  bnd (ldE false 1 v8 H) fun v9 =>
  bnd (lenV v9) fun v10 =>
  bnd (binV .int .lss x4 v10) fun v11 =>
  S x0 x3 x4 v11 H
theorem sounderref06_Log_Flight_g28_e (S : Value → Value → Value → Value → Heap → Prop) (x : Nat → Value) (H : Heap) : wpE tab P sounderref06_Log_Flight_pi sounderref06_Log_Flight_c12 (nQ fun l H => S (l.getD 0 undef) (l.getD 3 undef) (l.getD 4 undef) (l.getD 11 undef) H) ((List.range 33).map x) H = sounderref06_Log_Flight_g28 S (x 0) (x 3) (x 4) H := by kernel_rfl
def sounderref06_Log_Flight_g30 (S : Value → Value → Value → Heap → Prop) (x0 x3 x4 : Value) (H : Heap) : Prop :=
  bnd (binV .int .add x4 (.int .i64 1)) fun v13 =>
  S x0 x3 v13 H
theorem sounderref06_Log_Flight_g30_e (S : Value → Value → Value → Heap → Prop) (x : Nat → Value) (H : Heap) : wpE tab P sounderref06_Log_Flight_pi sounderref06_Log_Flight_c21 (nQ fun l H => S (l.getD 0 undef) (l.getD 3 undef) (l.getD 4 undef) H) ((List.range 33).map x) H = sounderref06_Log_Flight_g30 S (x 0) (x 3) (x 4) H := by kernel_rfl
def sounderref06_Log_Flight_s29 (x0 x3 x4 : Value) (K1 : Value → Value → Value →  Heap → Prop) (_R : Value → Heap → Prop) (H : Heap) : Prop :=
  sounderref06_Log_Flight_g30 (fun x0 x3 x4 H => K1 x0 x3 x4 H) x0 x3 x4 H
noncomputable def sounderref06_Log_Flight_q31 (R : Value → Heap → Prop) : Exit → List Value → Heap → Prop := (retQ tab sounderref06_Log_Flight_rs R)
noncomputable def sounderref06_Log_Flight_q32 (R : Value → Heap → Prop) : Exit → List Value → Heap → Prop := (thenE (fun l H => wpE tab P sounderref06_Log_Flight_pi sounderref06_Log_Flight_c22 (sounderref06_Log_Flight_q31 R) l H) (sounderref06_Log_Flight_q31 R))
noncomputable def sounderref06_Log_Flight_q33 (R : Value → Heap → Prop) : Exit → List Value → Heap → Prop := (blkE 0 (sounderref06_Log_Flight_q32 R))
noncomputable def sounderref06_Log_Flight_q34 (K1 : Value → Value → Value →  Heap → Prop) (R : Value → Heap → Prop) : Exit → List Value → Heap → Prop := (thenE (fun l H => K1 (l.getD 0 undef) (l.getD 3 undef) (l.getD 4 undef) H) (sounderref06_Log_Flight_q33 R))
theorem sounderref06_Log_Flight_s29_i (K1 : Value → Value → Value →  Heap → Prop) (R : Value → Heap → Prop) (l : List Value) (H : Heap) (hl : l.length = 33) (h : sounderref06_Log_Flight_s29 (l.getD 0 undef) (l.getD 3 undef) (l.getD 4 undef) K1 R H) : wpE tab P sounderref06_Log_Flight_pi sounderref06_Log_Flight_c21 (sounderref06_Log_Flight_q34 K1 R) l H := by
  refine regI hl (Eq.mpr (sounderref06_Log_Flight_g30_e _ (fun i => l.getD i undef) _) h) ?_
  clear h hl
  intro l H hl h
  refine thenN ?_
  exact h
def sounderref06_Log_Flight_g35 (S : Value → Value → Value → Value → Heap → Prop) (x0 x3 x4 : Value) (H : Heap) : Prop :=
  bnd (nilV x0) fun v15 =>
  bnd (faV 2 v15) fun v16 =>
  bnd (ldE false 1 v16 H) fun v17 =>
  bnd (ixSV 6 v17 x4) fun v19 =>
  bnd (faV 4 v19) fun v20 =>
  bnd (ldE false 1 v20 H) fun v21 =>
  S x0 x3 x4 v21 H
theorem sounderref06_Log_Flight_g35_e (S : Value → Value → Value → Value → Heap → Prop) (x : Nat → Value) (H : Heap) : wpE tab P sounderref06_Log_Flight_pi sounderref06_Log_Flight_c18 (nQ fun l H => S (l.getD 0 undef) (l.getD 3 undef) (l.getD 4 undef) (l.getD 21 undef) H) ((List.range 33).map x) H = sounderref06_Log_Flight_g35 S (x 0) (x 3) (x 4) H := by kernel_rfl
def sounderref06_Log_Flight_g36 (S : Value → Value → Value → Heap → Prop) (x0 x3 x4 : Value) (H : Heap) : Prop :=
  bnd (nilV x0) fun v24 =>
  bnd (faV 2 v24) fun v25 =>
  bnd (ldE false 1 v25 H) fun v26 =>
  bnd (ixSV 6 v26 x4) fun v28 =>
  bnd (faV 2 v28) fun v29 =>
  bnd (ldE false 1 v29 H) fun v30 =>
  bnd (binV .int .add x3 v30) fun v31 =>
  S x0 v31 x4 H
theorem sounderref06_Log_Flight_g36_e (S : Value → Value → Value → Heap → Prop) (x : Nat → Value) (H : Heap) : wpE tab P sounderref06_Log_Flight_pi sounderref06_Log_Flight_c20 (nQ fun l H => S (l.getD 0 undef) (l.getD 3 undef) (l.getD 4 undef) H) ((List.range 33).map x) H = sounderref06_Log_Flight_g36 S (x 0) (x 3) (x 4) H := by kernel_rfl
def sounderref06_Log_Flight_g37 (S : Value → Heap → Prop) (x3 : Value) (H : Heap) : Prop :=
  S x3 H
theorem sounderref06_Log_Flight_g37_e (S : Value → Heap → Prop) (x : Nat → Value) (H : Heap) : wpE tab P sounderref06_Log_Flight_pi sounderref06_Log_Flight_c23 (nQ fun l H => S (l.getD 2 undef) H) ((List.range 33).map x) H = sounderref06_Log_Flight_g37 S (x 3) H := by kernel_rfl
def sounderref06_Log_Flight_s27 (x0 x3 x4 : Value) (K1 : Value → Value → Value →  Heap → Prop) (R : Value → Heap → Prop) (H : Heap) : Prop :=
  sounderref06_Log_Flight_g28 (fun x0 x3 x4 x11 H => brV x11
  (sounderref06_Log_Flight_g35 (fun x0 x3 x4 x21 H => brV x21
  (sounderref06_Log_Flight_g36 (fun x0 x3 x4 H => sounderref06_Log_Flight_s29 x0 x3 x4 K1 R H) x0 x3 x4 H)
  (sounderref06_Log_Flight_s29 x0 x3 x4 K1 R H)) x0 x3 x4 H)
  (sounderref06_Log_Flight_g37 (fun x2 H => R x2 H) x3 H)) x0 x3 x4 H
theorem sounderref06_Log_Flight_s27_i (K1 : Value → Value → Value →  Heap → Prop) (R : Value → Heap → Prop) (l : List Value) (H : Heap) (hl : l.length = 33) (h : sounderref06_Log_Flight_s27 (l.getD 0 undef) (l.getD 3 undef) (l.getD 4 undef) K1 R H) : wpE tab P sounderref06_Log_Flight_pi sounderref06_Log_Flight_c10 (sounderref06_Log_Flight_q34 K1 R) l H := by
  refine seqI (c := sounderref06_Log_Flight_c10) rfl ?_
  refine seqI (c := sounderref06_Log_Flight_c11) rfl ?_
  refine regI hl (Eq.mpr (sounderref06_Log_Flight_g28_e _ (fun i => l.getD i undef) _) h) ?_
  clear h hl
  intro l H hl h
  refine thenN ?_
  refine condI (c := sounderref06_Log_Flight_c13) rfl h ?_ ?_
  · clear h; intro h
    refine skipI rfl ?_
    refine thenN ?_
    refine seqI (c := sounderref06_Log_Flight_c15) rfl ?_
    refine blockI (c := sounderref06_Log_Flight_c16) rfl ?_
    refine seqI (c := sounderref06_Log_Flight_c17) rfl ?_
    refine regI hl (Eq.mpr (sounderref06_Log_Flight_g35_e _ (fun i => l.getD i undef) _) h) ?_
    clear h hl
    intro l H hl h
    refine thenN ?_
    refine condI (c := sounderref06_Log_Flight_c19) rfl h ?_ ?_
    · clear h; intro h
      refine regI hl (Eq.mpr (sounderref06_Log_Flight_g36_e _ (fun i => l.getD i undef) _) h) ?_
      clear h hl
      intro l H hl h
      refine blkN ?_
      refine thenN ?_
      exact sounderref06_Log_Flight_s29_i K1 R l H hl h
    · clear h; intro h
      refine skipI rfl ?_
      refine blkN ?_
      refine thenN ?_
      exact sounderref06_Log_Flight_s29_i K1 R l H hl h
  · clear h; intro h
    refine exitI (c := sounderref06_Log_Flight_c14) rfl ?_
    refine thenX ?_
    refine thenX ?_
    refine blkX ?_
    refine thenN ?_
    refine seqI (c := sounderref06_Log_Flight_c22) rfl ?_
    refine regI hl (Eq.mpr (sounderref06_Log_Flight_g37_e _ (fun i => l.getD i undef) _) h) ?_
    clear h hl
    intro l H hl h
    refine thenN ?_
    refine retI rfl ?_
    exact h
def sounderref06_Log_Flight_l38 (x0 x3 x4 : Value) (R : Value → Heap → Prop) (H : Heap) : Prop :=
  ∃ (I : Value → Value → Heap → Prop) (μ : Value → Value → Heap → Nat), I x3 x4 H ∧ ∀ (y3 : Value) (y4 : Value) (H : Heap), I y3 y4 H → sounderref06_Log_Flight_s27 x0 y3 y4 (fun z0 z3 z4 H' => z0 = x0 ∧ (I z3 z4 H' ∧ μ z3 z4 H' < μ y3 y4 H)) R H
def sounderref06_Log_Flight (x0 : Value) (R : Value → Heap → Prop) (H : Heap) : Prop :=
  sounderref06_Log_Flight_g24 (fun x0 H => sounderref06_Log_Flight_g25 (fun x0 x3 H => sounderref06_Log_Flight_g26 (fun x0 x3 x4 H => sounderref06_Log_Flight_l38 x0 x3 x4 R H) x0 x3 H) x0 H) x0 H
theorem sounderref06_Log_Flight_i (R : Value → Heap → Prop) (x0 : Value) (H : Heap) (h : sounderref06_Log_Flight x0 R H) : wpE tab P sounderref06_Log_Flight_pi sounderref06_Log_Flight_c1 (retQ tab sounderref06_Log_Flight_rs R) [x0, undef, undef, undef, undef, undef, undef, undef, undef, undef, undef, undef, undef, undef, undef, undef, undef, undef, undef, undef, undef, undef, undef, undef, undef, undef, undef, undef, undef, undef, undef, undef, undef] H := by
  obtain ⟨l, hl, el⟩ : ∃ l : List Value, l.length = 33 ∧ l = [x0, undef, undef, undef, undef, undef, undef, undef, undef, undef, undef, undef, undef, undef, undef, undef, undef, undef, undef, undef, undef, undef, undef, undef, undef, undef, undef, undef, undef, undef, undef, undef, undef] := ⟨_, rfl, rfl⟩
  rw [← el]
  have h : (fun (x0 : Value) => sounderref06_Log_Flight_g24 (fun x0 H => sounderref06_Log_Flight_g25 (fun x0 x3 H => sounderref06_Log_Flight_g26 (fun x0 x3 x4 H => sounderref06_Log_Flight_l38 x0 x3 x4 R H) x0 x3 H) x0 H) x0 H) (l.getD 0 undef) := by rw [el]; exact h
  clear el
  refine seqI (c := sounderref06_Log_Flight_c1) rfl ?_
  refine regI hl (Eq.mpr (sounderref06_Log_Flight_g24_e _ (fun i => l.getD i undef) _) h) ?_
  clear h hl
  intro l H hl h
  refine thenN ?_
  refine seqI (c := sounderref06_Log_Flight_c3) rfl ?_
  refine regI hl (Eq.mpr (sounderref06_Log_Flight_g25_e _ (fun i => l.getD i undef) _) h) ?_
  clear h hl
  intro l H hl h
  refine thenN ?_
  refine seqI (c := sounderref06_Log_Flight_c5) rfl ?_
  refine seqI (c := sounderref06_Log_Flight_c6) rfl ?_
  refine regI hl (Eq.mpr (sounderref06_Log_Flight_g26_e _ (fun i => l.getD i undef) _) h) ?_
  clear h hl
  intro l H hl h
  refine thenN ?_
  refine blockI (c := sounderref06_Log_Flight_c8) rfl ?_
  obtain ⟨I, μ, h0, hr⟩ := h
  refine loopI (c := sounderref06_Log_Flight_c9) rfl (fun l' H' => l'.getD 0 undef = l.getD 0 undef ∧ I (l'.getD 3 undef) (l'.getD 4 undef) H') (fun l' H' => μ (l'.getD 3 undef) (l'.getD 4 undef) H') hl ⟨rfl, h0⟩ ?_
  rintro l1 H1 hl1 ⟨e0, hI⟩
  have hb := hr (l1.getD 3 undef) (l1.getD 4 undef) H1 hI
  rw [← e0] at hb
  refine wpE_mono _ l1 H1 hl1 ?_ (sounderref06_Log_Flight_s27_i _ R l1 H1 hl1 hb)
  intro e l2 H2 hl2 hq
  cases e with
  | normal => exact fun _ => (by obtain ⟨d0, g1, g2⟩ := hq; exact ⟨⟨d0.trans e0, g1⟩, g2⟩)
  | _ => exact hq
theorem sounderref06_Log_Flight_ok : okB sounderref06_Log_Flight_pi sounderref06_Log_Flight_c1 = true := by kernel_rfl
theorem sounderref06_Log_Flight_ev (x0 : Value) (R : Value → Heap → Prop) (H : Heap) (h : sounderref06_Log_Flight x0 R H) : EvF P N.sounderref06_Log_Flight #[x0] H R :=
  EvF_intro (args := [x0]) (k := 32) (rs := sounderref06_Log_Flight_rs) tab_ok mixed Try.func51 (show Try.f51.body = some sounderref06_Log_Flight_c1 by kernel_rfl) Try.call51 Try.ntmps51 (by kernel_rfl) (okCode_of _ sounderref06_Log_Flight_ok) rfl (sounderref06_Log_Flight_i R x0 H h)
/- 52: (*sounder/sounderref06.Log).Eliciting -/
def sounderref06_Log_Eliciting_rs : List ResultVar := [.tmp 2]
noncomputable def sounderref06_Log_Eliciting_c2 : Code := subC (bodyC Try.f52) [0]
noncomputable def sounderref06_Log_Eliciting_c4 : Code := subC (bodyC Try.f52) [1, 0]
noncomputable def sounderref06_Log_Eliciting_c7 : Code := subC (bodyC Try.f52) [1, 1, 0, 0]
noncomputable def sounderref06_Log_Eliciting_c12 : Code := subC (bodyC Try.f52) [1, 1, 0, 1, 0, 0, 0, 0]
noncomputable def sounderref06_Log_Eliciting_c14 : Code := .exit 0
noncomputable def sounderref06_Log_Eliciting_c13 : Code := .cond (.tmp 11) Code.skip sounderref06_Log_Eliciting_c14
noncomputable def sounderref06_Log_Eliciting_c11 : Code := .seq sounderref06_Log_Eliciting_c12 sounderref06_Log_Eliciting_c13
noncomputable def sounderref06_Log_Eliciting_c18 : Code := subC (bodyC Try.f52) [1, 1, 0, 1, 0, 0, 1, 0, 0, 0]
noncomputable def sounderref06_Log_Eliciting_c20 : Code := subC (bodyC Try.f52) [1, 1, 0, 1, 0, 0, 1, 0, 0, 1, 0]
noncomputable def sounderref06_Log_Eliciting_c19 : Code := .cond (.tmp 31) sounderref06_Log_Eliciting_c20 Code.skip
noncomputable def sounderref06_Log_Eliciting_c17 : Code := .seq sounderref06_Log_Eliciting_c18 sounderref06_Log_Eliciting_c19
noncomputable def sounderref06_Log_Eliciting_c16 : Code := .block 1 sounderref06_Log_Eliciting_c17
noncomputable def sounderref06_Log_Eliciting_c21 : Code := subC (bodyC Try.f52) [1, 1, 0, 1, 0, 0, 1, 1]
noncomputable def sounderref06_Log_Eliciting_c15 : Code := .seq sounderref06_Log_Eliciting_c16 sounderref06_Log_Eliciting_c21
noncomputable def sounderref06_Log_Eliciting_c10 : Code := .seq sounderref06_Log_Eliciting_c11 sounderref06_Log_Eliciting_c15
noncomputable def sounderref06_Log_Eliciting_c9 : Code := .loop sounderref06_Log_Eliciting_c10
noncomputable def sounderref06_Log_Eliciting_c8 : Code := .block 0 sounderref06_Log_Eliciting_c9
noncomputable def sounderref06_Log_Eliciting_c6 : Code := .seq sounderref06_Log_Eliciting_c7 sounderref06_Log_Eliciting_c8
noncomputable def sounderref06_Log_Eliciting_c23 : Code := subC (bodyC Try.f52) [1, 1, 1, 0]
noncomputable def sounderref06_Log_Eliciting_c22 : Code := .seq sounderref06_Log_Eliciting_c23 Code.ret
noncomputable def sounderref06_Log_Eliciting_c5 : Code := .seq sounderref06_Log_Eliciting_c6 sounderref06_Log_Eliciting_c22
noncomputable def sounderref06_Log_Eliciting_c3 : Code := .seq sounderref06_Log_Eliciting_c4 sounderref06_Log_Eliciting_c5
noncomputable def sounderref06_Log_Eliciting_c1 : Code := .seq sounderref06_Log_Eliciting_c2 sounderref06_Log_Eliciting_c3
def sounderref06_Log_Eliciting_pi (_ : Nat) : Pl := .nil
def sounderref06_Log_Eliciting_g24 (S : Value → Heap → Prop) (x0 : Value) (H : Heap) : Prop :=
  S x0 H
theorem sounderref06_Log_Eliciting_g24_e (S : Value → Heap → Prop) (x : Nat → Value) (H : Heap) : wpE tab P sounderref06_Log_Eliciting_pi sounderref06_Log_Eliciting_c2 (nQ fun l H => S (l.getD 0 undef) H) ((List.range 35).map x) H = sounderref06_Log_Eliciting_g24 S (x 0) H := by kernel_rfl
def sounderref06_Log_Eliciting_g25 (S : Value → Value → Heap → Prop) (x0 : Value) (H : Heap) : Prop :=
  S x0 (.int .i64 0) H
theorem sounderref06_Log_Eliciting_g25_e (S : Value → Value → Heap → Prop) (x : Nat → Value) (H : Heap) : wpE tab P sounderref06_Log_Eliciting_pi sounderref06_Log_Eliciting_c4 (nQ fun l H => S (l.getD 0 undef) (l.getD 3 undef) H) ((List.range 35).map x) H = sounderref06_Log_Eliciting_g25 S (x 0) H := by kernel_rfl
def sounderref06_Log_Eliciting_g26 (S : Value → Value → Value → Heap → Prop) (x0 x3 : Value) (H : Heap) : Prop :=
  S x0 x3 (.int .i64 0) H
theorem sounderref06_Log_Eliciting_g26_e (S : Value → Value → Value → Heap → Prop) (x : Nat → Value) (H : Heap) : wpE tab P sounderref06_Log_Eliciting_pi sounderref06_Log_Eliciting_c7 (nQ fun l H => S (l.getD 0 undef) (l.getD 3 undef) (l.getD 4 undef) H) ((List.range 35).map x) H = sounderref06_Log_Eliciting_g26 S (x 0) (x 3) H := by kernel_rfl
def sounderref06_Log_Eliciting_g28 (S : Value → Value → Value → Value → Heap → Prop) (x0 x3 x4 : Value) (H : Heap) : Prop :=
  bnd (nilV x0) fun v7 =>
  bnd (faV 2 v7) fun v8 =>
  bnd (ldE false 1 v8 H) fun v9 =>
  bnd (lenV v9) fun v10 =>
  bnd (binV .int .lss x4 v10) fun v11 =>
  S x0 x3 x4 v11 H
theorem sounderref06_Log_Eliciting_g28_e (S : Value → Value → Value → Value → Heap → Prop) (x : Nat → Value) (H : Heap) : wpE tab P sounderref06_Log_Eliciting_pi sounderref06_Log_Eliciting_c12 (nQ fun l H => S (l.getD 0 undef) (l.getD 3 undef) (l.getD 4 undef) (l.getD 11 undef) H) ((List.range 35).map x) H = sounderref06_Log_Eliciting_g28 S (x 0) (x 3) (x 4) H := by kernel_rfl
def sounderref06_Log_Eliciting_g30 (S : Value → Value → Value → Heap → Prop) (x0 x3 x4 : Value) (H : Heap) : Prop :=
  bnd (binV .int .add x4 (.int .i64 1)) fun v13 =>
  S x0 x3 v13 H
theorem sounderref06_Log_Eliciting_g30_e (S : Value → Value → Value → Heap → Prop) (x : Nat → Value) (H : Heap) : wpE tab P sounderref06_Log_Eliciting_pi sounderref06_Log_Eliciting_c21 (nQ fun l H => S (l.getD 0 undef) (l.getD 3 undef) (l.getD 4 undef) H) ((List.range 35).map x) H = sounderref06_Log_Eliciting_g30 S (x 0) (x 3) (x 4) H := by kernel_rfl
def sounderref06_Log_Eliciting_s29 (x0 x3 x4 : Value) (K1 : Value → Value → Value →  Heap → Prop) (_R : Value → Heap → Prop) (H : Heap) : Prop :=
  sounderref06_Log_Eliciting_g30 (fun x0 x3 x4 H => K1 x0 x3 x4 H) x0 x3 x4 H
noncomputable def sounderref06_Log_Eliciting_q31 (R : Value → Heap → Prop) : Exit → List Value → Heap → Prop := (retQ tab sounderref06_Log_Eliciting_rs R)
noncomputable def sounderref06_Log_Eliciting_q32 (R : Value → Heap → Prop) : Exit → List Value → Heap → Prop := (thenE (fun l H => wpE tab P sounderref06_Log_Eliciting_pi sounderref06_Log_Eliciting_c22 (sounderref06_Log_Eliciting_q31 R) l H) (sounderref06_Log_Eliciting_q31 R))
noncomputable def sounderref06_Log_Eliciting_q33 (R : Value → Heap → Prop) : Exit → List Value → Heap → Prop := (blkE 0 (sounderref06_Log_Eliciting_q32 R))
noncomputable def sounderref06_Log_Eliciting_q34 (K1 : Value → Value → Value →  Heap → Prop) (R : Value → Heap → Prop) : Exit → List Value → Heap → Prop := (thenE (fun l H => K1 (l.getD 0 undef) (l.getD 3 undef) (l.getD 4 undef) H) (sounderref06_Log_Eliciting_q33 R))
theorem sounderref06_Log_Eliciting_s29_i (K1 : Value → Value → Value →  Heap → Prop) (R : Value → Heap → Prop) (l : List Value) (H : Heap) (hl : l.length = 35) (h : sounderref06_Log_Eliciting_s29 (l.getD 0 undef) (l.getD 3 undef) (l.getD 4 undef) K1 R H) : wpE tab P sounderref06_Log_Eliciting_pi sounderref06_Log_Eliciting_c21 (sounderref06_Log_Eliciting_q34 K1 R) l H := by
  refine regI hl (Eq.mpr (sounderref06_Log_Eliciting_g30_e _ (fun i => l.getD i undef) _) h) ?_
  clear h hl
  intro l H hl h
  refine thenN ?_
  exact h
def sounderref06_Log_Eliciting_g35 (S : Value → Value → Value → Value → Heap → Prop) (x0 x3 x4 : Value) (H : Heap) : Prop :=
  bnd (nilV x0) fun v15 =>
  bnd (faV 2 v15) fun v16 =>
  bnd (ldE false 1 v16 H) fun v17 =>
  bnd (ixSV 6 v17 x4) fun v19 =>
  bnd (faV 4 v19) fun v20 =>
  bnd (ldE false 1 v20 H) fun v21 =>
  brV v21
  (bnd (nilV x0) fun v24 =>
  bnd (faV 2 v24) fun v25 =>
  bnd (ldE false 1 v25 H) fun v26 =>
  bnd (ixSV 6 v26 x4) fun v28 =>
  bnd (faV 3 v28) fun v29 =>
  bnd (ldE false 1 v29 H) fun v30 =>
  S x0 x3 x4 v30 H)
  (S x0 x3 x4 (.bool false) H)
theorem sounderref06_Log_Eliciting_g35_e (S : Value → Value → Value → Value → Heap → Prop) (x : Nat → Value) (H : Heap) : wpE tab P sounderref06_Log_Eliciting_pi sounderref06_Log_Eliciting_c18 (nQ fun l H => S (l.getD 0 undef) (l.getD 3 undef) (l.getD 4 undef) (l.getD 31 undef) H) ((List.range 35).map x) H = sounderref06_Log_Eliciting_g35 S (x 0) (x 3) (x 4) H := by kernel_rfl
def sounderref06_Log_Eliciting_g36 (S : Value → Value → Value → Heap → Prop) (x0 x3 x4 : Value) (H : Heap) : Prop :=
  bnd (binV .int .add x3 (.int .i64 1)) fun v33 =>
  S x0 v33 x4 H
theorem sounderref06_Log_Eliciting_g36_e (S : Value → Value → Value → Heap → Prop) (x : Nat → Value) (H : Heap) : wpE tab P sounderref06_Log_Eliciting_pi sounderref06_Log_Eliciting_c20 (nQ fun l H => S (l.getD 0 undef) (l.getD 3 undef) (l.getD 4 undef) H) ((List.range 35).map x) H = sounderref06_Log_Eliciting_g36 S (x 0) (x 3) (x 4) H := by kernel_rfl
def sounderref06_Log_Eliciting_g37 (S : Value → Heap → Prop) (x3 : Value) (H : Heap) : Prop :=
  S x3 H
theorem sounderref06_Log_Eliciting_g37_e (S : Value → Heap → Prop) (x : Nat → Value) (H : Heap) : wpE tab P sounderref06_Log_Eliciting_pi sounderref06_Log_Eliciting_c23 (nQ fun l H => S (l.getD 2 undef) H) ((List.range 35).map x) H = sounderref06_Log_Eliciting_g37 S (x 3) H := by kernel_rfl
def sounderref06_Log_Eliciting_s27 (x0 x3 x4 : Value) (K1 : Value → Value → Value →  Heap → Prop) (R : Value → Heap → Prop) (H : Heap) : Prop :=
  sounderref06_Log_Eliciting_g28 (fun x0 x3 x4 x11 H => brV x11
  (sounderref06_Log_Eliciting_g35 (fun x0 x3 x4 x31 H => brV x31
  (sounderref06_Log_Eliciting_g36 (fun x0 x3 x4 H => sounderref06_Log_Eliciting_s29 x0 x3 x4 K1 R H) x0 x3 x4 H)
  (sounderref06_Log_Eliciting_s29 x0 x3 x4 K1 R H)) x0 x3 x4 H)
  (sounderref06_Log_Eliciting_g37 (fun x2 H => R x2 H) x3 H)) x0 x3 x4 H
theorem sounderref06_Log_Eliciting_s27_i (K1 : Value → Value → Value →  Heap → Prop) (R : Value → Heap → Prop) (l : List Value) (H : Heap) (hl : l.length = 35) (h : sounderref06_Log_Eliciting_s27 (l.getD 0 undef) (l.getD 3 undef) (l.getD 4 undef) K1 R H) : wpE tab P sounderref06_Log_Eliciting_pi sounderref06_Log_Eliciting_c10 (sounderref06_Log_Eliciting_q34 K1 R) l H := by
  refine seqI (c := sounderref06_Log_Eliciting_c10) rfl ?_
  refine seqI (c := sounderref06_Log_Eliciting_c11) rfl ?_
  refine regI hl (Eq.mpr (sounderref06_Log_Eliciting_g28_e _ (fun i => l.getD i undef) _) h) ?_
  clear h hl
  intro l H hl h
  refine thenN ?_
  refine condI (c := sounderref06_Log_Eliciting_c13) rfl h ?_ ?_
  · clear h; intro h
    refine skipI rfl ?_
    refine thenN ?_
    refine seqI (c := sounderref06_Log_Eliciting_c15) rfl ?_
    refine blockI (c := sounderref06_Log_Eliciting_c16) rfl ?_
    refine seqI (c := sounderref06_Log_Eliciting_c17) rfl ?_
    refine regI hl (Eq.mpr (sounderref06_Log_Eliciting_g35_e _ (fun i => l.getD i undef) _) h) ?_
    clear h hl
    intro l H hl h
    refine thenN ?_
    refine condI (c := sounderref06_Log_Eliciting_c19) rfl h ?_ ?_
    · clear h; intro h
      refine regI hl (Eq.mpr (sounderref06_Log_Eliciting_g36_e _ (fun i => l.getD i undef) _) h) ?_
      clear h hl
      intro l H hl h
      refine blkN ?_
      refine thenN ?_
      exact sounderref06_Log_Eliciting_s29_i K1 R l H hl h
    · clear h; intro h
      refine skipI rfl ?_
      refine blkN ?_
      refine thenN ?_
      exact sounderref06_Log_Eliciting_s29_i K1 R l H hl h
  · clear h; intro h
    refine exitI (c := sounderref06_Log_Eliciting_c14) rfl ?_
    refine thenX ?_
    refine thenX ?_
    refine blkX ?_
    refine thenN ?_
    refine seqI (c := sounderref06_Log_Eliciting_c22) rfl ?_
    refine regI hl (Eq.mpr (sounderref06_Log_Eliciting_g37_e _ (fun i => l.getD i undef) _) h) ?_
    clear h hl
    intro l H hl h
    refine thenN ?_
    refine retI rfl ?_
    exact h
def sounderref06_Log_Eliciting_l38 (x0 x3 x4 : Value) (R : Value → Heap → Prop) (H : Heap) : Prop :=
  ∃ (I : Value → Value → Heap → Prop) (μ : Value → Value → Heap → Nat), I x3 x4 H ∧ ∀ (y3 : Value) (y4 : Value) (H : Heap), I y3 y4 H → sounderref06_Log_Eliciting_s27 x0 y3 y4 (fun z0 z3 z4 H' => z0 = x0 ∧ (I z3 z4 H' ∧ μ z3 z4 H' < μ y3 y4 H)) R H
def sounderref06_Log_Eliciting (x0 : Value) (R : Value → Heap → Prop) (H : Heap) : Prop :=
  sounderref06_Log_Eliciting_g24 (fun x0 H => sounderref06_Log_Eliciting_g25 (fun x0 x3 H => sounderref06_Log_Eliciting_g26 (fun x0 x3 x4 H => sounderref06_Log_Eliciting_l38 x0 x3 x4 R H) x0 x3 H) x0 H) x0 H
theorem sounderref06_Log_Eliciting_i (R : Value → Heap → Prop) (x0 : Value) (H : Heap) (h : sounderref06_Log_Eliciting x0 R H) : wpE tab P sounderref06_Log_Eliciting_pi sounderref06_Log_Eliciting_c1 (retQ tab sounderref06_Log_Eliciting_rs R) [x0, undef, undef, undef, undef, undef, undef, undef, undef, undef, undef, undef, undef, undef, undef, undef, undef, undef, undef, undef, undef, undef, undef, undef, undef, undef, undef, undef, undef, undef, undef, undef, undef, undef, undef] H := by
  obtain ⟨l, hl, el⟩ : ∃ l : List Value, l.length = 35 ∧ l = [x0, undef, undef, undef, undef, undef, undef, undef, undef, undef, undef, undef, undef, undef, undef, undef, undef, undef, undef, undef, undef, undef, undef, undef, undef, undef, undef, undef, undef, undef, undef, undef, undef, undef, undef] := ⟨_, rfl, rfl⟩
  rw [← el]
  have h : (fun (x0 : Value) => sounderref06_Log_Eliciting_g24 (fun x0 H => sounderref06_Log_Eliciting_g25 (fun x0 x3 H => sounderref06_Log_Eliciting_g26 (fun x0 x3 x4 H => sounderref06_Log_Eliciting_l38 x0 x3 x4 R H) x0 x3 H) x0 H) x0 H) (l.getD 0 undef) := by rw [el]; exact h
  clear el
  refine seqI (c := sounderref06_Log_Eliciting_c1) rfl ?_
  refine regI hl (Eq.mpr (sounderref06_Log_Eliciting_g24_e _ (fun i => l.getD i undef) _) h) ?_
  clear h hl
  intro l H hl h
  refine thenN ?_
  refine seqI (c := sounderref06_Log_Eliciting_c3) rfl ?_
  refine regI hl (Eq.mpr (sounderref06_Log_Eliciting_g25_e _ (fun i => l.getD i undef) _) h) ?_
  clear h hl
  intro l H hl h
  refine thenN ?_
  refine seqI (c := sounderref06_Log_Eliciting_c5) rfl ?_
  refine seqI (c := sounderref06_Log_Eliciting_c6) rfl ?_
  refine regI hl (Eq.mpr (sounderref06_Log_Eliciting_g26_e _ (fun i => l.getD i undef) _) h) ?_
  clear h hl
  intro l H hl h
  refine thenN ?_
  refine blockI (c := sounderref06_Log_Eliciting_c8) rfl ?_
  obtain ⟨I, μ, h0, hr⟩ := h
  refine loopI (c := sounderref06_Log_Eliciting_c9) rfl (fun l' H' => l'.getD 0 undef = l.getD 0 undef ∧ I (l'.getD 3 undef) (l'.getD 4 undef) H') (fun l' H' => μ (l'.getD 3 undef) (l'.getD 4 undef) H') hl ⟨rfl, h0⟩ ?_
  rintro l1 H1 hl1 ⟨e0, hI⟩
  have hb := hr (l1.getD 3 undef) (l1.getD 4 undef) H1 hI
  rw [← e0] at hb
  refine wpE_mono _ l1 H1 hl1 ?_ (sounderref06_Log_Eliciting_s27_i _ R l1 H1 hl1 hb)
  intro e l2 H2 hl2 hq
  cases e with
  | normal => exact fun _ => (by obtain ⟨d0, g1, g2⟩ := hq; exact ⟨⟨d0.trans e0, g1⟩, g2⟩)
  | _ => exact hq
theorem sounderref06_Log_Eliciting_ok : okB sounderref06_Log_Eliciting_pi sounderref06_Log_Eliciting_c1 = true := by kernel_rfl
theorem sounderref06_Log_Eliciting_ev (x0 : Value) (R : Value → Heap → Prop) (H : Heap) (h : sounderref06_Log_Eliciting x0 R H) : EvF P N.sounderref06_Log_Eliciting #[x0] H R :=
  EvF_intro (args := [x0]) (k := 34) (rs := sounderref06_Log_Eliciting_rs) tab_ok mixed Try.func52 (show Try.f52.body = some sounderref06_Log_Eliciting_c1 by kernel_rfl) Try.call52 Try.ntmps52 (by kernel_rfl) (okCode_of _ sounderref06_Log_Eliciting_ok) rfl (sounderref06_Log_Eliciting_i R x0 H h)
/- 53: sounder/sent.may$1 -/
def sent_may_1_rs : List ResultVar := [.tmp 6]
noncomputable def sent_may_1_c2 : Code := subC (bodyC Try.f53) [0]
noncomputable def sent_may_1_c4 : Code := subC (bodyC Try.f53) [1, 0]
noncomputable def sent_may_1_c3 : Code := .seq sent_may_1_c4 Code.ret
noncomputable def sent_may_1_c1 : Code := .seq sent_may_1_c2 sent_may_1_c3
def sent_may_1_pi (_ : Nat) : Pl := .nil
def sent_may_1_g5 (S : Value → Value → Value → Heap → Prop) (x0 x1 x2 : Value) (H : Heap) : Prop :=
  S x0 x1 x2 H
theorem sent_may_1_g5_e (S : Value → Value → Value → Heap → Prop) (x : Nat → Value) (H : Heap) : wpE tab P sent_may_1_pi sent_may_1_c2 (nQ fun l H => S (l.getD 0 undef) (l.getD 1 undef) (l.getD 2 undef) H) ((List.range 15).map x) H = sent_may_1_g5 S (x 0) (x 1) (x 2) H := by kernel_rfl
def sent_may_1_g6 (S : Value → Heap → Prop) (x0 x1 x2 : Value) (H : Heap) : Prop :=
  bnd (binV .int .geq x0 x1) fun v9 =>
  brV v9
  (bnd (binV .int .leq x0 x2) fun v13 =>
  S v13 H)
  (S (.bool false) H)
theorem sent_may_1_g6_e (S : Value → Heap → Prop) (x : Nat → Value) (H : Heap) : wpE tab P sent_may_1_pi sent_may_1_c4 (nQ fun l H => S (l.getD 6 undef) H) ((List.range 15).map x) H = sent_may_1_g6 S (x 0) (x 1) (x 2) H := by kernel_rfl
def sent_may_1 (x0 x1 x2 : Value) (R : Value → Heap → Prop) (H : Heap) : Prop :=
  sent_may_1_g5 (fun x0 x1 x2 H => sent_may_1_g6 (fun x6 H => R x6 H) x0 x1 x2 H) x0 x1 x2 H
theorem sent_may_1_i (R : Value → Heap → Prop) (x0 x1 x2 : Value) (H : Heap) (h : sent_may_1 x0 x1 x2 R H) : wpE tab P sent_may_1_pi sent_may_1_c1 (retQ tab sent_may_1_rs R) [x0, x1, x2, undef, undef, undef, undef, undef, undef, undef, undef, undef, undef, undef, undef] H := by
  obtain ⟨l, hl, el⟩ : ∃ l : List Value, l.length = 15 ∧ l = [x0, x1, x2, undef, undef, undef, undef, undef, undef, undef, undef, undef, undef, undef, undef] := ⟨_, rfl, rfl⟩
  rw [← el]
  have h : (fun (x0 x1 x2 : Value) => sent_may_1_g5 (fun x0 x1 x2 H => sent_may_1_g6 (fun x6 H => R x6 H) x0 x1 x2 H) x0 x1 x2 H) (l.getD 0 undef) (l.getD 1 undef) (l.getD 2 undef) := by rw [el]; exact h
  clear el
  refine seqI (c := sent_may_1_c1) rfl ?_
  refine regI hl (Eq.mpr (sent_may_1_g5_e _ (fun i => l.getD i undef) _) h) ?_
  clear h hl
  intro l H hl h
  refine thenN ?_
  refine seqI (c := sent_may_1_c3) rfl ?_
  refine regI hl (Eq.mpr (sent_may_1_g6_e _ (fun i => l.getD i undef) _) h) ?_
  clear h hl
  intro l H hl h
  refine thenN ?_
  refine retI rfl ?_
  exact h
theorem sent_may_1_ok : okB sent_may_1_pi sent_may_1_c1 = true := by kernel_rfl
theorem sent_may_1_ev (x0 x1 x2 : Value) (R : Value → Heap → Prop) (H : Heap) (h : sent_may_1 x0 x1 x2 R H) : EvF P N.sent_may_1 #[x0, x1, x2] H R :=
  EvF_intro (args := [x0, x1, x2]) (k := 12) (rs := sent_may_1_rs) tab_ok mixed Try.func53 (show Try.f53.body = some sent_may_1_c1 by kernel_rfl) Try.call53 Try.ntmps53 (by kernel_rfl) (okCode_of _ sent_may_1_ok) rfl (sent_may_1_i R x0 x1 x2 H h)
/- 54: (*sounder/sent.Log).count -/
def sent_Log_count_rs : List ResultVar := []
noncomputable def sent_Log_count_c2 : Code := subC (bodyC Try.f54) [0]
noncomputable def sent_Log_count_c4 : Code := subC (bodyC Try.f54) [1, 0]
noncomputable def sent_Log_count_c7 : Code := subC (bodyC Try.f54) [1, 1, 0, 0]
noncomputable def sent_Log_count_c8 : Code := .cond (.tmp 16) Code.ret Code.skip
noncomputable def sent_Log_count_c6 : Code := .seq sent_Log_count_c7 sent_Log_count_c8
noncomputable def sent_Log_count_c10 : Code := subC (bodyC Try.f54) [1, 1, 1, 0]
noncomputable def sent_Log_count_c12 : Code := subC (bodyC Try.f54) [1, 1, 1, 1, 0]
noncomputable def sent_Log_count_c14 : Code := subC (bodyC Try.f54) [1, 1, 1, 1, 1, 0]
noncomputable def sent_Log_count_c13 : Code := .cond (.tmp 29) sent_Log_count_c14 Code.skip
noncomputable def sent_Log_count_c11 : Code := .seq sent_Log_count_c12 sent_Log_count_c13
noncomputable def sent_Log_count_c9 : Code := .seq sent_Log_count_c10 sent_Log_count_c11
noncomputable def sent_Log_count_c5 : Code := .seq sent_Log_count_c6 sent_Log_count_c9
noncomputable def sent_Log_count_c3 : Code := .seq sent_Log_count_c4 sent_Log_count_c5
noncomputable def sent_Log_count_c1 : Code := .seq sent_Log_count_c2 sent_Log_count_c3
def sent_Log_count_pi (i : Nat) : Pl := match i with
  | 3 => (ones [0, 1, 2, 3, 4, 5, 6, 7, 8, 9, 10, 11] .nil)
  | _ => .nil
def sent_Log_count_g15 (S : Value → Value → Value → Heap → Prop) (x0 x1 x2 : Value) (H : Heap) : Prop :=
  newE 30 (Value.cells x1) H fun v4 H1 =>
  S x0 x2 v4 H1
theorem sent_Log_count_g15_e (S : Value → Value → Value → Heap → Prop) (x : Nat → Value) (H : Heap) : wpE tab P sent_Log_count_pi sent_Log_count_c2 (nQ fun l H => S (l.getD 0 undef) (l.getD 2 undef) (l.getD 4 undef) H) ((List.range 38).map x) H = sent_Log_count_g15 S (x 0) (x 1) (x 2) H := by kernel_rfl
def sent_Log_count_g16 (S : Value → Value → Value → Heap → Prop) (x0 x2 x4 : Value) (H : Heap) : Prop :=
  bnd (nilV x0) fun v7 =>
  bnd (faV 5 v7) fun v8 =>
  bnd (ldE false 1 v8 H) fun v9 =>
  bnd (binV .int .add v9 x2) fun v11 =>
  bnd (nilV x0) fun v12 =>
  bnd (faV 5 v12) fun v13 =>
  bnd (stE 1 v13 v11 H) fun H1 =>
  S x0 x2 x4 H1
theorem sent_Log_count_g16_e (S : Value → Value → Value → Heap → Prop) (x : Nat → Value) (H : Heap) : wpE tab P sent_Log_count_pi sent_Log_count_c4 (nQ fun l H => S (l.getD 0 undef) (l.getD 2 undef) (l.getD 4 undef) H) ((List.range 38).map x) H = sent_Log_count_g16 S (x 0) (x 2) (x 4) H := by kernel_rfl
def sent_Log_count_g17 (S : Value → Value → Value → Value → Heap → Prop) (x0 x2 x4 : Value) (H : Heap) : Prop :=
  bnd (faV 4 x4) fun v14 =>
  bnd (ldE false 1 v14 H) fun v15 =>
  bnd (unV .not v15) fun v16 =>
  S x0 x2 x4 v16 H
theorem sent_Log_count_g17_e (S : Value → Value → Value → Value → Heap → Prop) (x : Nat → Value) (H : Heap) : wpE tab P sent_Log_count_pi sent_Log_count_c7 (nQ fun l H => S (l.getD 0 undef) (l.getD 2 undef) (l.getD 4 undef) (l.getD 16 undef) H) ((List.range 38).map x) H = sent_Log_count_g17 S (x 0) (x 2) (x 4) H := by kernel_rfl
def sent_Log_count_g18 (S : Value → Value → Value → Heap → Prop) (x0 x2 x4 : Value) (H : Heap) : Prop :=
  bnd (nilV x0) fun v18 =>
  bnd (faV 6 v18) fun v19 =>
  bnd (ldE false 1 v19 H) fun v20 =>
  bnd (faV 2 x4) fun v22 =>
  bnd (ldE false 1 v22 H) fun v23 =>
  bnd (binV .int .mul x2 v23) fun v24 =>
  bnd (binV .int .add v20 v24) fun v25 =>
  bnd (nilV x0) fun v26 =>
  bnd (faV 6 v26) fun v27 =>
  bnd (stE 1 v27 v25 H) fun H1 =>
  S x0 x2 x4 H1
theorem sent_Log_count_g18_e (S : Value → Value → Value → Heap → Prop) (x : Nat → Value) (H : Heap) : wpE tab P sent_Log_count_pi sent_Log_count_c10 (nQ fun l H => S (l.getD 0 undef) (l.getD 2 undef) (l.getD 4 undef) H) ((List.range 38).map x) H = sent_Log_count_g18 S (x 0) (x 2) (x 4) H := by kernel_rfl
def sent_Log_count_g19 (S : Value → Value → Value → Heap → Prop) (x0 x2 x4 : Value) (H : Heap) : Prop :=
  bnd (faV 3 x4) fun v28 =>
  bnd (ldE false 1 v28 H) fun v29 =>
  S x0 x2 v29 H
theorem sent_Log_count_g19_e (S : Value → Value → Value → Heap → Prop) (x : Nat → Value) (H : Heap) : wpE tab P sent_Log_count_pi sent_Log_count_c12 (nQ fun l H => S (l.getD 0 undef) (l.getD 2 undef) (l.getD 29 undef) H) ((List.range 38).map x) H = sent_Log_count_g19 S (x 0) (x 2) (x 4) H := by kernel_rfl
def sent_Log_count_g20 (S : Heap → Prop) (x0 x2 : Value) (H : Heap) : Prop :=
  bnd (nilV x0) fun v31 =>
  bnd (faV 7 v31) fun v32 =>
  bnd (ldE false 1 v32 H) fun v33 =>
  bnd (binV .int .add v33 x2) fun v35 =>
  bnd (nilV x0) fun v36 =>
  bnd (faV 7 v36) fun v37 =>
  bnd (stE 1 v37 v35 H) fun H1 =>
  S H1
theorem sent_Log_count_g20_e (S : Heap → Prop) (x : Nat → Value) (H : Heap) : wpE tab P sent_Log_count_pi sent_Log_count_c14 (nQ fun _ H => S  H) ((List.range 38).map x) H = sent_Log_count_g20 S (x 0) (x 2) H := by kernel_rfl
def sent_Log_count (x0 x1 x2 : Value) (R : Value → Heap → Prop) (H : Heap) : Prop :=
  sent_Log_count_g15 (fun x0 x2 x4 H => sent_Log_count_g16 (fun x0 x2 x4 H => sent_Log_count_g17 (fun x0 x2 x4 x16 H => brV x16
  (R (.tuple #[]) H)
  (sent_Log_count_g18 (fun x0 x2 x4 H => sent_Log_count_g19 (fun x0 x2 x29 H => brV x29
  (sent_Log_count_g20 (fun H => R (.tuple #[]) H) x0 x2 H)
  (R (.tuple #[]) H)) x0 x2 x4 H) x0 x2 x4 H)) x0 x2 x4 H) x0 x2 x4 H) x0 x1 x2 H
theorem sent_Log_count_i (R : Value → Heap → Prop) (x0 x1 x2 : Value) (H : Heap) (h : sent_Log_count x0 x1 x2 R H) : wpE tab P sent_Log_count_pi sent_Log_count_c1 (retQ tab sent_Log_count_rs R) [x0, x1, x2, undef, undef, undef, undef, undef, undef, undef, undef, undef, undef, undef, undef, undef, undef, undef, undef, undef, undef, undef, undef, undef, undef, undef, undef, undef, undef, undef, undef, undef, undef, undef, undef, undef, undef, undef] H := by
  obtain ⟨l, hl, el⟩ : ∃ l : List Value, l.length = 38 ∧ l = [x0, x1, x2, undef, undef, undef, undef, undef, undef, undef, undef, undef, undef, undef, undef, undef, undef, undef, undef, undef, undef, undef, undef, undef, undef, undef, undef, undef, undef, undef, undef, undef, undef, undef, undef, undef, undef, undef] := ⟨_, rfl, rfl⟩
  rw [← el]
  have h : (fun (x0 x1 x2 : Value) => sent_Log_count_g15 (fun x0 x2 x4 H => sent_Log_count_g16 (fun x0 x2 x4 H => sent_Log_count_g17 (fun x0 x2 x4 x16 H => brV x16
(R (.tuple #[]) H)
(sent_Log_count_g18 (fun x0 x2 x4 H => sent_Log_count_g19 (fun x0 x2 x29 H => brV x29
(sent_Log_count_g20 (fun H => R (.tuple #[]) H) x0 x2 H)
(R (.tuple #[]) H)) x0 x2 x4 H) x0 x2 x4 H)) x0 x2 x4 H) x0 x2 x4 H) x0 x1 x2 H) (l.getD 0 undef) (l.getD 1 undef) (l.getD 2 undef) := by rw [el]; exact h
  clear el
  refine seqI (c := sent_Log_count_c1) rfl ?_
  refine regI hl (Eq.mpr (sent_Log_count_g15_e _ (fun i => l.getD i undef) _) h) ?_
  clear h hl
  intro l H hl h
  refine thenN ?_
  refine seqI (c := sent_Log_count_c3) rfl ?_
  refine regI hl (Eq.mpr (sent_Log_count_g16_e _ (fun i => l.getD i undef) _) h) ?_
  clear h hl
  intro l H hl h
  refine thenN ?_
  refine seqI (c := sent_Log_count_c5) rfl ?_
  refine seqI (c := sent_Log_count_c6) rfl ?_
  refine regI hl (Eq.mpr (sent_Log_count_g17_e _ (fun i => l.getD i undef) _) h) ?_
  clear h hl
  intro l H hl h
  refine thenN ?_
  refine condI (c := sent_Log_count_c8) rfl h ?_ ?_
  · clear h; intro h
    refine retI rfl ?_
    refine thenR ?_
    exact h
  · clear h; intro h
    refine skipI rfl ?_
    refine thenN ?_
    refine seqI (c := sent_Log_count_c9) rfl ?_
    refine regI hl (Eq.mpr (sent_Log_count_g18_e _ (fun i => l.getD i undef) _) h) ?_
    clear h hl
    intro l H hl h
    refine thenN ?_
    refine seqI (c := sent_Log_count_c11) rfl ?_
    refine regI hl (Eq.mpr (sent_Log_count_g19_e _ (fun i => l.getD i undef) _) h) ?_
    clear h hl
    intro l H hl h
    refine thenN ?_
    refine condI (c := sent_Log_count_c13) rfl h ?_ ?_
    · clear h; intro h
      refine regI hl (Eq.mpr (sent_Log_count_g20_e _ (fun i => l.getD i undef) _) h) ?_
      clear h hl
      intro l H hl h
      exact h
    · clear h; intro h
      refine skipI rfl ?_
      exact h
theorem sent_Log_count_ok : okB sent_Log_count_pi sent_Log_count_c1 = true := by kernel_rfl
theorem sent_Log_count_ev (x0 x1 x2 : Value) (R : Value → Heap → Prop) (H : Heap) (h : sent_Log_count x0 x1 x2 R H) : EvF P N.sent_Log_count #[x0, x1, x2] H R :=
  EvF_intro (args := [x0, x1, x2]) (k := 35) (rs := sent_Log_count_rs) tab_ok mixed Try.func54 (show Try.f54.body = some sent_Log_count_c1 by kernel_rfl) Try.call54 Try.ntmps54 (by kernel_rfl) (okCode_of _ sent_Log_count_ok) rfl (sent_Log_count_i R x0 x1 x2 H h)
/- 55: (*sounder/sent.Log).find -/
def sent_Log_find_rs : List ResultVar := [.tmp 4]
noncomputable def sent_Log_find_c2 : Code := subC (bodyC Try.f55) [0]
noncomputable def sent_Log_find_c4 : Code := subC (bodyC Try.f55) [1, 0]
noncomputable def sent_Log_find_c3 : Code := .seq sent_Log_find_c4 Code.ret
noncomputable def sent_Log_find_c1 : Code := .seq sent_Log_find_c2 sent_Log_find_c3
def sent_Log_find_pi (_ : Nat) : Pl := .nil
def sent_Log_find_g5 (S : Value → Value → Heap → Prop) (x0 x1 : Value) (H : Heap) : Prop :=
  newE 23 (Value.cells x0) H fun v2 H1 =>
  newE 3 (Value.cells x1) H1 fun v3 H2 =>
  S v2 v3 H2
theorem sent_Log_find_g5_e (S : Value → Value → Heap → Prop) (x : Nat → Value) (H : Heap) : wpE tab P sent_Log_find_pi sent_Log_find_c2 (nQ fun l H => S (l.getD 2 undef) (l.getD 3 undef) H) ((List.range 11).map x) H = sent_Log_find_g5 S (x 0) (x 1) H := by kernel_rfl
def sent_Log_find_g6 (S : Value → Heap → Prop) (x2 x3 : Value) (H : Heap) : Prop :=
  bnd (ldE false 1 x2 H) fun v5 =>
  bnd (nilV v5) fun v6 =>
  bnd (faV 4 v6) fun v7 =>
  bnd (ldE false 1 v7 H) fun v8 =>
  EvF P N.sort_Search #[v8, (.func (.func N.sent_Log_find_1) #[] #[x2, x3])] H fun v10 H1 =>
  S v10 H1
theorem sent_Log_find_g6_e (S : Value → Heap → Prop) (x : Nat → Value) (H : Heap) : wpE tab P sent_Log_find_pi sent_Log_find_c4 (nQ fun l H => S (l.getD 4 undef) H) ((List.range 11).map x) H = sent_Log_find_g6 S (x 2) (x 3) H := by kernel_rfl
def sent_Log_find (x0 x1 : Value) (R : Value → Heap → Prop) (H : Heap) : Prop :=
  sent_Log_find_g5 (fun x2 x3 H => sent_Log_find_g6 (fun x4 H => R x4 H) x2 x3 H) x0 x1 H
theorem sent_Log_find_i (R : Value → Heap → Prop) (x0 x1 : Value) (H : Heap) (h : sent_Log_find x0 x1 R H) : wpE tab P sent_Log_find_pi sent_Log_find_c1 (retQ tab sent_Log_find_rs R) [x0, x1, undef, undef, undef, undef, undef, undef, undef, undef, undef] H := by
  obtain ⟨l, hl, el⟩ : ∃ l : List Value, l.length = 11 ∧ l = [x0, x1, undef, undef, undef, undef, undef, undef, undef, undef, undef] := ⟨_, rfl, rfl⟩
  rw [← el]
  have h : (fun (x0 x1 : Value) => sent_Log_find_g5 (fun x2 x3 H => sent_Log_find_g6 (fun x4 H => R x4 H) x2 x3 H) x0 x1 H) (l.getD 0 undef) (l.getD 1 undef) := by rw [el]; exact h
  clear el
  refine seqI (c := sent_Log_find_c1) rfl ?_
  refine regI hl (Eq.mpr (sent_Log_find_g5_e _ (fun i => l.getD i undef) _) h) ?_
  clear h hl
  intro l H hl h
  refine thenN ?_
  refine seqI (c := sent_Log_find_c3) rfl ?_
  refine regI hl (Eq.mpr (sent_Log_find_g6_e _ (fun i => l.getD i undef) _) h) ?_
  clear h hl
  intro l H hl h
  refine thenN ?_
  refine retI rfl ?_
  exact h
theorem sent_Log_find_ok : okB sent_Log_find_pi sent_Log_find_c1 = true := by kernel_rfl
theorem sent_Log_find_ev (x0 x1 : Value) (R : Value → Heap → Prop) (H : Heap) (h : sent_Log_find x0 x1 R H) : EvF P N.sent_Log_find #[x0, x1] H R :=
  EvF_intro (args := [x0, x1]) (k := 9) (rs := sent_Log_find_rs) tab_ok mixed Try.func55 (show Try.f55.body = some sent_Log_find_c1 by kernel_rfl) Try.call55 Try.ntmps55 (by kernel_rfl) (okCode_of _ sent_Log_find_ok) rfl (sent_Log_find_i R x0 x1 H h)
/- 56: sort.Search -/
def sort_Search_rs : List ResultVar := [.tmp 4]
noncomputable def sort_Search_c2 : Code := subC (bodyC Try.f56) [0]
noncomputable def sort_Search_c4 : Code := subC (bodyC Try.f56) [1, 0]
noncomputable def sort_Search_c10 : Code := subC (bodyC Try.f56) [1, 1, 0, 0, 0, 0, 0]
noncomputable def sort_Search_c12 : Code := .exit 0
noncomputable def sort_Search_c11 : Code := .cond (.tmp 11) Code.skip sort_Search_c12
noncomputable def sort_Search_c9 : Code := .seq sort_Search_c10 sort_Search_c11
noncomputable def sort_Search_c15 : Code := subC (bodyC Try.f56) [1, 1, 0, 0, 0, 1, 0, 0]
noncomputable def sort_Search_c17 : Code := subC (bodyC Try.f56) [1, 1, 0, 0, 0, 1, 0, 1, 0]
noncomputable def sort_Search_c19 : Code := subC (bodyC Try.f56) [1, 1, 0, 0, 0, 1, 0, 1, 1, 0]
noncomputable def sort_Search_c20 : Code := subC (bodyC Try.f56) [1, 1, 0, 0, 0, 1, 0, 1, 1, 1]
noncomputable def sort_Search_c18 : Code := .cond (.tmp 21) sort_Search_c19 sort_Search_c20
noncomputable def sort_Search_c16 : Code := .seq sort_Search_c17 sort_Search_c18
noncomputable def sort_Search_c14 : Code := .seq sort_Search_c15 sort_Search_c16
noncomputable def sort_Search_c13 : Code := .block 1 sort_Search_c14
noncomputable def sort_Search_c8 : Code := .seq sort_Search_c9 sort_Search_c13
noncomputable def sort_Search_c7 : Code := .loop sort_Search_c8
noncomputable def sort_Search_c6 : Code := .block 0 sort_Search_c7
noncomputable def sort_Search_c22 : Code := subC (bodyC Try.f56) [1, 1, 1, 0]
noncomputable def sort_Search_c21 : Code := .seq sort_Search_c22 Code.ret
noncomputable def sort_Search_c5 : Code := .seq sort_Search_c6 sort_Search_c21
noncomputable def sort_Search_c3 : Code := .seq sort_Search_c4 sort_Search_c5
noncomputable def sort_Search_c1 : Code := .seq sort_Search_c2 sort_Search_c3
def sort_Search_pi (_ : Nat) : Pl := .nil
def sort_Search_g23 (S : Value → Value → Heap → Prop) (x0 x1 : Value) (H : Heap) : Prop :=
  S x0 x1 H
theorem sort_Search_g23_e (S : Value → Value → Heap → Prop) (x : Nat → Value) (H : Heap) : wpE tab P sort_Search_pi sort_Search_c2 (nQ fun l H => S (l.getD 0 undef) (l.getD 1 undef) H) ((List.range 26).map x) H = sort_Search_g23 S (x 0) (x 1) H := by kernel_rfl
def sort_Search_g24 (S : Value → Value → Value → Heap → Prop) (x0 x1 : Value) (H : Heap) : Prop :=
  S x1 (.int .i64 0) x0 H
theorem sort_Search_g24_e (S : Value → Value → Value → Heap → Prop) (x : Nat → Value) (H : Heap) : wpE tab P sort_Search_pi sort_Search_c4 (nQ fun l H => S (l.getD 1 undef) (l.getD 5 undef) (l.getD 6 undef) H) ((List.range 26).map x) H = sort_Search_g24 S (x 0) (x 1) H := by kernel_rfl
def sort_Search_g26 (S : Value → Value → Value → Value → Heap → Prop) (x1 x5 x6 : Value) (H : Heap) : Prop :=
  bnd (binV .int .lss x5 x6) fun v11 =>
  S x1 x5 x6 v11 H
theorem sort_Search_g26_e (S : Value → Value → Value → Value → Heap → Prop) (x : Nat → Value) (H : Heap) : wpE tab P sort_Search_pi sort_Search_c10 (nQ fun l H => S (l.getD 1 undef) (l.getD 5 undef) (l.getD 6 undef) (l.getD 11 undef) H) ((List.range 26).map x) H = sort_Search_g26 S (x 1) (x 5) (x 6) H := by kernel_rfl
def sort_Search_g27 (S : Value → Value → Value → Value → Heap → Prop) (x1 x5 x6 : Value) (H : Heap) : Prop :=
  bnd (binV .int .add x5 x6) fun v14 =>
  bnd (cvV .u64 v14) fun v15 =>
  bnd (binV .int .shr v15 (.int .u64 1)) fun v16 =>
  bnd (cvV .i64 v16) fun v17 =>
  S x1 x5 x6 v17 H
theorem sort_Search_g27_e (S : Value → Value → Value → Value → Heap → Prop) (x : Nat → Value) (H : Heap) : wpE tab P sort_Search_pi sort_Search_c15 (nQ fun l H => S (l.getD 1 undef) (l.getD 5 undef) (l.getD 6 undef) (l.getD 7 undef) H) ((List.range 26).map x) H = sort_Search_g27 S (x 1) (x 5) (x 6) H := by kernel_rfl
def sort_Search_g28 (S : Value → Value → Value → Value → Value → Heap → Prop) (x1 x5 x6 x7 : Value) (H : Heap) : Prop :=
  callV P x1 [x7] H fun v20 H1 =>
  bnd (unV .not v20) fun v21 =>
  S x1 x5 x6 x7 v21 H1
theorem sort_Search_g28_e (S : Value → Value → Value → Value → Value → Heap → Prop) (x : Nat → Value) (H : Heap) : wpE tab P sort_Search_pi sort_Search_c17 (nQ fun l H => S (l.getD 1 undef) (l.getD 5 undef) (l.getD 6 undef) (l.getD 7 undef) (l.getD 21 undef) H) ((List.range 26).map x) H = sort_Search_g28 S (x 1) (x 5) (x 6) (x 7) H := by kernel_rfl
def sort_Search_g29 (S : Value → Value → Value → Heap → Prop) (x1 x6 x7 : Value) (H : Heap) : Prop :=
  bnd (binV .int .add x7 (.int .i64 1)) fun v23 =>
  S x1 v23 x6 H
theorem sort_Search_g29_e (S : Value → Value → Value → Heap → Prop) (x : Nat → Value) (H : Heap) : wpE tab P sort_Search_pi sort_Search_c19 (nQ fun l H => S (l.getD 1 undef) (l.getD 5 undef) (l.getD 6 undef) H) ((List.range 26).map x) H = sort_Search_g29 S (x 1) (x 6) (x 7) H := by kernel_rfl
def sort_Search_g30 (S : Value → Value → Value → Heap → Prop) (x1 x5 x7 : Value) (H : Heap) : Prop :=
  S x1 x5 x7 H
theorem sort_Search_g30_e (S : Value → Value → Value → Heap → Prop) (x : Nat → Value) (H : Heap) : wpE tab P sort_Search_pi sort_Search_c20 (nQ fun l H => S (l.getD 1 undef) (l.getD 5 undef) (l.getD 6 undef) H) ((List.range 26).map x) H = sort_Search_g30 S (x 1) (x 5) (x 7) H := by kernel_rfl
def sort_Search_g31 (S : Value → Heap → Prop) (x5 : Value) (H : Heap) : Prop :=
  S x5 H
theorem sort_Search_g31_e (S : Value → Heap → Prop) (x : Nat → Value) (H : Heap) : wpE tab P sort_Search_pi sort_Search_c22 (nQ fun l H => S (l.getD 4 undef) H) ((List.range 26).map x) H = sort_Search_g31 S (x 5) H := by kernel_rfl
def sort_Search_s25 (x1 x5 x6 : Value) (K1 : Value → Value → Value →  Heap → Prop) (R : Value → Heap → Prop) (H : Heap) : Prop :=
  sort_Search_g26 (fun x1 x5 x6 x11 H => brV x11
  (sort_Search_g27 (fun x1 x5 x6 x7 H => sort_Search_g28 (fun x1 x5 x6 x7 x21 H => brV x21
  (sort_Search_g29 (fun x1 x5 x6 H => K1 x1 x5 x6 H) x1 x6 x7 H)
  (sort_Search_g30 (fun x1 x5 x6 H => K1 x1 x5 x6 H) x1 x5 x7 H)) x1 x5 x6 x7 H) x1 x5 x6 H)
  (sort_Search_g31 (fun x4 H => R x4 H) x5 H)) x1 x5 x6 H
noncomputable def sort_Search_q32 (R : Value → Heap → Prop) : Exit → List Value → Heap → Prop := (retQ tab sort_Search_rs R)
noncomputable def sort_Search_q33 (R : Value → Heap → Prop) : Exit → List Value → Heap → Prop := (thenE (fun l H => wpE tab P sort_Search_pi sort_Search_c21 (sort_Search_q32 R) l H) (sort_Search_q32 R))
noncomputable def sort_Search_q34 (R : Value → Heap → Prop) : Exit → List Value → Heap → Prop := (blkE 0 (sort_Search_q33 R))
noncomputable def sort_Search_q35 (K1 : Value → Value → Value →  Heap → Prop) (R : Value → Heap → Prop) : Exit → List Value → Heap → Prop := (thenE (fun l H => K1 (l.getD 1 undef) (l.getD 5 undef) (l.getD 6 undef) H) (sort_Search_q34 R))
theorem sort_Search_s25_i (K1 : Value → Value → Value →  Heap → Prop) (R : Value → Heap → Prop) (l : List Value) (H : Heap) (hl : l.length = 26) (h : sort_Search_s25 (l.getD 1 undef) (l.getD 5 undef) (l.getD 6 undef) K1 R H) : wpE tab P sort_Search_pi sort_Search_c8 (sort_Search_q35 K1 R) l H := by
  refine seqI (c := sort_Search_c8) rfl ?_
  refine seqI (c := sort_Search_c9) rfl ?_
  refine regI hl (Eq.mpr (sort_Search_g26_e _ (fun i => l.getD i undef) _) h) ?_
  clear h hl
  intro l H hl h
  refine thenN ?_
  refine condI (c := sort_Search_c11) rfl h ?_ ?_
  · clear h; intro h
    refine skipI rfl ?_
    refine thenN ?_
    refine blockI (c := sort_Search_c13) rfl ?_
    refine seqI (c := sort_Search_c14) rfl ?_
    refine regI hl (Eq.mpr (sort_Search_g27_e _ (fun i => l.getD i undef) _) h) ?_
    clear h hl
    intro l H hl h
    refine thenN ?_
    refine seqI (c := sort_Search_c16) rfl ?_
    refine regI hl (Eq.mpr (sort_Search_g28_e _ (fun i => l.getD i undef) _) h) ?_
    clear h hl
    intro l H hl h
    refine thenN ?_
    refine condI (c := sort_Search_c18) rfl h ?_ ?_
    · clear h; intro h
      refine regI hl (Eq.mpr (sort_Search_g29_e _ (fun i => l.getD i undef) _) h) ?_
      clear h hl
      intro l H hl h
      refine blkN ?_
      refine thenN ?_
      exact h
    · clear h; intro h
      refine regI hl (Eq.mpr (sort_Search_g30_e _ (fun i => l.getD i undef) _) h) ?_
      clear h hl
      intro l H hl h
      refine blkN ?_
      refine thenN ?_
      exact h
  · clear h; intro h
    refine exitI (c := sort_Search_c12) rfl ?_
    refine thenX ?_
    refine thenX ?_
    refine blkX ?_
    refine thenN ?_
    refine seqI (c := sort_Search_c21) rfl ?_
    refine regI hl (Eq.mpr (sort_Search_g31_e _ (fun i => l.getD i undef) _) h) ?_
    clear h hl
    intro l H hl h
    refine thenN ?_
    refine retI rfl ?_
    exact h
def sort_Search_l36 (x1 x5 x6 : Value) (R : Value → Heap → Prop) (H : Heap) : Prop :=
  ∃ (I : Value → Value → Heap → Prop) (μ : Value → Value → Heap → Nat), I x5 x6 H ∧ ∀ (y5 : Value) (y6 : Value) (H : Heap), I y5 y6 H → sort_Search_s25 x1 y5 y6 (fun z1 z5 z6 H' => z1 = x1 ∧ (I z5 z6 H' ∧ μ z5 z6 H' < μ y5 y6 H)) R H
def sort_Search (x0 x1 : Value) (R : Value → Heap → Prop) (H : Heap) : Prop :=
  sort_Search_g23 (fun x0 x1 H => sort_Search_g24 (fun x1 x5 x6 H => sort_Search_l36 x1 x5 x6 R H) x0 x1 H) x0 x1 H
theorem sort_Search_i (R : Value → Heap → Prop) (x0 x1 : Value) (H : Heap) (h : sort_Search x0 x1 R H) : wpE tab P sort_Search_pi sort_Search_c1 (retQ tab sort_Search_rs R) [x0, x1, undef, undef, undef, undef, undef, undef, undef, undef, undef, undef, undef, undef, undef, undef, undef, undef, undef, undef, undef, undef, undef, undef, undef, undef] H := by
  obtain ⟨l, hl, el⟩ : ∃ l : List Value, l.length = 26 ∧ l = [x0, x1, undef, undef, undef, undef, undef, undef, undef, undef, undef, undef, undef, undef, undef, undef, undef, undef, undef, undef, undef, undef, undef, undef, undef, undef] := ⟨_, rfl, rfl⟩
  rw [← el]
  have h : (fun (x0 x1 : Value) => sort_Search_g23 (fun x0 x1 H => sort_Search_g24 (fun x1 x5 x6 H => sort_Search_l36 x1 x5 x6 R H) x0 x1 H) x0 x1 H) (l.getD 0 undef) (l.getD 1 undef) := by rw [el]; exact h
  clear el
  refine seqI (c := sort_Search_c1) rfl ?_
  refine regI hl (Eq.mpr (sort_Search_g23_e _ (fun i => l.getD i undef) _) h) ?_
  clear h hl
  intro l H hl h
  refine thenN ?_
  refine seqI (c := sort_Search_c3) rfl ?_
  refine regI hl (Eq.mpr (sort_Search_g24_e _ (fun i => l.getD i undef) _) h) ?_
  clear h hl
  intro l H hl h
  refine thenN ?_
  refine seqI (c := sort_Search_c5) rfl ?_
  refine blockI (c := sort_Search_c6) rfl ?_
  obtain ⟨I, μ, h0, hr⟩ := h
  refine loopI (c := sort_Search_c7) rfl (fun l' H' => l'.getD 1 undef = l.getD 1 undef ∧ I (l'.getD 5 undef) (l'.getD 6 undef) H') (fun l' H' => μ (l'.getD 5 undef) (l'.getD 6 undef) H') hl ⟨rfl, h0⟩ ?_
  rintro l1 H1 hl1 ⟨e1, hI⟩
  have hb := hr (l1.getD 5 undef) (l1.getD 6 undef) H1 hI
  rw [← e1] at hb
  refine wpE_mono _ l1 H1 hl1 ?_ (sort_Search_s25_i _ R l1 H1 hl1 hb)
  intro e l2 H2 hl2 hq
  cases e with
  | normal => exact fun _ => (by obtain ⟨d1, g1, g2⟩ := hq; exact ⟨⟨d1.trans e1, g1⟩, g2⟩)
  | _ => exact hq
theorem sort_Search_ok : okB sort_Search_pi sort_Search_c1 = true := by kernel_rfl
theorem sort_Search_ev (x0 x1 : Value) (R : Value → Heap → Prop) (H : Heap) (h : sort_Search x0 x1 R H) : EvF P N.sort_Search #[x0, x1] H R :=
  EvF_intro (args := [x0, x1]) (k := 24) (rs := sort_Search_rs) tab_ok mixed Try.func56 (show Try.f56.body = some sort_Search_c1 by kernel_rfl) Try.call56 Try.ntmps56 (by kernel_rfl) (okCode_of _ sort_Search_ok) rfl (sort_Search_i R x0 x1 H h)
/- 57: (*sounder/sent.Log).find$1 -/
def sent_Log_find_1_rs : List ResultVar := [.tmp 4]
noncomputable def sent_Log_find_1_c2 : Code := subC (bodyC Try.f57) [0]
noncomputable def sent_Log_find_1_c4 : Code := subC (bodyC Try.f57) [1, 0]
noncomputable def sent_Log_find_1_c3 : Code := .seq sent_Log_find_1_c4 Code.ret
noncomputable def sent_Log_find_1_c1 : Code := .seq sent_Log_find_1_c2 sent_Log_find_1_c3
def sent_Log_find_1_pi (i : Nat) : Pl := match i with
  | 1 => (ones [0, 1, 7, 2, 3, 4, 5, 6, 8, 9] .nil)
  | _ => .nil
def sent_Log_find_1_g5 (S : Value → Value → Value → Heap → Prop) (x0 x1 x2 : Value) (H : Heap) : Prop :=
  S x0 x1 x2 H
theorem sent_Log_find_1_g5_e (S : Value → Value → Value → Heap → Prop) (x : Nat → Value) (H : Heap) : wpE tab P sent_Log_find_1_pi sent_Log_find_1_c2 (nQ fun l H => S (l.getD 0 undef) (l.getD 1 undef) (l.getD 2 undef) H) ((List.range 14).map x) H = sent_Log_find_1_g5 S (x 0) (x 1) (x 2) H := by kernel_rfl
def sent_Log_find_1_g6 (S : Value → Heap → Prop) (x0 x1 x2 : Value) (H : Heap) : Prop :=
  bnd (ldE false 1 x1 H) fun v5 =>
  bnd (ldE false 1 x2 H) fun v12 =>
  EvF P N.sent_Log_at #[v5, x0] H fun v7 H1 =>
  ((bnd (ldE false 1 x2 H1) fun v' => v' = v12) ∧
  bnd (nilV v7) fun v8 =>
  bnd (faV 0 v8) fun v9 =>
  bnd (faV 0 v9) fun v10 =>
  bnd (ldE false 1 v10 H1) fun v11 =>
  bnd (binV .int .geq v11 v12) fun v13 =>
  S v13 H1)
theorem sent_Log_find_1_g6_e (S : Value → Heap → Prop) (x : Nat → Value) (H : Heap) : wpE tab P sent_Log_find_1_pi sent_Log_find_1_c4 (nQ fun l H => S (l.getD 4 undef) H) ((List.range 14).map x) H = sent_Log_find_1_g6 S (x 0) (x 1) (x 2) H := by kernel_rfl
def sent_Log_find_1 (x0 x1 x2 : Value) (R : Value → Heap → Prop) (H : Heap) : Prop :=
  sent_Log_find_1_g5 (fun x0 x1 x2 H => sent_Log_find_1_g6 (fun x4 H => R x4 H) x0 x1 x2 H) x0 x1 x2 H
theorem sent_Log_find_1_i (R : Value → Heap → Prop) (x0 x1 x2 : Value) (H : Heap) (h : sent_Log_find_1 x0 x1 x2 R H) : wpE tab P sent_Log_find_1_pi sent_Log_find_1_c1 (retQ tab sent_Log_find_1_rs R) [x0, x1, x2, undef, undef, undef, undef, undef, undef, undef, undef, undef, undef, undef] H := by
  obtain ⟨l, hl, el⟩ : ∃ l : List Value, l.length = 14 ∧ l = [x0, x1, x2, undef, undef, undef, undef, undef, undef, undef, undef, undef, undef, undef] := ⟨_, rfl, rfl⟩
  rw [← el]
  have h : (fun (x0 x1 x2 : Value) => sent_Log_find_1_g5 (fun x0 x1 x2 H => sent_Log_find_1_g6 (fun x4 H => R x4 H) x0 x1 x2 H) x0 x1 x2 H) (l.getD 0 undef) (l.getD 1 undef) (l.getD 2 undef) := by rw [el]; exact h
  clear el
  refine seqI (c := sent_Log_find_1_c1) rfl ?_
  refine regI hl (Eq.mpr (sent_Log_find_1_g5_e _ (fun i => l.getD i undef) _) h) ?_
  clear h hl
  intro l H hl h
  refine thenN ?_
  refine seqI (c := sent_Log_find_1_c3) rfl ?_
  refine regI hl (Eq.mpr (sent_Log_find_1_g6_e _ (fun i => l.getD i undef) _) h) ?_
  clear h hl
  intro l H hl h
  refine thenN ?_
  refine retI rfl ?_
  exact h
theorem sent_Log_find_1_ok : okB sent_Log_find_1_pi sent_Log_find_1_c1 = true := by kernel_rfl
theorem sent_Log_find_1_ev (x0 x1 x2 : Value) (R : Value → Heap → Prop) (H : Heap) (h : sent_Log_find_1 x0 x1 x2 R H) : EvF P N.sent_Log_find_1 #[x0, x1, x2] H R :=
  EvF_intro (args := [x0, x1, x2]) (k := 11) (rs := sent_Log_find_1_rs) tab_ok mixed Try.func57 (show Try.f57.body = some sent_Log_find_1_c1 by kernel_rfl) Try.call57 Try.ntmps57 (by kernel_rfl) (okCode_of _ sent_Log_find_1_ok) rfl (sent_Log_find_1_i R x0 x1 x2 H h)
end Go.Hc
