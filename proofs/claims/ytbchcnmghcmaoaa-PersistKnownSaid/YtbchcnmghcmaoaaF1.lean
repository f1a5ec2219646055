/- Functions, printed by gen.py. -/
import Derived.Test.YtbchcnmghcmaoaaT
set_option linter.unusedSimpArgs false
set_option linter.unusedVariables false
set_option maxRecDepth 100000
namespace Go.Hc
open Go Go.Proofs
/- 17: sounder/sounderlaw10.is -/
def z17_rs : List ResultVar := [.tmp 8]
noncomputable def z17_c2 : Code := subC (bodyC Try.f17) [0]
noncomputable def z17_c4 : Code := subC (bodyC Try.f17) [1, 0]
noncomputable def z17_c6 : Code := subC (bodyC Try.f17) [1, 1, 0]
noncomputable def z17_c5 : Code := .seq z17_c6 Code.ret
noncomputable def z17_c3 : Code := .seq z17_c4 z17_c5
noncomputable def z17_c1 : Code := .seq z17_c2 z17_c3
def z17_pi (_ : Nat) : Pl := .nil
def z17_g7 (S : Value → Value → Value → Value → Heap → Prop) (x0 x1 x2 x3 : Value) (H : Heap) : Prop :=
  newE 24 (Value.cells x3) H fun v7 H1 =>
  S x0 x1 x2 v7 H1
theorem z17_g7_e (S : Value → Value → Value → Value → Heap → Prop) (x : Nat → Value) (H : Heap) : wpE tab P z17_pi z17_c2 (nQ fun l H => S (l.getD 0 undef) (l.getD 1 undef) (l.getD 2 undef) (l.getD 7 undef) H) ((List.range 31).map x) H = z17_g7 S (x 0) (x 1) (x 2) (x 3) H := by kernel_rfl
def z17_g8 (S : Value → Value → Value → Value → Value → Heap → Prop) (x0 x1 x2 x7 : Value) (H : Heap) : Prop :=
  EvF P N.persist_Period #[x0, x1, x2] H fun v17 H1 =>
  bnd (exV 0 v17) fun v18 =>
  bnd (exV 1 v17) fun v19 =>
  bnd (exV 2 v17) fun v20 =>
  bnd (exV 3 v17) fun v21 =>
  S x7 v18 v19 v20 v21 H1
theorem z17_g8_e (S : Value → Value → Value → Value → Value → Heap → Prop) (x : Nat → Value) (H : Heap) : wpE tab P z17_pi z17_c4 (nQ fun l H => S (l.getD 7 undef) (l.getD 9 undef) (l.getD 10 undef) (l.getD 11 undef) (l.getD 12 undef) H) ((List.range 31).map x) H = z17_g8 S (x 0) (x 1) (x 2) (x 7) H := by kernel_rfl
def z17_g9 (S : Value → Heap → Prop) (x7 x9 x10 x11 x12 : Value) (H : Heap) : Prop :=
  brV x12
  (bnd (buildV #[(.int .i64 0), (.int .i64 0), (.int .i64 0)] (every 1) [(0, x9), (1, x10), (2, x11)]) fun v27 =>
  bnd (ldE true 3 x7 H) fun v28 =>
  bnd (binV (.agg [true, true, true]) .eql v27 v28) fun v29 =>
  S v29 H)
  (S (.bool false) H)
theorem z17_g9_e (S : Value → Heap → Prop) (x : Nat → Value) (H : Heap) : wpE tab P z17_pi z17_c6 (nQ fun l H => S (l.getD 8 undef) H) ((List.range 31).map x) H = z17_g9 S (x 7) (x 9) (x 10) (x 11) (x 12) H := by kernel_rfl
def sounderlaw10_is (x0 x1 x2 x3 : Value) (R : Value → Heap → Prop) (H : Heap) : Prop :=
  z17_g7 (fun x0 x1 x2 x7 H => z17_g8 (fun x7 x9 x10 x11 x12 H => z17_g9 (fun x8 H => R x8 H) x7 x9 x10 x11 x12 H) x0 x1 x2 x7 H) x0 x1 x2 x3 H
theorem z17_i (R : Value → Heap → Prop) (x0 x1 x2 x3 : Value) (H : Heap) (h : sounderlaw10_is x0 x1 x2 x3 R H) : wpE tab P z17_pi z17_c1 (retQ tab z17_rs R) [x0, x1, x2, x3, undef, undef, undef, undef, undef, undef, undef, undef, undef, undef, undef, undef, undef, undef, undef, undef, undef, undef, undef, undef, undef, undef, undef, undef, undef, undef, undef] H := by
  obtain ⟨l, hl, el⟩ : ∃ l : List Value, l.length = 31 ∧ l = [x0, x1, x2, x3, undef, undef, undef, undef, undef, undef, undef, undef, undef, undef, undef, undef, undef, undef, undef, undef, undef, undef, undef, undef, undef, undef, undef, undef, undef, undef, undef] := ⟨_, rfl, rfl⟩
  rw [← el]
  have h : (fun (x0 x1 x2 x3 : Value) => z17_g7 (fun x0 x1 x2 x7 H => z17_g8 (fun x7 x9 x10 x11 x12 H => z17_g9 (fun x8 H => R x8 H) x7 x9 x10 x11 x12 H) x0 x1 x2 x7 H) x0 x1 x2 x3 H) (l.getD 0 undef) (l.getD 1 undef) (l.getD 2 undef) (l.getD 3 undef) := by rw [el]; exact h
  clear el
  refine seqI (c := z17_c1) rfl ?_
  refine regI hl (Eq.mpr (z17_g7_e _ (fun i => l.getD i undef) _) h) ?_
  clear h hl
  intro l H hl h
  refine thenN ?_
  refine seqI (c := z17_c3) rfl ?_
  refine regI hl (Eq.mpr (z17_g8_e _ (fun i => l.getD i undef) _) h) ?_
  clear h hl
  intro l H hl h
  refine thenN ?_
  refine seqI (c := z17_c5) rfl ?_
  refine regI hl (Eq.mpr (z17_g9_e _ (fun i => l.getD i undef) _) h) ?_
  clear h hl
  intro l H hl h
  refine thenN ?_
  refine retI rfl ?_
  exact h
theorem z17_ok : okB z17_pi z17_c1 = true := by kernel_rfl
theorem z17_ev0 (x0 x1 x2 x3 : Value) (R : Value → Heap → Prop) (H : Heap) (h : sounderlaw10_is x0 x1 x2 x3 R H) : EvL P N.sounderlaw10_is #[x0, x1, x2, x3] H R :=
  EvF_intro (args := [x0, x1, x2, x3]) (k := 27) (rs := z17_rs) tab_ok mixed Try.func17 (show Try.f17.body = some z17_c1 by kernel_rfl) Try.call17 Try.ntmps17 (by kernel_rfl) (okCode_of _ z17_ok) rfl (z17_i R x0 x1 x2 x3 H h)
theorem z17_ev (x0 x1 x2 x3 : Value) (R : Value → Heap → Prop) (H : Heap) (h : sounderlaw10_is x0 x1 x2 x3 R H) : EvF P N.sounderlaw10_is #[x0, x1, x2, x3] H R := .inl (z17_ev0 x0 x1 x2 x3 R H h)
/- 18: sounder/sounderlaw10.set -/
def z18_rs : List ResultVar := [.tmp 2]
noncomputable def z18_c2 : Code := subC (bodyC Try.f18) [0]
noncomputable def z18_c4 : Code := subC (bodyC Try.f18) [1, 0]
noncomputable def z18_c7 : Code := subC (bodyC Try.f18) [1, 1, 0, 0]
noncomputable def z18_c12 : Code := subC (bodyC Try.f18) [1, 1, 0, 1, 0, 0, 0, 0]
noncomputable def z18_c14 : Code := .exit 0
noncomputable def z18_c13 : Code := .cond (.tmp 13) Code.skip z18_c14
noncomputable def z18_c11 : Code := .seq z18_c12 z18_c13
noncomputable def z18_c17 : Code := subC (bodyC Try.f18) [1, 1, 0, 1, 0, 0, 1, 0, 0]
noncomputable def z18_c16 : Code := .block 1 z18_c17
noncomputable def z18_c18 : Code := subC (bodyC Try.f18) [1, 1, 0, 1, 0, 0, 1, 1]
noncomputable def z18_c15 : Code := .seq z18_c16 z18_c18
noncomputable def z18_c10 : Code := .seq z18_c11 z18_c15
noncomputable def z18_c9 : Code := .loop z18_c10
noncomputable def z18_c8 : Code := .block 0 z18_c9
noncomputable def z18_c6 : Code := .seq z18_c7 z18_c8
noncomputable def z18_c20 : Code := subC (bodyC Try.f18) [1, 1, 1, 0]
noncomputable def z18_c19 : Code := .seq z18_c20 Code.ret
noncomputable def z18_c5 : Code := .seq z18_c6 z18_c19
noncomputable def z18_c3 : Code := .seq z18_c4 z18_c5
noncomputable def z18_c1 : Code := .seq z18_c2 z18_c3
def z18_pi (i : Nat) : Pl := match i with
  | 5 => (ones [0, 1, 2, 3, 4, 5, 6, 7, 8, 9, 10, 11] .nil)
  | _ => .nil
def z18_g21 (S : Value → Heap → Prop) (x0 : Value) (H : Heap) : Prop :=
  S x0 H
theorem z18_g21_e (S : Value → Heap → Prop) (x : Nat → Value) (H : Heap) : wpE tab P z18_pi z18_c2 (nQ fun l H => S (l.getD 0 undef) H) ((List.range 29).map x) H = z18_g21 S (x 0) H := by kernel_rfl
def z18_g22 (S : Value → Value → Heap → Prop) (x0 : Value) (H : Heap) : Prop :=
  EvF P N.span_New #[(.int .i64 256)] H fun v7 H1 =>
  bnd (exV 0 v7) fun v8 =>
  bnd (exV 1 v7) fun _ =>
  S x0 v8 H1
theorem z18_g22_e (S : Value → Value → Heap → Prop) (x : Nat → Value) (H : Heap) : wpE tab P z18_pi z18_c4 (nQ fun l H => S (l.getD 0 undef) (l.getD 3 undef) H) ((List.range 29).map x) H = z18_g22 S (x 0) H := by kernel_rfl
def z18_g23 (S : Value → Value → Value → Heap → Prop) (x0 x3 : Value) (H : Heap) : Prop :=
  S x0 x3 (.int .i64 0) H
theorem z18_g23_e (S : Value → Value → Value → Heap → Prop) (x : Nat → Value) (H : Heap) : wpE tab P z18_pi z18_c7 (nQ fun l H => S (l.getD 0 undef) (l.getD 3 undef) (l.getD 5 undef) H) ((List.range 29).map x) H = z18_g23 S (x 0) (x 3) H := by kernel_rfl
def z18_g25 (S : Value → Value → Value → Value → Heap → Prop) (x0 x3 x5 : Value) (H : Heap) : Prop :=
  bnd (lenV x0) fun v12 =>
  bnd (binV .int .lss x5 v12) fun v13 =>
  S x0 x3 x5 v13 H
theorem z18_g25_e (S : Value → Value → Value → Value → Heap → Prop) (x : Nat → Value) (H : Heap) : wpE tab P z18_pi z18_c12 (nQ fun l H => S (l.getD 0 undef) (l.getD 3 undef) (l.getD 5 undef) (l.getD 13 undef) H) ((List.range 29).map x) H = z18_g25 S (x 0) (x 3) (x 5) H := by kernel_rfl
def z18_g26 (S : Value → Value → Value → Heap → Prop) (x0 x3 x5 : Value) (H : Heap) : Prop :=
  bnd (ixSV 2 x0 x5) fun v19 =>
  bnd (faV 0 v19) fun v20 =>
  bnd (ldE false 1 v20 H) fun v21 =>
  bnd (ixSV 2 x0 x5) fun v24 =>
  bnd (faV 1 v24) fun v25 =>
  bnd (ldE false 1 v25 H) fun v26 =>
  EvF P N.span_Set_Add #[x3, v21, v26] H fun _ H1 =>
  S x0 x3 x5 H1
theorem z18_g26_e (S : Value → Value → Value → Heap → Prop) (x : Nat → Value) (H : Heap) : wpE tab P z18_pi z18_c17 (nQ fun l H => S (l.getD 0 undef) (l.getD 3 undef) (l.getD 5 undef) H) ((List.range 29).map x) H = z18_g26 S (x 0) (x 3) (x 5) H := by kernel_rfl
def z18_g27 (S : Value → Value → Value → Heap → Prop) (x0 x3 x5 : Value) (H : Heap) : Prop :=
  bnd (binV .int .add x5 (.int .i64 1)) fun v15 =>
  S x0 x3 v15 H
theorem z18_g27_e (S : Value → Value → Value → Heap → Prop) (x : Nat → Value) (H : Heap) : wpE tab P z18_pi z18_c18 (nQ fun l H => S (l.getD 0 undef) (l.getD 3 undef) (l.getD 5 undef) H) ((List.range 29).map x) H = z18_g27 S (x 0) (x 3) (x 5) H := by kernel_rfl
def z18_g28 (S : Value → Heap → Prop) (x3 : Value) (H : Heap) : Prop :=
  S x3 H
theorem z18_g28_e (S : Value → Heap → Prop) (x : Nat → Value) (H : Heap) : wpE tab P z18_pi z18_c20 (nQ fun l H => S (l.getD 2 undef) H) ((List.range 29).map x) H = z18_g28 S (x 3) H := by kernel_rfl
def z18_s24 (x0 x3 x5 : Value) (K1 : Value → Value → Value →  Heap → Prop) (R : Value → Heap → Prop) (H : Heap) : Prop :=
  z18_g25 (fun x0 x3 x5 x13 H => brV x13
  (z18_g26 (fun x0 x3 x5 H => z18_g27 (fun x0 x3 x5 H => K1 x0 x3 x5 H) x0 x3 x5 H) x0 x3 x5 H)
  (z18_g28 (fun x2 H => R x2 H) x3 H)) x0 x3 x5 H
noncomputable def z18_q29 (R : Value → Heap → Prop) : Exit → List Value → Heap → Prop := (retQ tab z18_rs R)
noncomputable def z18_q30 (R : Value → Heap → Prop) : Exit → List Value → Heap → Prop := (thenE (fun l H => wpE tab P z18_pi z18_c19 (z18_q29 R) l H) (z18_q29 R))
noncomputable def z18_q31 (R : Value → Heap → Prop) : Exit → List Value → Heap → Prop := (blkE 0 (z18_q30 R))
noncomputable def z18_q32 (K1 : Value → Value → Value →  Heap → Prop) (R : Value → Heap → Prop) : Exit → List Value → Heap → Prop := (thenE (fun l H => K1 (l.getD 0 undef) (l.getD 3 undef) (l.getD 5 undef) H) (z18_q31 R))
theorem z18_s24_i (K1 : Value → Value → Value →  Heap → Prop) (R : Value → Heap → Prop) (l : List Value) (H : Heap) (hl : l.length = 29) (h : z18_s24 (l.getD 0 undef) (l.getD 3 undef) (l.getD 5 undef) K1 R H) : wpE tab P z18_pi z18_c10 (z18_q32 K1 R) l H := by
  refine seqI (c := z18_c10) rfl ?_
  refine seqI (c := z18_c11) rfl ?_
  refine regI hl (Eq.mpr (z18_g25_e _ (fun i => l.getD i undef) _) h) ?_
  clear h hl
  intro l H hl h
  refine thenN ?_
  refine condI (c := z18_c13) rfl h ?_ ?_
  · clear h; intro h
    refine skipI rfl ?_
    refine thenN ?_
    refine seqI (c := z18_c15) rfl ?_
    refine blockI (c := z18_c16) rfl ?_
    refine regI hl (Eq.mpr (z18_g26_e _ (fun i => l.getD i undef) _) h) ?_
    clear h hl
    intro l H hl h
    refine blkN ?_
    refine thenN ?_
    refine regI hl (Eq.mpr (z18_g27_e _ (fun i => l.getD i undef) _) h) ?_
    clear h hl
    intro l H hl h
    refine thenN ?_
    exact h
  · clear h; intro h
    refine exitI (c := z18_c14) rfl ?_
    refine thenX ?_
    refine thenX ?_
    refine blkX ?_
    refine thenN ?_
    refine seqI (c := z18_c19) rfl ?_
    refine regI hl (Eq.mpr (z18_g28_e _ (fun i => l.getD i undef) _) h) ?_
    clear h hl
    intro l H hl h
    refine thenN ?_
    refine retI rfl ?_
    exact h
def z18_l33 (x0 x3 x5 : Value) (R : Value → Heap → Prop) (H : Heap) : Prop :=
  ∃ (I : Value → Heap → Prop) (μ : Value → Heap → Nat), I x5 H ∧ ∀ (y5 : Value) (H : Heap), I y5 H → z18_s24 x0 x3 y5 (fun z0 z3 z5 H' => z0 = x0 ∧ z3 = x3 ∧ (I z5 H' ∧ μ z5 H' < μ y5 H)) R H
def sounderlaw10_set (x0 : Value) (R : Value → Heap → Prop) (H : Heap) : Prop :=
  z18_g21 (fun x0 H => z18_g22 (fun x0 x3 H => z18_g23 (fun x0 x3 x5 H => z18_l33 x0 x3 x5 R H) x0 x3 H) x0 H) x0 H
theorem z18_i (R : Value → Heap → Prop) (x0 : Value) (H : Heap) (h : sounderlaw10_set x0 R H) : wpE tab P z18_pi z18_c1 (retQ tab z18_rs R) [x0, undef, undef, undef, undef, undef, undef, undef, undef, undef, undef, undef, undef, undef, undef, undef, undef, undef, undef, undef, undef, undef, undef, undef, undef, undef, undef, undef, undef] H := by
  obtain ⟨l, hl, el⟩ : ∃ l : List Value, l.length = 29 ∧ l = [x0, undef, undef, undef, undef, undef, undef, undef, undef, undef, undef, undef, undef, undef, undef, undef, undef, undef, undef, undef, undef, undef, undef, undef, undef, undef, undef, undef, undef] := ⟨_, rfl, rfl⟩
  rw [← el]
  have h : (fun (x0 : Value) => z18_g21 (fun x0 H => z18_g22 (fun x0 x3 H => z18_g23 (fun x0 x3 x5 H => z18_l33 x0 x3 x5 R H) x0 x3 H) x0 H) x0 H) (l.getD 0 undef) := by rw [el]; exact h
  clear el
  refine seqI (c := z18_c1) rfl ?_
  refine regI hl (Eq.mpr (z18_g21_e _ (fun i => l.getD i undef) _) h) ?_
  clear h hl
  intro l H hl h
  refine thenN ?_
  refine seqI (c := z18_c3) rfl ?_
  refine regI hl (Eq.mpr (z18_g22_e _ (fun i => l.getD i undef) _) h) ?_
  clear h hl
  intro l H hl h
  refine thenN ?_
  refine seqI (c := z18_c5) rfl ?_
  refine seqI (c := z18_c6) rfl ?_
  refine regI hl (Eq.mpr (z18_g23_e _ (fun i => l.getD i undef) _) h) ?_
  clear h hl
  intro l H hl h
  refine thenN ?_
  refine blockI (c := z18_c8) rfl ?_
  obtain ⟨I, μ, h0, hr⟩ := h
  refine loopI (c := z18_c9) rfl (fun l' H' => l'.getD 0 undef = l.getD 0 undef ∧ l'.getD 3 undef = l.getD 3 undef ∧ I (l'.getD 5 undef) H') (fun l' H' => μ (l'.getD 5 undef) H') hl ⟨rfl, rfl, h0⟩ ?_
  rintro l1 H1 hl1 ⟨e0, e3, hI⟩
  have hb := hr (l1.getD 5 undef) H1 hI
  rw [← e0, ← e3] at hb
  refine wpE_mono _ l1 H1 hl1 ?_ (z18_s24_i _ R l1 H1 hl1 hb)
  intro e l2 H2 hl2 hq
  cases e with
  | normal => exact fun _ => (by obtain ⟨d0, d3, g1, g2⟩ := hq; exact ⟨⟨d0.trans e0, d3.trans e3, g1⟩, g2⟩)
  | _ => exact hq
theorem z18_ok : okB z18_pi z18_c1 = true := by kernel_rfl
theorem z18_ev0 (x0 : Value) (R : Value → Heap → Prop) (H : Heap) (h : sounderlaw10_set x0 R H) : EvL P N.sounderlaw10_set #[x0] H R :=
  EvF_intro (args := [x0]) (k := 28) (rs := z18_rs) tab_ok mixed Try.func18 (show Try.f18.body = some z18_c1 by kernel_rfl) Try.call18 Try.ntmps18 (by kernel_rfl) (okCode_of _ z18_ok) rfl (z18_i R x0 H h)
theorem z18_ev (x0 : Value) (R : Value → Heap → Prop) (H : Heap) (h : sounderlaw10_set x0 R H) : EvF P N.sounderlaw10_set #[x0] H R := .inl (z18_ev0 x0 R H h)
/- 19: sounder/sounderlaw10.none -/
def z19_rs : List ResultVar := [.tmp 6]
noncomputable def z19_c2 : Code := subC (bodyC Try.f19) [0]
noncomputable def z19_c4 : Code := subC (bodyC Try.f19) [1, 0]
noncomputable def z19_c6 : Code := subC (bodyC Try.f19) [1, 1, 0]
noncomputable def z19_c5 : Code := .seq z19_c6 Code.ret
noncomputable def z19_c3 : Code := .seq z19_c4 z19_c5
noncomputable def z19_c1 : Code := .seq z19_c2 z19_c3
def z19_pi (_ : Nat) : Pl := .nil
def z19_g7 (S : Value → Value → Value → Heap → Prop) (x0 x1 x2 : Value) (H : Heap) : Prop :=
  S x0 x1 x2 H
theorem z19_g7_e (S : Value → Value → Value → Heap → Prop) (x : Nat → Value) (H : Heap) : wpE tab P z19_pi z19_c2 (nQ fun l H => S (l.getD 0 undef) (l.getD 1 undef) (l.getD 2 undef) H) ((List.range 34).map x) H = z19_g7 S (x 0) (x 1) (x 2) H := by kernel_rfl
def z19_g8 (S : Value → Value → Value → Value → Heap → Prop) (x0 x1 x2 : Value) (H : Heap) : Prop :=
  EvF P N.persist_Period #[x0, x1, x2] H fun v15 H1 =>
  bnd (exV 0 v15) fun v16 =>
  bnd (exV 1 v15) fun v17 =>
  bnd (exV 2 v15) fun v18 =>
  bnd (exV 3 v15) fun v19 =>
  S v16 v17 v18 v19 H1
theorem z19_g8_e (S : Value → Value → Value → Value → Heap → Prop) (x : Nat → Value) (H : Heap) : wpE tab P z19_pi z19_c4 (nQ fun l H => S (l.getD 7 undef) (l.getD 8 undef) (l.getD 9 undef) (l.getD 10 undef) H) ((List.range 34).map x) H = z19_g8 S (x 0) (x 1) (x 2) H := by kernel_rfl
def z19_g9 (S : Value → Heap → Prop) (x7 x8 x9 x10 : Value) (H : Heap) : Prop :=
  bnd (unV .not x10) fun v21 =>
  brV v21
  (bnd (binV .int .eql x7 (.int .i64 0)) fun v24 =>
  brV v24
  (bnd (binV .int .eql x8 (.int .i64 0)) fun v28 =>
  brV v28
  (bnd (binV .int .eql x9 (.int .i64 0)) fun v32 =>
  S v32 H)
  (S (.bool false) H))
  (S (.bool false) H))
  (S (.bool false) H)
theorem z19_g9_e (S : Value → Heap → Prop) (x : Nat → Value) (H : Heap) : wpE tab P z19_pi z19_c6 (nQ fun l H => S (l.getD 6 undef) H) ((List.range 34).map x) H = z19_g9 S (x 7) (x 8) (x 9) (x 10) H := by kernel_rfl
def sounderlaw10_none (x0 x1 x2 : Value) (R : Value → Heap → Prop) (H : Heap) : Prop :=
  z19_g7 (fun x0 x1 x2 H => z19_g8 (fun x7 x8 x9 x10 H => z19_g9 (fun x6 H => R x6 H) x7 x8 x9 x10 H) x0 x1 x2 H) x0 x1 x2 H
theorem z19_i (R : Value → Heap → Prop) (x0 x1 x2 : Value) (H : Heap) (h : sounderlaw10_none x0 x1 x2 R H) : wpE tab P z19_pi z19_c1 (retQ tab z19_rs R) [x0, x1, x2, undef, undef, undef, undef, undef, undef, undef, undef, undef, undef, undef, undef, undef, undef, undef, undef, undef, undef, undef, undef, undef, undef, undef, undef, undef, undef, undef, undef, undef, undef, undef] H := by
  obtain ⟨l, hl, el⟩ : ∃ l : List Value, l.length = 34 ∧ l = [x0, x1, x2, undef, undef, undef, undef, undef, undef, undef, undef, undef, undef, undef, undef, undef, undef, undef, undef, undef, undef, undef, undef, undef, undef, undef, undef, undef, undef, undef, undef, undef, undef, undef] := ⟨_, rfl, rfl⟩
  rw [← el]
  have h : (fun (x0 x1 x2 : Value) => z19_g7 (fun x0 x1 x2 H => z19_g8 (fun x7 x8 x9 x10 H => z19_g9 (fun x6 H => R x6 H) x7 x8 x9 x10 H) x0 x1 x2 H) x0 x1 x2 H) (l.getD 0 undef) (l.getD 1 undef) (l.getD 2 undef) := by rw [el]; exact h
  clear el
  refine seqI (c := z19_c1) rfl ?_
  refine regI hl (Eq.mpr (z19_g7_e _ (fun i => l.getD i undef) _) h) ?_
  clear h hl
  intro l H hl h
  refine thenN ?_
  refine seqI (c := z19_c3) rfl ?_
  refine regI hl (Eq.mpr (z19_g8_e _ (fun i => l.getD i undef) _) h) ?_
  clear h hl
  intro l H hl h
  refine thenN ?_
  refine seqI (c := z19_c5) rfl ?_
  refine regI hl (Eq.mpr (z19_g9_e _ (fun i => l.getD i undef) _) h) ?_
  clear h hl
  intro l H hl h
  refine thenN ?_
  refine retI rfl ?_
  exact h
theorem z19_ok : okB z19_pi z19_c1 = true := by kernel_rfl
theorem z19_ev0 (x0 x1 x2 : Value) (R : Value → Heap → Prop) (H : Heap) (h : sounderlaw10_none x0 x1 x2 R H) : EvL P N.sounderlaw10_none #[x0, x1, x2] H R :=
  EvF_intro (args := [x0, x1, x2]) (k := 31) (rs := z19_rs) tab_ok mixed Try.func19 (show Try.f19.body = some z19_c1 by kernel_rfl) Try.call19 Try.ntmps19 (by kernel_rfl) (okCode_of _ z19_ok) rfl (z19_i R x0 x1 x2 H h)
theorem z19_ev (x0 x1 x2 : Value) (R : Value → Heap → Prop) (H : Heap) (h : sounderlaw10_none x0 x1 x2 R H) : EvF P N.sounderlaw10_none #[x0, x1, x2] H R := .inl (z19_ev0 x0 x1 x2 R H h)
/- 21: (*sounder/span.Set).Add -/
def z21_rs : List ResultVar := [.tmp 6]
noncomputable def z21_c2 : Code := subC (bodyC Try.f21) [0]
noncomputable def z21_c6 : Code := subC (bodyC Try.f21) [1, 0, 0, 0]
noncomputable def z21_c9 : Code := subC (bodyC Try.f21) [1, 0, 0, 1, 0, 0]
noncomputable def z21_c8 : Code := .seq z21_c9 Code.ret
noncomputable def z21_c12 : Code := subC (bodyC Try.f21) [1, 0, 0, 1, 1, 0, 0]
noncomputable def z21_c15 : Code := subC (bodyC Try.f21) [1, 0, 0, 1, 1, 0, 1, 1, 0]
noncomputable def z21_c17 : Code := subC (bodyC Try.f21) [1, 0, 0, 1, 1, 0, 1, 1, 1, 1]
noncomputable def z21_c16 : Code := .cond (.tmp 13) Code.skip z21_c17
noncomputable def z21_c14 : Code := .seq z21_c15 z21_c16
noncomputable def z21_c13 : Code := .cond (.tmp 13) Code.skip z21_c14
noncomputable def z21_c11 : Code := .seq z21_c12 z21_c13
noncomputable def z21_c20 : Code := subC (bodyC Try.f21) [1, 0, 0, 1, 1, 1, 0, 0]
noncomputable def z21_c19 : Code := .seq z21_c20 Code.ret
noncomputable def z21_c18 : Code := .cond (.tmp 13) z21_c19 Code.skip
noncomputable def z21_c10 : Code := .seq z21_c11 z21_c18
noncomputable def z21_c7 : Code := .cond (.tmp 10) z21_c8 z21_c10
noncomputable def z21_c5 : Code := .seq z21_c6 z21_c7
noncomputable def z21_c4 : Code := .block 0 z21_c5
noncomputable def z21_c22 : Code := subC (bodyC Try.f21) [1, 1, 0]
noncomputable def z21_c24 : Code := subC (bodyC Try.f21) [1, 1, 1, 0]
noncomputable def z21_c26 : Code := subC (bodyC Try.f21) [1, 1, 1, 1, 0]
noncomputable def z21_c29 : Code := subC (bodyC Try.f21) [1, 1, 1, 1, 1, 0, 0]
noncomputable def z21_c31 : Code := subC (bodyC Try.f21) [1, 1, 1, 1, 1, 0, 1, 0]
noncomputable def z21_c30 : Code := .cond (.tmp 39) z21_c31 Code.skip
noncomputable def z21_c28 : Code := .seq z21_c29 z21_c30
noncomputable def z21_c34 : Code := subC (bodyC Try.f21) [1, 1, 1, 1, 1, 1, 0, 0]
noncomputable def z21_c37 : Code := subC (bodyC Try.f21) [1, 1, 1, 1, 1, 1, 0, 1, 0, 0]
noncomputable def z21_c36 : Code := .seq z21_c37 Code.ret
noncomputable def z21_c35 : Code := .cond (.tmp 76) z21_c36 Code.skip
noncomputable def z21_c33 : Code := .seq z21_c34 z21_c35
noncomputable def z21_c39 : Code := subC (bodyC Try.f21) [1, 1, 1, 1, 1, 1, 1, 0]
noncomputable def z21_c41 : Code := subC (bodyC Try.f21) [1, 1, 1, 1, 1, 1, 1, 1, 0]
noncomputable def z21_c40 : Code := .seq z21_c41 Code.ret
noncomputable def z21_c38 : Code := .seq z21_c39 z21_c40
noncomputable def z21_c32 : Code := .seq z21_c33 z21_c38
noncomputable def z21_c27 : Code := .seq z21_c28 z21_c32
noncomputable def z21_c25 : Code := .seq z21_c26 z21_c27
noncomputable def z21_c23 : Code := .seq z21_c24 z21_c25
noncomputable def z21_c21 : Code := .seq z21_c22 z21_c23
noncomputable def z21_c3 : Code := .seq z21_c4 z21_c21
noncomputable def z21_c1 : Code := .seq z21_c2 z21_c3
def z21_pi (i : Nat) : Pl := match i with
  | 11 => (ones [0, 1, 2, 3, 4, 5, 6, 7, 8, 9, 10, 11, 12, 13, 14, 15, 16, 17, 18, 19, 20, 21, 22] .nil)
  | 12 => (ones [0, 1, 2, 3, 4, 5, 6, 7, 8, 9, 10, 11, 12, 13, 14] .nil)
  | 14 => (ones [0, 1, 2, 3, 4, 5, 6, 7, 8, 9, 10, 11, 12] .nil)
  | _ => .nil
def z21_g42 (S : Value → Value → Value → Heap → Prop) (x0 x1 x2 : Value) (H : Heap) : Prop :=
  newE 28 (Value.cells x0) H fun v3 H1 =>
  newE 3 (Value.cells x2) H1 fun v5 H2 =>
  S x1 v3 v5 H2
theorem z21_g42_e (S : Value → Value → Value → Heap → Prop) (x : Nat → Value) (H : Heap) : wpE tab P z21_pi z21_c2 (nQ fun l H => S (l.getD 1 undef) (l.getD 3 undef) (l.getD 5 undef) H) ((List.range 89).map x) H = z21_g42 S (x 0) (x 1) (x 2) H := by kernel_rfl
def z21_g43 (S : Value → Value → Value → Value → Heap → Prop) (x1 x3 x5 : Value) (H : Heap) : Prop :=
  bnd (ldE false 1 x3 H) fun v11 =>
  EvF P N.span_Set_none #[v11] H fun v12 H1 =>
  S x1 x3 x5 v12 H1
theorem z21_g43_e (S : Value → Value → Value → Value → Heap → Prop) (x : Nat → Value) (H : Heap) : wpE tab P z21_pi z21_c6 (nQ fun l H => S (l.getD 1 undef) (l.getD 3 undef) (l.getD 5 undef) (l.getD 10 undef) H) ((List.range 89).map x) H = z21_g43 S (x 1) (x 3) (x 5) H := by kernel_rfl
def z21_g44 (S : Value → Heap → Prop) (H : Heap) : Prop :=
  S (.int .i64 1) H
theorem z21_g44_e (S : Value → Heap → Prop) (x : Nat → Value) (H : Heap) : wpE tab P z21_pi z21_c9 (nQ fun l H => S (l.getD 6 undef) H) ((List.range 89).map x) H = z21_g44 S  H := by kernel_rfl
def z21_g46 (S : Value → Heap → Prop) (H : Heap) : Prop :=
  S (.int .i64 2) H
theorem z21_g46_e (S : Value → Heap → Prop) (x : Nat → Value) (H : Heap) : wpE tab P z21_pi z21_c20 (nQ fun l H => S (l.getD 6 undef) H) ((List.range 89).map x) H = z21_g46 S  H := by kernel_rfl
def z21_g47 (S : Value → Value → Value → Value → Heap → Prop) (x1 x3 x5 : Value) (H : Heap) : Prop :=
  bnd (ldE false 1 x3 H) fun v23 =>
  bnd (binV .int .sub x1 (.int .i64 1)) fun v25 =>
  EvF P N.span_Set_first #[v23, v25] H fun v26 H1 =>
  S x1 x3 x5 v26 H1
theorem z21_g47_e (S : Value → Value → Value → Value → Heap → Prop) (x : Nat → Value) (H : Heap) : wpE tab P z21_pi z21_c22 (nQ fun l H => S (l.getD 1 undef) (l.getD 3 undef) (l.getD 5 undef) (l.getD 7 undef) H) ((List.range 89).map x) H = z21_g47 S (x 1) (x 3) (x 5) H := by kernel_rfl
def z21_g48 (S : Value → Value → Value → Value → Value → Heap → Prop) (x1 x3 x5 x7 : Value) (H : Heap) : Prop :=
  bnd (ldE false 1 x3 H) fun v27 =>
  bnd (nilV v27) fun v28 =>
  bnd (faV 1 v28) fun v29 =>
  bnd (ldE false 1 v29 H) fun v30 =>
  bnd (lenV v30) fun v31 =>
  EvF P N.sort_Search #[v31, (.func (.func N.span_Set_Add_1) #[] #[x3, x5])] H fun v33 H1 =>
  S x1 x3 x5 x7 v33 H1
theorem z21_g48_e (S : Value → Value → Value → Value → Value → Heap → Prop) (x : Nat → Value) (H : Heap) : wpE tab P z21_pi z21_c24 (nQ fun l H => S (l.getD 1 undef) (l.getD 3 undef) (l.getD 5 undef) (l.getD 7 undef) (l.getD 8 undef) H) ((List.range 89).map x) H = z21_g48 S (x 1) (x 3) (x 5) (x 7) H := by kernel_rfl
def z21_g49 (S : Value → Value → Value → Value → Value → Value → Heap → Prop) (x1 x3 x5 x7 x8 : Value) (H : Heap) : Prop :=
  bnd (ldE false 1 x5 H) fun v35 =>
  bnd (buildV #[(.int .i64 0), (.int .i64 0)] (places [(0, 1), (1, 1)]) [(0, x1), (1, v35)]) fun v36 =>
  newE 45 #[(.int .i64 0), (.int .i64 0)] H fun v9 H1 =>
  bnd (stE 2 v9 v36 H1) fun H2 =>
  S x1 x3 x5 x7 x8 v9 H2
theorem z21_g49_e (S : Value → Value → Value → Value → Value → Value → Heap → Prop) (x : Nat → Value) (H : Heap) : wpE tab P z21_pi z21_c26 (nQ fun l H => S (l.getD 1 undef) (l.getD 3 undef) (l.getD 5 undef) (l.getD 7 undef) (l.getD 8 undef) (l.getD 9 undef) H) ((List.range 89).map x) H = z21_g49 S (x 1) (x 3) (x 5) (x 7) (x 8) H := by kernel_rfl
def z21_g51 (S : Value → Value → Value → Value → Value → Heap → Prop) (x3 x7 x8 x9 : Value) (H : Heap) : Prop :=
  bnd (ldE false 1 x3 H) fun v62 =>
  bnd (nilV v62) fun v63 =>
  bnd (faV 1 v63) fun v64 =>
  bnd (ldE false 1 v64 H) fun v65 =>
  bnd (lenV v65) fun v66 =>
  bnd (binV .int .sub x8 x7) fun v69 =>
  bnd (binV .int .sub v66 v69) fun v70 =>
  bnd (binV .int .add v70 (.int .i64 1)) fun v71 =>
  bnd (ldE false 1 x3 H) fun v72 =>
  bnd (nilV v72) fun v73 =>
  bnd (faV 0 v73) fun v74 =>
  bnd (ldE false 1 v74 H) fun v75 =>
  bnd (binV .int .gtr v71 v75) fun v76 =>
  S x3 x7 x8 x9 v76 H
theorem z21_g51_e (S : Value → Value → Value → Value → Value → Heap → Prop) (x : Nat → Value) (H : Heap) : wpE tab P z21_pi z21_c34 (nQ fun l H => S (l.getD 3 undef) (l.getD 7 undef) (l.getD 8 undef) (l.getD 9 undef) (l.getD 76 undef) H) ((List.range 89).map x) H = z21_g51 S (x 3) (x 7) (x 8) (x 9) H := by kernel_rfl
def z21_g52 (S : Value → Heap → Prop) (H : Heap) : Prop :=
  S (.int .i64 5) H
theorem z21_g52_e (S : Value → Heap → Prop) (x : Nat → Value) (H : Heap) : wpE tab P z21_pi z21_c37 (nQ fun l H => S (l.getD 6 undef) H) ((List.range 89).map x) H = z21_g52 S  H := by kernel_rfl
def z21_g53 (S : Heap → Prop) (x3 x7 x8 x9 : Value) (H : Heap) : Prop :=
  bnd (ldE false 1 x3 H) fun v77 =>
  bnd (ldE false 1 x3 H) fun v78 =>
  bnd (nilV v78) fun v79 =>
  bnd (faV 1 v79) fun v80 =>
  bnd (ldE false 1 v80 H) fun v81 =>
  bnd (ldE true 2 x9 H) fun v84 =>
  bslE 45 #[(.int .i64 0), (.int .i64 0)] 2 1 [(0, v84)] H fun v85 H1 =>
  ((bnd (ldE false 1 v80 H1) fun v' => v' = v81) ∧
  ((bnd (ldE false 1 x3 H1) fun v' => v' = v78) ∧
  ((bnd (ldE false 1 x3 H1) fun v' => v' = v77) ∧
  EvF P N.slices_Replace_Range #[v81, x7, x8, v85] H1 fun v86 H2 =>
  ((bnd (ldE false 1 x3 H2) fun v' => v' = v78) ∧
  ((bnd (ldE false 1 x3 H2) fun v' => v' = v77) ∧
  bnd (nilV v77) fun v87 =>
  bnd (faV 1 v87) fun v88 =>
  bnd (stE 1 v88 v86 H2) fun H3 =>
  S H3)))))
theorem z21_g53_e (S : Heap → Prop) (x : Nat → Value) (H : Heap) : wpE tab P z21_pi z21_c39 (nQ fun _ H => S  H) ((List.range 89).map x) H = z21_g53 S (x 3) (x 7) (x 8) (x 9) H := by kernel_rfl
def z21_g54 (S : Value → Heap → Prop) (H : Heap) : Prop :=
  S (.int .i64 0) H
theorem z21_g54_e (S : Value → Heap → Prop) (x : Nat → Value) (H : Heap) : wpE tab P z21_pi z21_c41 (nQ fun l H => S (l.getD 6 undef) H) ((List.range 89).map x) H = z21_g54 S  H := by kernel_rfl
def z21_s50 (x3 x7 x8 x9 : Value) (R : Value → Heap → Prop) (H : Heap) : Prop :=
  z21_g51 (fun x3 x7 x8 x9 x76 H => brV x76
  (z21_g52 (fun x6 H => R x6 H) H)
  (z21_g53 (fun H => z21_g54 (fun x6 H => R x6 H) H) x3 x7 x8 x9 H)) x3 x7 x8 x9 H
noncomputable def z21_q55 (R : Value → Heap → Prop) : Exit → List Value → Heap → Prop := (retQ tab z21_rs R)
theorem z21_s50_i (R : Value → Heap → Prop) (l : List Value) (H : Heap) (hl : l.length = 89) (h : z21_s50 (l.getD 3 undef) (l.getD 7 undef) (l.getD 8 undef) (l.getD 9 undef) R H) : wpE tab P z21_pi z21_c32 (z21_q55 R) l H := by
  refine seqI (c := z21_c32) rfl ?_
  refine seqI (c := z21_c33) rfl ?_
  refine regI hl (Eq.mpr (z21_g51_e _ (fun i => l.getD i undef) _) h) ?_
  clear h hl
  intro l H hl h
  refine thenN ?_
  refine condI (c := z21_c35) rfl h ?_ ?_
  · clear h; intro h
    refine seqI (c := z21_c36) rfl ?_
    refine regI hl (Eq.mpr (z21_g52_e _ (fun i => l.getD i undef) _) h) ?_
    clear h hl
    intro l H hl h
    refine thenN ?_
    refine retI rfl ?_
    refine thenR ?_
    exact h
  · clear h; intro h
    refine skipI rfl ?_
    refine thenN ?_
    refine seqI (c := z21_c38) rfl ?_
    refine regI hl (Eq.mpr (z21_g53_e _ (fun i => l.getD i undef) _) h) ?_
    clear h hl
    intro l H hl h
    refine thenN ?_
    refine seqI (c := z21_c40) rfl ?_
    refine regI hl (Eq.mpr (z21_g54_e _ (fun i => l.getD i undef) _) h) ?_
    clear h hl
    intro l H hl h
    refine thenN ?_
    refine retI rfl ?_
    exact h
def z21_g56 (S : Value → Value → Value → Value → Value → Value → Value → Heap → Prop) (x1 x3 x5 x7 x8 x9 : Value) (H : Heap) : Prop :=
  bnd (binV .int .lss x7 x8) fun v39 =>
  S x1 x3 x5 x7 x8 x9 v39 H
theorem z21_g56_e (S : Value → Value → Value → Value → Value → Value → Value → Heap → Prop) (x : Nat → Value) (H : Heap) : wpE tab P z21_pi z21_c29 (nQ fun l H => S (l.getD 1 undef) (l.getD 3 undef) (l.getD 5 undef) (l.getD 7 undef) (l.getD 8 undef) (l.getD 9 undef) (l.getD 39 undef) H) ((List.range 89).map x) H = z21_g56 S (x 1) (x 3) (x 5) (x 7) (x 8) (x 9) H := by kernel_rfl
def z21_g57 (S : Value → Value → Value → Value → Heap → Prop) (x1 x3 x5 x7 x8 x9 : Value) (H : Heap) : Prop :=
  bnd (ldE false 1 x3 H) fun v41 =>
  bnd (nilV v41) fun v42 =>
  bnd (faV 1 v42) fun v43 =>
  bnd (ldE false 1 v43 H) fun v44 =>
  bnd (ixSV 2 v44 x7) fun v46 =>
  bnd (faV 0 v46) fun v47 =>
  bnd (ldE false 1 v47 H) fun v48 =>
  bnd (foldV min2V x1 [v48]) fun v49 =>
  bnd (ldE false 1 x5 H) fun v50 =>
  bnd (ldE false 1 x3 H) fun v51 =>
  bnd (nilV v51) fun v52 =>
  bnd (faV 1 v52) fun v53 =>
  bnd (ldE false 1 v53 H) fun v54 =>
  bnd (binV .int .sub x8 (.int .i64 1)) fun v56 =>
  bnd (ixSV 2 v54 v56) fun v57 =>
  bnd (faV 1 v57) fun v58 =>
  bnd (ldE false 1 v58 H) fun v59 =>
  bnd (foldV max2V v50 [v59]) fun v60 =>
  bnd (buildV #[(.int .i64 0), (.int .i64 0)] (places [(0, 1), (1, 1)]) [(0, v49), (1, v60)]) fun v61 =>
  bnd (stE 2 x9 v61 H) fun H1 =>
  S x3 x7 x8 x9 H1
theorem z21_g57_e (S : Value → Value → Value → Value → Heap → Prop) (x : Nat → Value) (H : Heap) : wpE tab P z21_pi z21_c31 (nQ fun l H => S (l.getD 3 undef) (l.getD 7 undef) (l.getD 8 undef) (l.getD 9 undef) H) ((List.range 89).map x) H = z21_g57 S (x 1) (x 3) (x 5) (x 7) (x 8) (x 9) H := by kernel_rfl
def z21_s45 (x1 x3 x5 x13 : Value) (R : Value → Heap → Prop) (H : Heap) : Prop :=
  brV x13
  (z21_g46 (fun x6 H => R x6 H) H)
  (z21_g47 (fun x1 x3 x5 x7 H => z21_g48 (fun x1 x3 x5 x7 x8 H => z21_g49 (fun x1 x3 x5 x7 x8 x9 H => z21_g56 (fun x1 x3 x5 x7 x8 x9 x39 H => brV x39
  (z21_g57 (fun x3 x7 x8 x9 H => z21_s50 x3 x7 x8 x9 R H) x1 x3 x5 x7 x8 x9 H)
  (z21_s50 x3 x7 x8 x9 R H)) x1 x3 x5 x7 x8 x9 H) x1 x3 x5 x7 x8 H) x1 x3 x5 x7 H) x1 x3 x5 H)
noncomputable def z21_q58 (R : Value → Heap → Prop) : Exit → List Value → Heap → Prop := (thenE (fun l H => wpE tab P z21_pi z21_c21 (z21_q55 R) l H) (z21_q55 R))
noncomputable def z21_q59 (R : Value → Heap → Prop) : Exit → List Value → Heap → Prop := (blkE 0 (z21_q58 R))
theorem z21_s45_i (R : Value → Heap → Prop) (l : List Value) (H : Heap) (hl : l.length = 89) (h : z21_s45 (l.getD 1 undef) (l.getD 3 undef) (l.getD 5 undef) (l.getD 13 undef) R H) : wpE tab P z21_pi z21_c18 (z21_q59 R) l H := by
  refine condI (c := z21_c18) rfl h ?_ ?_
  · clear h; intro h
    refine seqI (c := z21_c19) rfl ?_
    refine regI hl (Eq.mpr (z21_g46_e _ (fun i => l.getD i undef) _) h) ?_
    clear h hl
    intro l H hl h
    refine thenN ?_
    refine retI rfl ?_
    refine blkR ?_
    refine thenR ?_
    exact h
  · clear h; intro h
    refine skipI rfl ?_
    refine blkN ?_
    refine thenN ?_
    refine seqI (c := z21_c21) rfl ?_
    refine regI hl (Eq.mpr (z21_g47_e _ (fun i => l.getD i undef) _) h) ?_
    clear h hl
    intro l H hl h
    refine thenN ?_
    refine seqI (c := z21_c23) rfl ?_
    refine regI hl (Eq.mpr (z21_g48_e _ (fun i => l.getD i undef) _) h) ?_
    clear h hl
    intro l H hl h
    refine thenN ?_
    refine seqI (c := z21_c25) rfl ?_
    refine regI hl (Eq.mpr (z21_g49_e _ (fun i => l.getD i undef) _) h) ?_
    clear h hl
    intro l H hl h
    refine thenN ?_
    refine seqI (c := z21_c27) rfl ?_
    refine seqI (c := z21_c28) rfl ?_
    refine regI hl (Eq.mpr (z21_g56_e _ (fun i => l.getD i undef) _) h) ?_
    clear h hl
    intro l H hl h
    refine thenN ?_
    refine condI (c := z21_c30) rfl h ?_ ?_
    · clear h; intro h
      refine regI hl (Eq.mpr (z21_g57_e _ (fun i => l.getD i undef) _) h) ?_
      clear h hl
      intro l H hl h
      refine thenN ?_
      exact z21_s50_i R l H hl h
    · clear h; intro h
      refine skipI rfl ?_
      refine thenN ?_
      exact z21_s50_i R l H hl h
def z21_g60 (S : Value → Value → Value → Value → Heap → Prop) (x1 x3 x5 : Value) (H : Heap) : Prop :=
  EvF P N.span_is #[x1] H fun v15 H1 =>
  bnd (unV .not v15) fun v16 =>
  S x1 x3 x5 v16 H1
theorem z21_g60_e (S : Value → Value → Value → Value → Heap → Prop) (x : Nat → Value) (H : Heap) : wpE tab P z21_pi z21_c12 (nQ fun l H => S (l.getD 1 undef) (l.getD 3 undef) (l.getD 5 undef) (l.getD 13 undef) H) ((List.range 89).map x) H = z21_g60 S (x 1) (x 3) (x 5) H := by kernel_rfl
def z21_g61 (S : Value → Value → Value → Value → Heap → Prop) (x1 x3 x5 : Value) (H : Heap) : Prop :=
  bnd (ldE false 1 x5 H) fun v17 =>
  EvF P N.span_is #[v17] H fun v18 H1 =>
  bnd (unV .not v18) fun v19 =>
  S x1 x3 x5 v19 H1
theorem z21_g61_e (S : Value → Value → Value → Value → Heap → Prop) (x : Nat → Value) (H : Heap) : wpE tab P z21_pi z21_c15 (nQ fun l H => S (l.getD 1 undef) (l.getD 3 undef) (l.getD 5 undef) (l.getD 13 undef) H) ((List.range 89).map x) H = z21_g61 S (x 1) (x 3) (x 5) H := by kernel_rfl
def z21_g62 (S : Value → Value → Value → Value → Heap → Prop) (x1 x3 x5 : Value) (H : Heap) : Prop :=
  bnd (ldE false 1 x5 H) fun v21 =>
  bnd (binV .int .gtr x1 v21) fun v22 =>
  S x1 x3 x5 v22 H
theorem z21_g62_e (S : Value → Value → Value → Value → Heap → Prop) (x : Nat → Value) (H : Heap) : wpE tab P z21_pi z21_c17 (nQ fun l H => S (l.getD 1 undef) (l.getD 3 undef) (l.getD 5 undef) (l.getD 13 undef) H) ((List.range 89).map x) H = z21_g62 S (x 1) (x 3) (x 5) H := by kernel_rfl
def span_Set_Add (x0 x1 x2 : Value) (R : Value → Heap → Prop) (H : Heap) : Prop :=
  z21_g42 (fun x1 x3 x5 H => z21_g43 (fun x1 x3 x5 x10 H => brV x10
  (z21_g44 (fun x6 H => R x6 H) H)
  (z21_g60 (fun x1 x3 x5 x13 H => brV x13
  (z21_s45 x1 x3 x5 x13 R H)
  (z21_g61 (fun x1 x3 x5 x13 H => brV x13
  (z21_s45 x1 x3 x5 x13 R H)
  (z21_g62 (fun x1 x3 x5 x13 H => z21_s45 x1 x3 x5 x13 R H) x1 x3 x5 H)) x1 x3 x5 H)) x1 x3 x5 H)) x1 x3 x5 H) x0 x1 x2 H
theorem z21_i (R : Value → Heap → Prop) (x0 x1 x2 : Value) (H : Heap) (h : span_Set_Add x0 x1 x2 R H) : wpE tab P z21_pi z21_c1 (retQ tab z21_rs R) [x0, x1, x2, undef, undef, undef, undef, undef, undef, undef, undef, undef, undef, undef, undef, undef, undef, undef, undef, undef, undef, undef, undef, undef, undef, undef, undef, undef, undef, undef, undef, undef, undef, undef, undef, undef, undef, undef, undef, undef, undef, undef, undef, undef, undef, undef, undef, undef, undef, undef, undef, undef, undef, undef, undef, undef, undef, undef, undef, undef, undef, undef, undef, undef, undef, undef, undef, undef, undef, undef, undef, undef, undef, undef, undef, undef, undef, undef, undef, undef, undef, undef, undef, undef, undef, undef, undef, undef, undef] H := by
  obtain ⟨l, hl, el⟩ : ∃ l : List Value, l.length = 89 ∧ l = [x0, x1, x2, undef, undef, undef, undef, undef, undef, undef, undef, undef, undef, undef, undef, undef, undef, undef, undef, undef, undef, undef, undef, undef, undef, undef, undef, undef, undef, undef, undef, undef, undef, undef, undef, undef, undef, undef, undef, undef, undef, undef, undef, undef, undef, undef, undef, undef, undef, undef, undef, undef, undef, undef, undef, undef, undef, undef, undef, undef, undef, undef, undef, undef, undef, undef, undef, undef, undef, undef, undef, undef, undef, undef, undef, undef, undef, undef, undef, undef, undef, undef, undef, undef, undef, undef, undef, undef, undef] := ⟨_, rfl, rfl⟩
  rw [← el]
  have h : (fun (x0 x1 x2 : Value) => z21_g42 (fun x1 x3 x5 H => z21_g43 (fun x1 x3 x5 x10 H => brV x10
(z21_g44 (fun x6 H => R x6 H) H)
(z21_g60 (fun x1 x3 x5 x13 H => brV x13
(z21_s45 x1 x3 x5 x13 R H)
(z21_g61 (fun x1 x3 x5 x13 H => brV x13
(z21_s45 x1 x3 x5 x13 R H)
(z21_g62 (fun x1 x3 x5 x13 H => z21_s45 x1 x3 x5 x13 R H) x1 x3 x5 H)) x1 x3 x5 H)) x1 x3 x5 H)) x1 x3 x5 H) x0 x1 x2 H) (l.getD 0 undef) (l.getD 1 undef) (l.getD 2 undef) := by rw [el]; exact h
  clear el
  refine seqI (c := z21_c1) rfl ?_
  refine regI hl (Eq.mpr (z21_g42_e _ (fun i => l.getD i undef) _) h) ?_
  clear h hl
  intro l H hl h
  refine thenN ?_
  refine seqI (c := z21_c3) rfl ?_
  refine blockI (c := z21_c4) rfl ?_
  refine seqI (c := z21_c5) rfl ?_
  refine regI hl (Eq.mpr (z21_g43_e _ (fun i => l.getD i undef) _) h) ?_
  clear h hl
  intro l H hl h
  refine thenN ?_
  refine condI (c := z21_c7) rfl h ?_ ?_
  · clear h; intro h
    refine seqI (c := z21_c8) rfl ?_
    refine regI hl (Eq.mpr (z21_g44_e _ (fun i => l.getD i undef) _) h) ?_
    clear h hl
    intro l H hl h
    refine thenN ?_
    refine retI rfl ?_
    refine blkR ?_
    refine thenR ?_
    exact h
  · clear h; intro h
    refine seqI (c := z21_c10) rfl ?_
    refine seqI (c := z21_c11) rfl ?_
    refine regI hl (Eq.mpr (z21_g60_e _ (fun i => l.getD i undef) _) h) ?_
    clear h hl
    intro l H hl h
    refine thenN ?_
    refine condI (c := z21_c13) rfl h ?_ ?_
    · clear h; intro h
      refine skipI rfl ?_
      refine thenN ?_
      exact z21_s45_i R l H hl h
    · clear h; intro h
      refine seqI (c := z21_c14) rfl ?_
      refine regI hl (Eq.mpr (z21_g61_e _ (fun i => l.getD i undef) _) h) ?_
      clear h hl
      intro l H hl h
      refine thenN ?_
      refine condI (c := z21_c16) rfl h ?_ ?_
      · clear h; intro h
        refine skipI rfl ?_
        refine thenN ?_
        exact z21_s45_i R l H hl h
      · clear h; intro h
        refine regI hl (Eq.mpr (z21_g62_e _ (fun i => l.getD i undef) _) h) ?_
        clear h hl
        intro l H hl h
        refine thenN ?_
        exact z21_s45_i R l H hl h
theorem z21_ok : okB z21_pi z21_c1 = true := by kernel_rfl
theorem z21_ev0 (x0 x1 x2 : Value) (R : Value → Heap → Prop) (H : Heap) (h : span_Set_Add x0 x1 x2 R H) : EvL P N.span_Set_Add #[x0, x1, x2] H R :=
  EvF_intro (args := [x0, x1, x2]) (k := 86) (rs := z21_rs) tab_ok mixed Try.func21 (show Try.f21.body = some z21_c1 by kernel_rfl) Try.call21 Try.ntmps21 (by kernel_rfl) (okCode_of _ z21_ok) rfl (z21_i R x0 x1 x2 H h)
theorem z21_ev (x0 x1 x2 : Value) (R : Value → Heap → Prop) (H : Heap) (h : span_Set_Add x0 x1 x2 R H) : EvF P N.span_Set_Add #[x0, x1, x2] H R := .inl (z21_ev0 x0 x1 x2 R H h)
/- 22: sounder/loss.Check -/
def z22_rs : List ResultVar := [.tmp 2]
noncomputable def z22_c2 : Code := subC (bodyC Try.f22) [0]
noncomputable def z22_c4 : Code := subC (bodyC Try.f22) [1, 0]
noncomputable def z22_c6 : Code := subC (bodyC Try.f22) [1, 1, 0]
noncomputable def z22_c9 : Code := subC (bodyC Try.f22) [1, 1, 1, 0, 0]
noncomputable def z22_c12 : Code := subC (bodyC Try.f22) [1, 1, 1, 0, 1, 0, 0]
noncomputable def z22_c11 : Code := .seq z22_c12 Code.ret
noncomputable def z22_c10 : Code := .cond (.tmp 13) z22_c11 Code.skip
noncomputable def z22_c8 : Code := .seq z22_c9 z22_c10
noncomputable def z22_c14 : Code := subC (bodyC Try.f22) [1, 1, 1, 1, 0]
noncomputable def z22_c13 : Code := .seq z22_c14 Code.ret
noncomputable def z22_c7 : Code := .seq z22_c8 z22_c13
noncomputable def z22_c5 : Code := .seq z22_c6 z22_c7
noncomputable def z22_c3 : Code := .seq z22_c4 z22_c5
noncomputable def z22_c1 : Code := .seq z22_c2 z22_c3
def z22_pi (_ : Nat) : Pl := .nil
def z22_g15 (S : Value → Heap → Prop) (x0 : Value) (H : Heap) : Prop :=
  S x0 H
theorem z22_g15_e (S : Value → Heap → Prop) (x : Nat → Value) (H : Heap) : wpE tab P z22_pi z22_c2 (nQ fun l H => S (l.getD 0 undef) H) ((List.range 14).map x) H = z22_g15 S (x 0) H := by kernel_rfl
def z22_g16 (S : Value → Value → Heap → Prop) (x0 : Value) (H : Heap) : Prop :=
  newE 3 #[(.int .i64 0)] H fun v3 H1 =>
  bnd (stE 1 v3 (.int .i64 (-1)) H1) fun H2 =>
  S x0 v3 H2
theorem z22_g16_e (S : Value → Value → Heap → Prop) (x : Nat → Value) (H : Heap) : wpE tab P z22_pi z22_c4 (nQ fun l H => S (l.getD 0 undef) (l.getD 3 undef) H) ((List.range 14).map x) H = z22_g16 S (x 0) H := by kernel_rfl
def z22_g17 (S : Value → Value → Heap → Prop) (x0 x3 : Value) (H : Heap) : Prop :=
  S x0 (.func (.func N.loss_Check_1) #[] #[x3]) H
theorem z22_g17_e (S : Value → Value → Heap → Prop) (x : Nat → Value) (H : Heap) : wpE tab P z22_pi z22_c6 (nQ fun l H => S (l.getD 0 undef) (l.getD 4 undef) H) ((List.range 14).map x) H = z22_g17 S (x 0) (x 3) H := by kernel_rfl
def z22_g18 (S : Value → Heap → Prop) (x0 x4 : Value) (H : Heap) : Prop :=
  bnd (lenV x0) fun v7 =>
  bnd (binV .int .gtr v7 (.int .i64 256)) fun v8 =>
  brV v8
  (S (.bool true) H)
  (EvF P N.slices_ContainsFunc_Packet #[x0, x4] H fun v12 H1 =>
  S v12 H1)
theorem z22_g18_e (S : Value → Heap → Prop) (x : Nat → Value) (H : Heap) : wpE tab P z22_pi z22_c9 (nQ fun l H => S (l.getD 13 undef) H) ((List.range 14).map x) H = z22_g18 S (x 0) (x 4) H := by kernel_rfl
def z22_g19 (S : Value → Heap → Prop) (H : Heap) : Prop :=
  S (.int .i64 2) H
theorem z22_g19_e (S : Value → Heap → Prop) (x : Nat → Value) (H : Heap) : wpE tab P z22_pi z22_c12 (nQ fun l H => S (l.getD 2 undef) H) ((List.range 14).map x) H = z22_g19 S  H := by kernel_rfl
def z22_g20 (S : Value → Heap → Prop) (H : Heap) : Prop :=
  S (.int .i64 0) H
theorem z22_g20_e (S : Value → Heap → Prop) (x : Nat → Value) (H : Heap) : wpE tab P z22_pi z22_c14 (nQ fun l H => S (l.getD 2 undef) H) ((List.range 14).map x) H = z22_g20 S  H := by kernel_rfl
def loss_Check (x0 : Value) (R : Value → Heap → Prop) (H : Heap) : Prop :=
  z22_g15 (fun x0 H => z22_g16 (fun x0 x3 H => z22_g17 (fun x0 x4 H => z22_g18 (fun x13 H => brV x13
  (z22_g19 (fun x2 H => R x2 H) H)
  (z22_g20 (fun x2 H => R x2 H) H)) x0 x4 H) x0 x3 H) x0 H) x0 H
theorem z22_i (R : Value → Heap → Prop) (x0 : Value) (H : Heap) (h : loss_Check x0 R H) : wpE tab P z22_pi z22_c1 (retQ tab z22_rs R) [x0, undef, undef, undef, undef, undef, undef, undef, undef, undef, undef, undef, undef, undef] H := by
  obtain ⟨l, hl, el⟩ : ∃ l : List Value, l.length = 14 ∧ l = [x0, undef, undef, undef, undef, undef, undef, undef, undef, undef, undef, undef, undef, undef] := ⟨_, rfl, rfl⟩
  rw [← el]
  have h : (fun (x0 : Value) => z22_g15 (fun x0 H => z22_g16 (fun x0 x3 H => z22_g17 (fun x0 x4 H => z22_g18 (fun x13 H => brV x13
(z22_g19 (fun x2 H => R x2 H) H)
(z22_g20 (fun x2 H => R x2 H) H)) x0 x4 H) x0 x3 H) x0 H) x0 H) (l.getD 0 undef) := by rw [el]; exact h
  clear el
  refine seqI (c := z22_c1) rfl ?_
  refine regI hl (Eq.mpr (z22_g15_e _ (fun i => l.getD i undef) _) h) ?_
  clear h hl
  intro l H hl h
  refine thenN ?_
  refine seqI (c := z22_c3) rfl ?_
  refine regI hl (Eq.mpr (z22_g16_e _ (fun i => l.getD i undef) _) h) ?_
  clear h hl
  intro l H hl h
  refine thenN ?_
  refine seqI (c := z22_c5) rfl ?_
  refine regI hl (Eq.mpr (z22_g17_e _ (fun i => l.getD i undef) _) h) ?_
  clear h hl
  intro l H hl h
  refine thenN ?_
  refine seqI (c := z22_c7) rfl ?_
  refine seqI (c := z22_c8) rfl ?_
  refine regI hl (Eq.mpr (z22_g18_e _ (fun i => l.getD i undef) _) h) ?_
  clear h hl
  intro l H hl h
  refine thenN ?_
  refine condI (c := z22_c10) rfl h ?_ ?_
  · clear h; intro h
    refine seqI (c := z22_c11) rfl ?_
    refine regI hl (Eq.mpr (z22_g19_e _ (fun i => l.getD i undef) _) h) ?_
    clear h hl
    intro l H hl h
    refine thenN ?_
    refine retI rfl ?_
    refine thenR ?_
    exact h
  · clear h; intro h
    refine skipI rfl ?_
    refine thenN ?_
    refine seqI (c := z22_c13) rfl ?_
    refine regI hl (Eq.mpr (z22_g20_e _ (fun i => l.getD i undef) _) h) ?_
    clear h hl
    intro l H hl h
    refine thenN ?_
    refine retI rfl ?_
    exact h
theorem z22_ok : okB z22_pi z22_c1 = true := by kernel_rfl
theorem z22_ev0 (x0 : Value) (R : Value → Heap → Prop) (H : Heap) (h : loss_Check x0 R H) : EvL P N.loss_Check #[x0] H R :=
  EvF_intro (args := [x0]) (k := 13) (rs := z22_rs) tab_ok mixed Try.func22 (show Try.f22.body = some z22_c1 by kernel_rfl) Try.call22 Try.ntmps22 (by kernel_rfl) (okCode_of _ z22_ok) rfl (z22_i R x0 H h)
theorem z22_ev (x0 : Value) (R : Value → Heap → Prop) (H : Heap) (h : loss_Check x0 R H) : EvF P N.loss_Check #[x0] H R := .inl (z22_ev0 x0 R H h)
/- 23: sounder/sat.Is -/
def z23_rs : List ResultVar := [.tmp 2]
noncomputable def z23_c2 : Code := subC (bodyC Try.f23) [0]
noncomputable def z23_c4 : Code := subC (bodyC Try.f23) [1, 0]
noncomputable def z23_c3 : Code := .seq z23_c4 Code.ret
noncomputable def z23_c1 : Code := .seq z23_c2 z23_c3
def z23_pi (_ : Nat) : Pl := .nil
def z23_g5 (S : Value → Heap → Prop) (x0 : Value) (H : Heap) : Prop :=
  S x0 H
theorem z23_g5_e (S : Value → Heap → Prop) (x : Nat → Value) (H : Heap) : wpE tab P z23_pi z23_c2 (nQ fun l H => S (l.getD 0 undef) H) ((List.range 7).map x) H = z23_g5 S (x 0) H := by kernel_rfl
def z23_g6 (S : Value → Heap → Prop) (x0 : Value) (H : Heap) : Prop :=
  EvF P N.sat_Num #[x0] H fun v5 H1 =>
  bnd (binV .int .eql x0 v5) fun v6 =>
  S v6 H1
theorem z23_g6_e (S : Value → Heap → Prop) (x : Nat → Value) (H : Heap) : wpE tab P z23_pi z23_c4 (nQ fun l H => S (l.getD 2 undef) H) ((List.range 7).map x) H = z23_g6 S (x 0) H := by kernel_rfl
def sat_Is (x0 : Value) (R : Value → Heap → Prop) (H : Heap) : Prop :=
  z23_g5 (fun x0 H => z23_g6 (fun x2 H => R x2 H) x0 H) x0 H
theorem z23_i (R : Value → Heap → Prop) (x0 : Value) (H : Heap) (h : sat_Is x0 R H) : wpE tab P z23_pi z23_c1 (retQ tab z23_rs R) [x0, undef, undef, undef, undef, undef, undef] H := by
  obtain ⟨l, hl, el⟩ : ∃ l : List Value, l.length = 7 ∧ l = [x0, undef, undef, undef, undef, undef, undef] := ⟨_, rfl, rfl⟩
  rw [← el]
  have h : (fun (x0 : Value) => z23_g5 (fun x0 H => z23_g6 (fun x2 H => R x2 H) x0 H) x0 H) (l.getD 0 undef) := by rw [el]; exact h
  clear el
  refine seqI (c := z23_c1) rfl ?_
  refine regI hl (Eq.mpr (z23_g5_e _ (fun i => l.getD i undef) _) h) ?_
  clear h hl
  intro l H hl h
  refine thenN ?_
  refine seqI (c := z23_c3) rfl ?_
  refine regI hl (Eq.mpr (z23_g6_e _ (fun i => l.getD i undef) _) h) ?_
  clear h hl
  intro l H hl h
  refine thenN ?_
  refine retI rfl ?_
  exact h
theorem z23_ok : okB z23_pi z23_c1 = true := by kernel_rfl
theorem z23_ev0 (x0 : Value) (R : Value → Heap → Prop) (H : Heap) (h : sat_Is x0 R H) : EvL P N.sat_Is #[x0] H R :=
  EvF_intro (args := [x0]) (k := 6) (rs := z23_rs) tab_ok mixed Try.func23 (show Try.f23.body = some z23_c1 by kernel_rfl) Try.call23 Try.ntmps23 (by kernel_rfl) (okCode_of _ z23_ok) rfl (z23_i R x0 H h)
theorem z23_ev (x0 : Value) (R : Value → Heap → Prop) (H : Heap) (h : sat_Is x0 R H) : EvF P N.sat_Is #[x0] H R := .inl (z23_ev0 x0 R H h)
/- 24: sounder/persist.Period$1 -/
def z24_rs : List ResultVar := []
noncomputable def z24_c2 : Code := subC (bodyC Try.f24) [0]
noncomputable def z24_c4 : Code := subC (bodyC Try.f24) [1, 0]
noncomputable def z24_c6 : Code := subC (bodyC Try.f24) [1, 1, 0]
noncomputable def z24_c8 : Code := subC (bodyC Try.f24) [1, 1, 1, 0]
noncomputable def z24_c7 : Code := .cond (.tmp 20) z24_c8 Code.skip
noncomputable def z24_c5 : Code := .seq z24_c6 z24_c7
noncomputable def z24_c3 : Code := .seq z24_c4 z24_c5
noncomputable def z24_c1 : Code := .seq z24_c2 z24_c3
def z24_pi (i : Nat) : Pl := match i with
  | 3 => (ones [0, 1, 2, 3, 4, 5, 6, 7, 8] .nil)
  | _ => .nil
def z24_g9 (S : Value → Value → Value → Value → Value → Value → Heap → Prop) (x0 x1 x2 x3 x4 x5 : Value) (H : Heap) : Prop :=
  newE 38 (Value.cells x0) H fun v6 H1 =>
  newE 38 (Value.cells x1) H1 fun v7 H2 =>
  S x2 x3 x4 x5 v6 v7 H2
theorem z24_g9_e (S : Value → Value → Value → Value → Value → Value → Heap → Prop) (x : Nat → Value) (H : Heap) : wpE tab P z24_pi z24_c2 (nQ fun l H => S (l.getD 2 undef) (l.getD 3 undef) (l.getD 4 undef) (l.getD 5 undef) (l.getD 6 undef) (l.getD 7 undef) H) ((List.range 26).map x) H = z24_g9 S (x 0) (x 1) (x 2) (x 3) (x 4) (x 5) H := by kernel_rfl
def z24_g10 (S : Value → Value → Value → Value → Value → Value → Value → Heap → Prop) (x2 x3 x4 x5 x6 x7 : Value) (H : Heap) : Prop :=
  bnd (faV 1 x7) fun v9 =>
  bnd (ldE false 1 v9 H) fun v10 =>
  bnd (faV 1 x6) fun v11 =>
  bnd (ldE false 1 v11 H) fun v12 =>
  bnd (binV .int .sub v10 v12) fun v13 =>
  S x2 x3 x4 x5 x6 x7 v13 H
theorem z24_g10_e (S : Value → Value → Value → Value → Value → Value → Value → Heap → Prop) (x : Nat → Value) (H : Heap) : wpE tab P z24_pi z24_c4 (nQ fun l H => S (l.getD 2 undef) (l.getD 3 undef) (l.getD 4 undef) (l.getD 5 undef) (l.getD 6 undef) (l.getD 7 undef) (l.getD 8 undef) H) ((List.range 26).map x) H = z24_g10 S (x 2) (x 3) (x 4) (x 5) (x 6) (x 7) H := by kernel_rfl
def z24_g11 (S : Value → Value → Value → Value → Value → Value → Value → Value → Heap → Prop) (x2 x3 x4 x5 x6 x7 x8 : Value) (H : Heap) : Prop :=
  bnd (ldE false 1 x2 H) fun v14 =>
  bnd (unV .not v14) fun v15 =>
  brV v15
  (S x2 x3 x4 x5 x6 x7 x8 (.bool true) H)
  (bnd (ldE false 1 x3 H) fun v18 =>
  bnd (binV .int .gtr x8 v18) fun v19 =>
  S x2 x3 x4 x5 x6 x7 x8 v19 H)
theorem z24_g11_e (S : Value → Value → Value → Value → Value → Value → Value → Value → Heap → Prop) (x : Nat → Value) (H : Heap) : wpE tab P z24_pi z24_c6 (nQ fun l H => S (l.getD 2 undef) (l.getD 3 undef) (l.getD 4 undef) (l.getD 5 undef) (l.getD 6 undef) (l.getD 7 undef) (l.getD 8 undef) (l.getD 20 undef) H) ((List.range 26).map x) H = z24_g11 S (x 2) (x 3) (x 4) (x 5) (x 6) (x 7) (x 8) H := by kernel_rfl
def z24_g12 (S : Heap → Prop) (x2 x3 x4 x5 x6 x7 x8 : Value) (H : Heap) : Prop :=
  bnd (faV 0 x6) fun v22 =>
  bnd (ldE false 1 v22 H) fun v23 =>
  bnd (faV 0 x7) fun v24 =>
  bnd (ldE false 1 v24 H) fun v25 =>
  bnd (stE 1 x3 x8 H) fun H1 =>
  ((bnd (ldE false 1 v24 H1) fun v' => v' = v25) ∧
  ((bnd (ldE false 1 v22 H1) fun v' => v' = v23) ∧
  bnd (stE 1 x4 v23 H1) fun H2 =>
  ((bnd (ldE false 1 v24 H2) fun v' => v' = v25) ∧
  bnd (stE 1 x5 v25 H2) fun H3 =>
  bnd (stE 1 x2 (.bool true) H3) fun H4 =>
  S H4)))
theorem z24_g12_e (S : Heap → Prop) (x : Nat → Value) (H : Heap) : wpE tab P z24_pi z24_c8 (nQ fun _ H => S  H) ((List.range 26).map x) H = z24_g12 S (x 2) (x 3) (x 4) (x 5) (x 6) (x 7) (x 8) H := by kernel_rfl
def persist_Period_1 (x0 x1 x2 x3 x4 x5 : Value) (R : Value → Heap → Prop) (H : Heap) : Prop :=
  z24_g9 (fun x2 x3 x4 x5 x6 x7 H => z24_g10 (fun x2 x3 x4 x5 x6 x7 x8 H => z24_g11 (fun x2 x3 x4 x5 x6 x7 x8 x20 H => brV x20
  (z24_g12 (fun H => R (.tuple #[]) H) x2 x3 x4 x5 x6 x7 x8 H)
  (R (.tuple #[]) H)) x2 x3 x4 x5 x6 x7 x8 H) x2 x3 x4 x5 x6 x7 H) x0 x1 x2 x3 x4 x5 H
theorem z24_i (R : Value → Heap → Prop) (x0 x1 x2 x3 x4 x5 : Value) (H : Heap) (h : persist_Period_1 x0 x1 x2 x3 x4 x5 R H) : wpE tab P z24_pi z24_c1 (retQ tab z24_rs R) [x0, x1, x2, x3, x4, x5, undef, undef, undef, undef, undef, undef, undef, undef, undef, undef, undef, undef, undef, undef, undef, undef, undef, undef, undef, undef] H := by
  obtain ⟨l, hl, el⟩ : ∃ l : List Value, l.length = 26 ∧ l = [x0, x1, x2, x3, x4, x5, undef, undef, undef, undef, undef, undef, undef, undef, undef, undef, undef, undef, undef, undef, undef, undef, undef, undef, undef, undef] := ⟨_, rfl, rfl⟩
  rw [← el]
  have h : (fun (x0 x1 x2 x3 x4 x5 : Value) => z24_g9 (fun x2 x3 x4 x5 x6 x7 H => z24_g10 (fun x2 x3 x4 x5 x6 x7 x8 H => z24_g11 (fun x2 x3 x4 x5 x6 x7 x8 x20 H => brV x20
(z24_g12 (fun H => R (.tuple #[]) H) x2 x3 x4 x5 x6 x7 x8 H)
(R (.tuple #[]) H)) x2 x3 x4 x5 x6 x7 x8 H) x2 x3 x4 x5 x6 x7 H) x0 x1 x2 x3 x4 x5 H) (l.getD 0 undef) (l.getD 1 undef) (l.getD 2 undef) (l.getD 3 undef) (l.getD 4 undef) (l.getD 5 undef) := by rw [el]; exact h
  clear el
  refine seqI (c := z24_c1) rfl ?_
  refine regI hl (Eq.mpr (z24_g9_e _ (fun i => l.getD i undef) _) h) ?_
  clear h hl
  intro l H hl h
  refine thenN ?_
  refine seqI (c := z24_c3) rfl ?_
  refine regI hl (Eq.mpr (z24_g10_e _ (fun i => l.getD i undef) _) h) ?_
  clear h hl
  intro l H hl h
  refine thenN ?_
  refine seqI (c := z24_c5) rfl ?_
  refine regI hl (Eq.mpr (z24_g11_e _ (fun i => l.getD i undef) _) h) ?_
  clear h hl
  intro l H hl h
  refine thenN ?_
  refine condI (c := z24_c7) rfl h ?_ ?_
  · clear h; intro h
    refine regI hl (Eq.mpr (z24_g12_e _ (fun i => l.getD i undef) _) h) ?_
    clear h hl
    intro l H hl h
    exact h
  · clear h; intro h
    refine skipI rfl ?_
    exact h
theorem z24_ok : okB z24_pi z24_c1 = true := by kernel_rfl
theorem z24_ev0 (x0 x1 x2 x3 x4 x5 : Value) (R : Value → Heap → Prop) (H : Heap) (h : persist_Period_1 x0 x1 x2 x3 x4 x5 R H) : EvL P N.persist_Period_1 #[x0, x1, x2, x3, x4, x5] H R :=
  EvF_intro (args := [x0, x1, x2, x3, x4, x5]) (k := 20) (rs := z24_rs) tab_ok mixed Try.func24 (show Try.f24.body = some z24_c1 by kernel_rfl) Try.call24 Try.ntmps24 (by kernel_rfl) (okCode_of _ z24_ok) rfl (z24_i R x0 x1 x2 x3 x4 x5 H h)
theorem z24_ev (x0 x1 x2 x3 x4 x5 : Value) (R : Value → Heap → Prop) (H : Heap) (h : persist_Period_1 x0 x1 x2 x3 x4 x5 R H) : EvF P N.persist_Period_1 #[x0, x1, x2, x3, x4, x5] H R := .inl (z24_ev0 x0 x1 x2 x3 x4 x5 R H h)
/- 25: sounder/persist.pairs -/
def z25_rs : List ResultVar := [.tmp 6]
noncomputable def z25_c2 : Code := subC (bodyC Try.f25) [0]
noncomputable def z25_c4 : Code := subC (bodyC Try.f25) [1, 0]
noncomputable def z25_c6 : Code := subC (bodyC Try.f25) [1, 1, 0]
noncomputable def z25_c8 : Code := subC (bodyC Try.f25) [1, 1, 1, 0]
noncomputable def z25_c7 : Code := .seq z25_c8 Code.ret
noncomputable def z25_c5 : Code := .seq z25_c6 z25_c7
noncomputable def z25_c3 : Code := .seq z25_c4 z25_c5
noncomputable def z25_c1 : Code := .seq z25_c2 z25_c3
def z25_pi (_ : Nat) : Pl := .nil
def z25_g9 (S : Value → Value → Value → Heap → Prop) (x0 x1 x2 : Value) (H : Heap) : Prop :=
  newE 25 (Value.cells x0) H fun v3 H1 =>
  newE 28 (Value.cells x1) H1 fun v4 H2 =>
  newE 3 (Value.cells x2) H2 fun v5 H3 =>
  S v3 v4 v5 H3
theorem z25_g9_e (S : Value → Value → Value → Heap → Prop) (x : Nat → Value) (H : Heap) : wpE tab P z25_pi z25_c2 (nQ fun l H => S (l.getD 3 undef) (l.getD 4 undef) (l.getD 5 undef) H) ((List.range 12).map x) H = z25_g9 S (x 0) (x 1) (x 2) H := by kernel_rfl
def z25_g10 (S : Value → Value → Value → Heap → Prop) (x3 x4 x5 : Value) (H : Heap) : Prop :=
  newE 77 #[.nilFunc] H fun v7 H1 =>
  bnd (stE 1 v7 (.func (.func N.persist_pairs_1) #[] #[x5]) H1) fun H2 =>
  S x3 x4 v7 H2
theorem z25_g10_e (S : Value → Value → Value → Heap → Prop) (x : Nat → Value) (H : Heap) : wpE tab P z25_pi z25_c4 (nQ fun l H => S (l.getD 3 undef) (l.getD 4 undef) (l.getD 7 undef) H) ((List.range 12).map x) H = z25_g10 S (x 3) (x 4) (x 5) H := by kernel_rfl
def z25_g11 (S : Value → Value → Value → Heap → Prop) (x3 x4 x7 : Value) (H : Heap) : Prop :=
  newE 82 #[.nilFunc] H fun v8 H1 =>
  bnd (stE 1 v8 (.func (.func N.persist_pairs_2) #[] #[x4]) H1) fun H2 =>
  S x3 x7 v8 H2
theorem z25_g11_e (S : Value → Value → Value → Heap → Prop) (x : Nat → Value) (H : Heap) : wpE tab P z25_pi z25_c6 (nQ fun l H => S (l.getD 3 undef) (l.getD 7 undef) (l.getD 8 undef) H) ((List.range 12).map x) H = z25_g11 S (x 3) (x 4) (x 7) H := by kernel_rfl
def z25_g12 (S : Value → Heap → Prop) (x3 x7 x8 : Value) (H : Heap) : Prop :=
  S (.func (.func N.persist_pairs_3) #[] #[x3, x7, x8]) H
theorem z25_g12_e (S : Value → Heap → Prop) (x : Nat → Value) (H : Heap) : wpE tab P z25_pi z25_c8 (nQ fun l H => S (l.getD 6 undef) H) ((List.range 12).map x) H = z25_g12 S (x 3) (x 7) (x 8) H := by kernel_rfl
def persist_pairs (x0 x1 x2 : Value) (R : Value → Heap → Prop) (H : Heap) : Prop :=
  z25_g9 (fun x3 x4 x5 H => z25_g10 (fun x3 x4 x7 H => z25_g11 (fun x3 x7 x8 H => z25_g12 (fun x6 H => R x6 H) x3 x7 x8 H) x3 x4 x7 H) x3 x4 x5 H) x0 x1 x2 H
theorem z25_i (R : Value → Heap → Prop) (x0 x1 x2 : Value) (H : Heap) (h : persist_pairs x0 x1 x2 R H) : wpE tab P z25_pi z25_c1 (retQ tab z25_rs R) [x0, x1, x2, undef, undef, undef, undef, undef, undef, undef, undef, undef] H := by
  obtain ⟨l, hl, el⟩ : ∃ l : List Value, l.length = 12 ∧ l = [x0, x1, x2, undef, undef, undef, undef, undef, undef, undef, undef, undef] := ⟨_, rfl, rfl⟩
  rw [← el]
  have h : (fun (x0 x1 x2 : Value) => z25_g9 (fun x3 x4 x5 H => z25_g10 (fun x3 x4 x7 H => z25_g11 (fun x3 x7 x8 H => z25_g12 (fun x6 H => R x6 H) x3 x7 x8 H) x3 x4 x7 H) x3 x4 x5 H) x0 x1 x2 H) (l.getD 0 undef) (l.getD 1 undef) (l.getD 2 undef) := by rw [el]; exact h
  clear el
  refine seqI (c := z25_c1) rfl ?_
  refine regI hl (Eq.mpr (z25_g9_e _ (fun i => l.getD i undef) _) h) ?_
  clear h hl
  intro l H hl h
  refine thenN ?_
  refine seqI (c := z25_c3) rfl ?_
  refine regI hl (Eq.mpr (z25_g10_e _ (fun i => l.getD i undef) _) h) ?_
  clear h hl
  intro l H hl h
  refine thenN ?_
  refine seqI (c := z25_c5) rfl ?_
  refine regI hl (Eq.mpr (z25_g11_e _ (fun i => l.getD i undef) _) h) ?_
  clear h hl
  intro l H hl h
  refine thenN ?_
  refine seqI (c := z25_c7) rfl ?_
  refine regI hl (Eq.mpr (z25_g12_e _ (fun i => l.getD i undef) _) h) ?_
  clear h hl
  intro l H hl h
  refine thenN ?_
  refine retI rfl ?_
  exact h
theorem z25_ok : okB z25_pi z25_c1 = true := by kernel_rfl
theorem z25_ev0 (x0 x1 x2 : Value) (R : Value → Heap → Prop) (H : Heap) (h : persist_pairs x0 x1 x2 R H) : EvL P N.persist_pairs #[x0, x1, x2] H R :=
  EvF_intro (args := [x0, x1, x2]) (k := 9) (rs := z25_rs) tab_ok mixed Try.func25 (show Try.f25.body = some z25_c1 by kernel_rfl) Try.call25 Try.ntmps25 (by kernel_rfl) (okCode_of _ z25_ok) rfl (z25_i R x0 x1 x2 H h)
theorem z25_ev (x0 x1 x2 : Value) (R : Value → Heap → Prop) (H : Heap) (h : persist_pairs x0 x1 x2 R H) : EvF P N.persist_pairs #[x0, x1, x2] H R := .inl (z25_ev0 x0 x1 x2 R H h)
/- 26: sounder/rtt.Check -/
def z26_rs : List ResultVar := [.tmp 2]
noncomputable def z26_c2 : Code := subC (bodyC Try.f26) [0]
noncomputable def z26_c5 : Code := subC (bodyC Try.f26) [1, 0, 0]
noncomputable def z26_c9 : Code := subC (bodyC Try.f26) [1, 0, 1, 0, 0, 0]
noncomputable def z26_c11 : Code := subC (bodyC Try.f26) [1, 0, 1, 0, 0, 1, 0]
noncomputable def z26_c14 : Code := subC (bodyC Try.f26) [1, 0, 1, 0, 0, 1, 1, 0, 0]
noncomputable def z26_c13 : Code := .seq z26_c14 Code.ret
noncomputable def z26_c12 : Code := .cond (.tmp 20) z26_c13 Code.skip
noncomputable def z26_c10 : Code := .seq z26_c11 z26_c12
noncomputable def z26_c8 : Code := .seq z26_c9 z26_c10
noncomputable def z26_c16 : Code := subC (bodyC Try.f26) [1, 0, 1, 0, 1, 0]
noncomputable def z26_c15 : Code := .seq z26_c16 Code.ret
noncomputable def z26_c7 : Code := .seq z26_c8 z26_c15
noncomputable def z26_c6 : Code := .cond (.tmp 7) z26_c7 Code.skip
noncomputable def z26_c4 : Code := .seq z26_c5 z26_c6
noncomputable def z26_c19 : Code := subC (bodyC Try.f26) [1, 1, 0, 0]
noncomputable def z26_c22 : Code := subC (bodyC Try.f26) [1, 1, 0, 1, 0, 0]
noncomputable def z26_c21 : Code := .seq z26_c22 Code.ret
noncomputable def z26_c20 : Code := .cond (.tmp 43) z26_c21 Code.skip
noncomputable def z26_c18 : Code := .seq z26_c19 z26_c20
noncomputable def z26_c24 : Code := subC (bodyC Try.f26) [1, 1, 1, 0]
noncomputable def z26_c23 : Code := .seq z26_c24 Code.ret
noncomputable def z26_c17 : Code := .seq z26_c18 z26_c23
noncomputable def z26_c3 : Code := .seq z26_c4 z26_c17
noncomputable def z26_c1 : Code := .seq z26_c2 z26_c3
def z26_pi (_ : Nat) : Pl := .nil
def z26_g25 (S : Value → Heap → Prop) (x0 : Value) (H : Heap) : Prop :=
  newE 36 (Value.cells x0) H fun v1 H1 =>
  S v1 H1
theorem z26_g25_e (S : Value → Heap → Prop) (x : Nat → Value) (H : Heap) : wpE tab P z26_pi z26_c2 (nQ fun l H => S (l.getD 1 undef) H) ((List.range 44).map x) H = z26_g25 S (x 0) H := by kernel_rfl
def z26_g26 (S : Value → Value → Heap → Prop) (x1 : Value) (H : Heap) : Prop :=
  bnd (faV 4 x1) fun v5 =>
  bnd (ldE false 1 v5 H) fun v6 =>
  bnd (binV .int .eql v6 (.int .i64 (-1))) fun v7 =>
  S x1 v7 H
theorem z26_g26_e (S : Value → Value → Heap → Prop) (x : Nat → Value) (H : Heap) : wpE tab P z26_pi z26_c5 (nQ fun l H => S (l.getD 1 undef) (l.getD 7 undef) H) ((List.range 44).map x) H = z26_g26 S (x 1) H := by kernel_rfl
def z26_g27 (S : Value → Value → Value → Heap → Prop) (x1 : Value) (H : Heap) : Prop :=
  bnd (faV 2 x1) fun v9 =>
  bnd (ldE false 1 v9 H) fun v10 =>
  EvF P N.rtt_New #[v10] H fun v11 H1 =>
  bnd (exV 0 v11) fun v12 =>
  bnd (exV 1 v11) fun v13 =>
  newE 36 #[(.int .i64 0), (.int .i64 0), (.int .i64 0), (.int .i64 0), (.int .i64 0)] H1 fun v3 H2 =>
  bnd (stE 5 v3 v12 H2) fun H3 =>
  S x1 v3 v13 H3
theorem z26_g27_e (S : Value → Value → Value → Heap → Prop) (x : Nat → Value) (H : Heap) : wpE tab P z26_pi z26_c9 (nQ fun l H => S (l.getD 1 undef) (l.getD 3 undef) (l.getD 4 undef) H) ((List.range 44).map x) H = z26_g27 S (x 1) H := by kernel_rfl
def z26_g28 (S : Value → Heap → Prop) (x1 x3 x4 : Value) (H : Heap) : Prop :=
  bnd (binV .int .neq x4 (.int .i64 0)) fun v15 =>
  brV v15
  (S (.bool true) H)
  (bnd (ldE true 5 x3 H) fun v17 =>
  bnd (ldE true 5 x1 H) fun v18 =>
  bnd (binV (.agg [true, true, true, true, true]) .neq v17 v18) fun v19 =>
  S v19 H)
theorem z26_g28_e (S : Value → Heap → Prop) (x : Nat → Value) (H : Heap) : wpE tab P z26_pi z26_c11 (nQ fun l H => S (l.getD 20 undef) H) ((List.range 44).map x) H = z26_g28 S (x 1) (x 3) (x 4) H := by kernel_rfl
def z26_g29 (S : Value → Heap → Prop) (H : Heap) : Prop :=
  S (.int .i64 2) H
theorem z26_g29_e (S : Value → Heap → Prop) (x : Nat → Value) (H : Heap) : wpE tab P z26_pi z26_c14 (nQ fun l H => S (l.getD 2 undef) H) ((List.range 44).map x) H = z26_g29 S  H := by kernel_rfl
def z26_g30 (S : Value → Heap → Prop) (H : Heap) : Prop :=
  S (.int .i64 0) H
theorem z26_g30_e (S : Value → Heap → Prop) (x : Nat → Value) (H : Heap) : wpE tab P z26_pi z26_c16 (nQ fun l H => S (l.getD 2 undef) H) ((List.range 44).map x) H = z26_g30 S  H := by kernel_rfl
def z26_g31 (S : Value → Heap → Prop) (x1 : Value) (H : Heap) : Prop :=
  bnd (faV 4 x1) fun v21 =>
  bnd (ldE false 1 v21 H) fun v22 =>
  bnd (faV 0 x1) fun v23 =>
  bnd (ldE false 1 v23 H) fun v24 =>
  bnd (faV 1 x1) fun v25 =>
  bnd (ldE false 1 v25 H) fun v26 =>
  bnd (faV 2 x1) fun v27 =>
  bnd (ldE false 1 v27 H) fun v28 =>
  bnd (faV 3 x1) fun v29 =>
  bnd (ldE false 1 v29 H) fun v30 =>
  bslE 3 #[(.int .i64 0)] 1 5 [(0, v22), (1, v24), (2, v26), (3, v28), (4, v30)] H fun v31 H1 =>
  EvF P N.rtt_isTime #[v31] H1 fun v32 H2 =>
  bnd (unV .not v32) fun v33 =>
  brV v33
  (S (.bool true) H2)
  (bnd (faV 1 x1) fun v35 =>
  bnd (ldE false 1 v35 H2) fun v36 =>
  bnd (faV 0 x1) fun v37 =>
  bnd (ldE false 1 v37 H2) fun v38 =>
  bnd (faV 2 x1) fun v39 =>
  bnd (ldE false 1 v39 H2) fun v40 =>
  bnd (foldV min2V v38 [v40]) fun v41 =>
  bnd (binV .int .gtr v36 v41) fun v42 =>
  S v42 H2)
theorem z26_g31_e (S : Value → Heap → Prop) (x : Nat → Value) (H : Heap) : wpE tab P z26_pi z26_c19 (nQ fun l H => S (l.getD 43 undef) H) ((List.range 44).map x) H = z26_g31 S (x 1) H := by kernel_rfl
def z26_g32 (S : Value → Heap → Prop) (H : Heap) : Prop :=
  S (.int .i64 2) H
theorem z26_g32_e (S : Value → Heap → Prop) (x : Nat → Value) (H : Heap) : wpE tab P z26_pi z26_c22 (nQ fun l H => S (l.getD 2 undef) H) ((List.range 44).map x) H = z26_g32 S  H := by kernel_rfl
def z26_g33 (S : Value → Heap → Prop) (H : Heap) : Prop :=
  S (.int .i64 0) H
theorem z26_g33_e (S : Value → Heap → Prop) (x : Nat → Value) (H : Heap) : wpE tab P z26_pi z26_c24 (nQ fun l H => S (l.getD 2 undef) H) ((List.range 44).map x) H = z26_g33 S  H := by kernel_rfl
def rtt_Check (x0 : Value) (R : Value → Heap → Prop) (H : Heap) : Prop :=
  z26_g25 (fun x1 H => z26_g26 (fun x1 x7 H => brV x7
  (z26_g27 (fun x1 x3 x4 H => z26_g28 (fun x20 H => brV x20
  (z26_g29 (fun x2 H => R x2 H) H)
  (z26_g30 (fun x2 H => R x2 H) H)) x1 x3 x4 H) x1 H)
  (z26_g31 (fun x43 H => brV x43
  (z26_g32 (fun x2 H => R x2 H) H)
  (z26_g33 (fun x2 H => R x2 H) H)) x1 H)) x1 H) x0 H
theorem z26_i (R : Value → Heap → Prop) (x0 : Value) (H : Heap) (h : rtt_Check x0 R H) : wpE tab P z26_pi z26_c1 (retQ tab z26_rs R) [x0, undef, undef, undef, undef, undef, undef, undef, undef, undef, undef, undef, undef, undef, undef, undef, undef, undef, undef, undef, undef, undef, undef, undef, undef, undef, undef, undef, undef, undef, undef, undef, undef, undef, undef, undef, undef, undef, undef, undef, undef, undef, undef, undef] H := by
  obtain ⟨l, hl, el⟩ : ∃ l : List Value, l.length = 44 ∧ l = [x0, undef, undef, undef, undef, undef, undef, undef, undef, undef, undef, undef, undef, undef, undef, undef, undef, undef, undef, undef, undef, undef, undef, undef, undef, undef, undef, undef, undef, undef, undef, undef, undef, undef, undef, undef, undef, undef, undef, undef, undef, undef, undef, undef] := ⟨_, rfl, rfl⟩
  rw [← el]
  have h : (fun (x0 : Value) => z26_g25 (fun x1 H => z26_g26 (fun x1 x7 H => brV x7
(z26_g27 (fun x1 x3 x4 H => z26_g28 (fun x20 H => brV x20
(z26_g29 (fun x2 H => R x2 H) H)
(z26_g30 (fun x2 H => R x2 H) H)) x1 x3 x4 H) x1 H)
(z26_g31 (fun x43 H => brV x43
(z26_g32 (fun x2 H => R x2 H) H)
(z26_g33 (fun x2 H => R x2 H) H)) x1 H)) x1 H) x0 H) (l.getD 0 undef) := by rw [el]; exact h
  clear el
  refine seqI (c := z26_c1) rfl ?_
  refine regI hl (Eq.mpr (z26_g25_e _ (fun i => l.getD i undef) _) h) ?_
  clear h hl
  intro l H hl h
  refine thenN ?_
  refine seqI (c := z26_c3) rfl ?_
  refine seqI (c := z26_c4) rfl ?_
  refine regI hl (Eq.mpr (z26_g26_e _ (fun i => l.getD i undef) _) h) ?_
  clear h hl
  intro l H hl h
  refine thenN ?_
  refine condI (c := z26_c6) rfl h ?_ ?_
  · clear h; intro h
    refine seqI (c := z26_c7) rfl ?_
    refine seqI (c := z26_c8) rfl ?_
    refine regI hl (Eq.mpr (z26_g27_e _ (fun i => l.getD i undef) _) h) ?_
    clear h hl
    intro l H hl h
    refine thenN ?_
    refine seqI (c := z26_c10) rfl ?_
    refine regI hl (Eq.mpr (z26_g28_e _ (fun i => l.getD i undef) _) h) ?_
    clear h hl
    intro l H hl h
    refine thenN ?_
    refine condI (c := z26_c12) rfl h ?_ ?_
    · clear h; intro h
      refine seqI (c := z26_c13) rfl ?_
      refine regI hl (Eq.mpr (z26_g29_e _ (fun i => l.getD i undef) _) h) ?_
      clear h hl
      intro l H hl h
      refine thenN ?_
      refine retI rfl ?_
      refine thenR ?_
      refine thenR ?_
      exact h
    · clear h; intro h
      refine skipI rfl ?_
      refine thenN ?_
      refine seqI (c := z26_c15) rfl ?_
      refine regI hl (Eq.mpr (z26_g30_e _ (fun i => l.getD i undef) _) h) ?_
      clear h hl
      intro l H hl h
      refine thenN ?_
      refine retI rfl ?_
      refine thenR ?_
      exact h
  · clear h; intro h
    refine skipI rfl ?_
    refine thenN ?_
    refine seqI (c := z26_c17) rfl ?_
    refine seqI (c := z26_c18) rfl ?_
    refine regI hl (Eq.mpr (z26_g31_e _ (fun i => l.getD i undef) _) h) ?_
    clear h hl
    intro l H hl h
    refine thenN ?_
    refine condI (c := z26_c20) rfl h ?_ ?_
    · clear h; intro h
      refine seqI (c := z26_c21) rfl ?_
      refine regI hl (Eq.mpr (z26_g32_e _ (fun i => l.getD i undef) _) h) ?_
      clear h hl
      intro l H hl h
      refine thenN ?_
      refine retI rfl ?_
      refine thenR ?_
      exact h
    · clear h; intro h
      refine skipI rfl ?_
      refine thenN ?_
      refine seqI (c := z26_c23) rfl ?_
      refine regI hl (Eq.mpr (z26_g33_e _ (fun i => l.getD i undef) _) h) ?_
      clear h hl
      intro l H hl h
      refine thenN ?_
      refine retI rfl ?_
      exact h
theorem z26_ok : okB z26_pi z26_c1 = true := by kernel_rfl
theorem z26_ev0 (x0 : Value) (R : Value → Heap → Prop) (H : Heap) (h : rtt_Check x0 R H) : EvL P N.rtt_Check #[x0] H R :=
  EvF_intro (args := [x0]) (k := 43) (rs := z26_rs) tab_ok mixed Try.func26 (show Try.f26.body = some z26_c1 by kernel_rfl) Try.call26 Try.ntmps26 (by kernel_rfl) (okCode_of _ z26_ok) rfl (z26_i R x0 H h)
theorem z26_ev (x0 : Value) (R : Value → Heap → Prop) (H : Heap) (h : rtt_Check x0 R H) : EvF P N.rtt_Check #[x0] H R := .inl (z26_ev0 x0 R H h)
/- 27: sounder/pto.Persist -/
def z27_rs : List ResultVar := [.tmp 4]
noncomputable def z27_c2 : Code := subC (bodyC Try.f27) [0]
noncomputable def z27_c4 : Code := subC (bodyC Try.f27) [1, 0]
noncomputable def z27_c3 : Code := .seq z27_c4 Code.ret
noncomputable def z27_c1 : Code := .seq z27_c2 z27_c3
def z27_pi (_ : Nat) : Pl := .nil
def z27_g5 (S : Value → Value → Heap → Prop) (x0 x1 : Value) (H : Heap) : Prop :=
  newE 36 (Value.cells x0) H fun v2 H1 =>
  S x1 v2 H1
theorem z27_g5_e (S : Value → Value → Heap → Prop) (x : Nat → Value) (H : Heap) : wpE tab P z27_pi z27_c2 (nQ fun l H => S (l.getD 1 undef) (l.getD 2 undef) H) ((List.range 10).map x) H = z27_g5 S (x 0) (x 1) H := by kernel_rfl
def z27_g6 (S : Value → Heap → Prop) (x1 x2 : Value) (H : Heap) : Prop :=
  bnd (ldE true 5 x2 H) fun v5 =>
  EvF P N.pto_Base #[v5, (.int .i64 2), x1] H fun v7 H1 =>
  bnd (binV .int .mul (.int .i64 3) v7) fun v8 =>
  EvF P N.pto_time #[v8] H1 fun v9 H2 =>
  S v9 H2
theorem z27_g6_e (S : Value → Heap → Prop) (x : Nat → Value) (H : Heap) : wpE tab P z27_pi z27_c4 (nQ fun l H => S (l.getD 4 undef) H) ((List.range 10).map x) H = z27_g6 S (x 1) (x 2) H := by kernel_rfl
def pto_Persist (x0 x1 : Value) (R : Value → Heap → Prop) (H : Heap) : Prop :=
  z27_g5 (fun x1 x2 H => z27_g6 (fun x4 H => R x4 H) x1 x2 H) x0 x1 H
theorem z27_i (R : Value → Heap → Prop) (x0 x1 : Value) (H : Heap) (h : pto_Persist x0 x1 R H) : wpE tab P z27_pi z27_c1 (retQ tab z27_rs R) [x0, x1, undef, undef, undef, undef, undef, undef, undef, undef] H := by
  obtain ⟨l, hl, el⟩ : ∃ l : List Value, l.length = 10 ∧ l = [x0, x1, undef, undef, undef, undef, undef, undef, undef, undef] := ⟨_, rfl, rfl⟩
  rw [← el]
  have h : (fun (x0 x1 : Value) => z27_g5 (fun x1 x2 H => z27_g6 (fun x4 H => R x4 H) x1 x2 H) x0 x1 H) (l.getD 0 undef) (l.getD 1 undef) := by rw [el]; exact h
  clear el
  refine seqI (c := z27_c1) rfl ?_
  refine regI hl (Eq.mpr (z27_g5_e _ (fun i => l.getD i undef) _) h) ?_
  clear h hl
  intro l H hl h
  refine thenN ?_
  refine seqI (c := z27_c3) rfl ?_
  refine regI hl (Eq.mpr (z27_g6_e _ (fun i => l.getD i undef) _) h) ?_
  clear h hl
  intro l H hl h
  refine thenN ?_
  refine retI rfl ?_
  exact h
theorem z27_ok : okB z27_pi z27_c1 = true := by kernel_rfl
theorem z27_ev0 (x0 x1 : Value) (R : Value → Heap → Prop) (H : Heap) (h : pto_Persist x0 x1 R H) : EvL P N.pto_Persist #[x0, x1] H R :=
  EvF_intro (args := [x0, x1]) (k := 8) (rs := z27_rs) tab_ok mixed Try.func27 (show Try.f27.body = some z27_c1 by kernel_rfl) Try.call27 Try.ntmps27 (by kernel_rfl) (okCode_of _ z27_ok) rfl (z27_i R x0 x1 H h)
theorem z27_ev (x0 x1 : Value) (R : Value → Heap → Prop) (H : Heap) (h : pto_Persist x0 x1 R H) : EvF P N.pto_Persist #[x0, x1] H R := .inl (z27_ev0 x0 x1 R H h)
/- 28: sounder/sounderlaw10.sets -/
def z28_rs : List ResultVar := [.tmp 2, .tmp 3]
noncomputable def z28_c2 : Code := subC (bodyC Try.f28) [0]
noncomputable def z28_c5 : Code := subC (bodyC Try.f28) [1, 0, 0]
noncomputable def z28_c8 : Code := subC (bodyC Try.f28) [1, 0, 1, 0, 0]
noncomputable def z28_c7 : Code := .seq z28_c8 Code.ret
noncomputable def z28_c6 : Code := .cond (.tmp 11) z28_c7 Code.skip
noncomputable def z28_c4 : Code := .seq z28_c5 z28_c6
noncomputable def z28_c10 : Code := subC (bodyC Try.f28) [1, 1, 0]
noncomputable def z28_c12 : Code := subC (bodyC Try.f28) [1, 1, 1, 0]
noncomputable def z28_c15 : Code := subC (bodyC Try.f28) [1, 1, 1, 1, 0, 0]
noncomputable def z28_c20 : Code := subC (bodyC Try.f28) [1, 1, 1, 1, 0, 1, 0, 0, 0, 0]
noncomputable def z28_c22 : Code := .exit 0
noncomputable def z28_c21 : Code := .cond (.tmp 27) Code.skip z28_c22
noncomputable def z28_c19 : Code := .seq z28_c20 z28_c21
noncomputable def z28_c26 : Code := subC (bodyC Try.f28) [1, 1, 1, 1, 0, 1, 0, 0, 1, 0, 0, 0]
noncomputable def z28_c27 : Code := subC (bodyC Try.f28) [1, 1, 1, 1, 0, 1, 0, 0, 1, 0, 0, 1]
noncomputable def z28_c25 : Code := .seq z28_c26 z28_c27
noncomputable def z28_c24 : Code := .block 1 z28_c25
noncomputable def z28_c28 : Code := subC (bodyC Try.f28) [1, 1, 1, 1, 0, 1, 0, 0, 1, 1]
noncomputable def z28_c23 : Code := .seq z28_c24 z28_c28
noncomputable def z28_c18 : Code := .seq z28_c19 z28_c23
noncomputable def z28_c17 : Code := .loop z28_c18
noncomputable def z28_c16 : Code := .block 0 z28_c17
noncomputable def z28_c14 : Code := .seq z28_c15 z28_c16
noncomputable def z28_c30 : Code := subC (bodyC Try.f28) [1, 1, 1, 1, 1, 0]
noncomputable def z28_c29 : Code := .seq z28_c30 Code.ret
noncomputable def z28_c13 : Code := .seq z28_c14 z28_c29
noncomputable def z28_c11 : Code := .seq z28_c12 z28_c13
noncomputable def z28_c9 : Code := .seq z28_c10 z28_c11
noncomputable def z28_c3 : Code := .seq z28_c4 z28_c9
noncomputable def z28_c1 : Code := .seq z28_c2 z28_c3
def z28_pi (i : Nat) : Pl := match i with
  | 8 => (ones [0, 1, 2, 3, 4, 5, 6, 7, 8, 9, 10, 11] .nil)
  | 9 => (ones [0, 1, 2, 3, 4, 5, 6, 7, 8, 9, 10, 11] .nil)
  | _ => .nil
def z28_g31 (S : Value → Heap → Prop) (x0 : Value) (H : Heap) : Prop :=
  S x0 H
theorem z28_g31_e (S : Value → Heap → Prop) (x : Nat → Value) (H : Heap) : wpE tab P z28_pi z28_c2 (nQ fun l H => S (l.getD 0 undef) H) ((List.range 56).map x) H = z28_g31 S (x 0) H := by kernel_rfl
def z28_g32 (S : Value → Value → Heap → Prop) (x0 : Value) (H : Heap) : Prop :=
  bnd (lenV x0) fun v10 =>
  bnd (binV .int .eql v10 (.int .i64 0)) fun v11 =>
  S x0 v11 H
theorem z28_g32_e (S : Value → Value → Heap → Prop) (x : Nat → Value) (H : Heap) : wpE tab P z28_pi z28_c5 (nQ fun l H => S (l.getD 0 undef) (l.getD 11 undef) H) ((List.range 56).map x) H = z28_g32 S (x 0) H := by kernel_rfl
def z28_g33 (S : Value → Value → Heap → Prop) (H : Heap) : Prop :=
  S (.pointer none) (.pointer none) H
theorem z28_g33_e (S : Value → Value → Heap → Prop) (x : Nat → Value) (H : Heap) : wpE tab P z28_pi z28_c8 (nQ fun l H => S (l.getD 2 undef) (l.getD 3 undef) H) ((List.range 56).map x) H = z28_g33 S  H := by kernel_rfl
def z28_g34 (S : Value → Value → Heap → Prop) (x0 : Value) (H : Heap) : Prop :=
  EvF P N.span_New #[(.int .i64 256)] H fun v13 H1 =>
  bnd (exV 0 v13) fun v14 =>
  bnd (exV 1 v13) fun _ =>
  S x0 v14 H1
theorem z28_g34_e (S : Value → Value → Heap → Prop) (x : Nat → Value) (H : Heap) : wpE tab P z28_pi z28_c10 (nQ fun l H => S (l.getD 0 undef) (l.getD 4 undef) H) ((List.range 56).map x) H = z28_g34 S (x 0) H := by kernel_rfl
def z28_g35 (S : Value → Value → Value → Heap → Prop) (x0 x4 : Value) (H : Heap) : Prop :=
  EvF P N.sounderref04_New #[(.int .i64 256)] H fun v17 H1 =>
  bnd (exV 0 v17) fun v18 =>
  bnd (exV 1 v17) fun _ =>
  S x0 x4 v18 H1
theorem z28_g35_e (S : Value → Value → Value → Heap → Prop) (x : Nat → Value) (H : Heap) : wpE tab P z28_pi z28_c12 (nQ fun l H => S (l.getD 0 undef) (l.getD 4 undef) (l.getD 6 undef) H) ((List.range 56).map x) H = z28_g35 S (x 0) (x 4) H := by kernel_rfl
def z28_g36 (S : Value → Value → Value → Value → Heap → Prop) (x0 x4 x6 : Value) (H : Heap) : Prop :=
  S x0 x4 x6 (.int .i64 0) H
theorem z28_g36_e (S : Value → Value → Value → Value → Heap → Prop) (x : Nat → Value) (H : Heap) : wpE tab P z28_pi z28_c15 (nQ fun l H => S (l.getD 0 undef) (l.getD 4 undef) (l.getD 6 undef) (l.getD 8 undef) H) ((List.range 56).map x) H = z28_g36 S (x 0) (x 4) (x 6) H := by kernel_rfl
def z28_g38 (S : Value → Value → Value → Value → Value → Heap → Prop) (x0 x4 x6 x8 : Value) (H : Heap) : Prop :=
  bnd (lenV x0) fun v22 =>
  bnd (binV .int .lss x8 v22) fun v23 =>
  brV v23
  (bnd (binV .int .lss x8 (.int .i64 60)) fun v26 =>
  S x0 x4 x6 x8 v26 H)
  (S x0 x4 x6 x8 (.bool false) H)
theorem z28_g38_e (S : Value → Value → Value → Value → Value → Heap → Prop) (x : Nat → Value) (H : Heap) : wpE tab P z28_pi z28_c20 (nQ fun l H => S (l.getD 0 undef) (l.getD 4 undef) (l.getD 6 undef) (l.getD 8 undef) (l.getD 27 undef) H) ((List.range 56).map x) H = z28_g38 S (x 0) (x 4) (x 6) (x 8) H := by kernel_rfl
def z28_g39 (S : Value → Value → Value → Value → Heap → Prop) (x0 x4 x6 x8 : Value) (H : Heap) : Prop :=
  bnd (ixSV 2 x0 x8) fun v33 =>
  bnd (faV 0 v33) fun v34 =>
  bnd (ldE false 1 v34 H) fun v35 =>
  bnd (ixSV 2 x0 x8) fun v38 =>
  bnd (faV 1 v38) fun v39 =>
  bnd (ldE false 1 v39 H) fun v40 =>
  EvF P N.span_Set_Add #[x4, v35, v40] H fun _ H1 =>
  S x0 x4 x6 x8 H1
theorem z28_g39_e (S : Value → Value → Value → Value → Heap → Prop) (x : Nat → Value) (H : Heap) : wpE tab P z28_pi z28_c26 (nQ fun l H => S (l.getD 0 undef) (l.getD 4 undef) (l.getD 6 undef) (l.getD 8 undef) H) ((List.range 56).map x) H = z28_g39 S (x 0) (x 4) (x 6) (x 8) H := by kernel_rfl
def z28_g40 (S : Value → Value → Value → Value → Heap → Prop) (x0 x4 x6 x8 : Value) (H : Heap) : Prop :=
  bnd (ixSV 2 x0 x8) fun v45 =>
  bnd (faV 0 v45) fun v46 =>
  bnd (ldE false 1 v46 H) fun v47 =>
  bnd (ixSV 2 x0 x8) fun v50 =>
  bnd (faV 1 v50) fun v51 =>
  bnd (ldE false 1 v51 H) fun v52 =>
  EvF P N.sounderref04_Set_Add #[x6, v47, v52] H fun _ H1 =>
  S x0 x4 x6 x8 H1
theorem z28_g40_e (S : Value → Value → Value → Value → Heap → Prop) (x : Nat → Value) (H : Heap) : wpE tab P z28_pi z28_c27 (nQ fun l H => S (l.getD 0 undef) (l.getD 4 undef) (l.getD 6 undef) (l.getD 8 undef) H) ((List.range 56).map x) H = z28_g40 S (x 0) (x 4) (x 6) (x 8) H := by kernel_rfl
def z28_g41 (S : Value → Value → Value → Value → Heap → Prop) (x0 x4 x6 x8 : Value) (H : Heap) : Prop :=
  bnd (binV .int .add x8 (.int .i64 1)) fun v29 =>
  S x0 x4 x6 v29 H
theorem z28_g41_e (S : Value → Value → Value → Value → Heap → Prop) (x : Nat → Value) (H : Heap) : wpE tab P z28_pi z28_c28 (nQ fun l H => S (l.getD 0 undef) (l.getD 4 undef) (l.getD 6 undef) (l.getD 8 undef) H) ((List.range 56).map x) H = z28_g41 S (x 0) (x 4) (x 6) (x 8) H := by kernel_rfl
def z28_g42 (S : Value → Value → Heap → Prop) (x4 x6 : Value) (H : Heap) : Prop :=
  S x4 x6 H
theorem z28_g42_e (S : Value → Value → Heap → Prop) (x : Nat → Value) (H : Heap) : wpE tab P z28_pi z28_c30 (nQ fun l H => S (l.getD 2 undef) (l.getD 3 undef) H) ((List.range 56).map x) H = z28_g42 S (x 4) (x 6) H := by kernel_rfl
def z28_s37 (x0 x4 x6 x8 : Value) (K1 : Value → Value → Value → Value →  Heap → Prop) (R : Value → Heap → Prop) (H : Heap) : Prop :=
  z28_g38 (fun x0 x4 x6 x8 x27 H => brV x27
  (z28_g39 (fun x0 x4 x6 x8 H => z28_g40 (fun x0 x4 x6 x8 H => z28_g41 (fun x0 x4 x6 x8 H => K1 x0 x4 x6 x8 H) x0 x4 x6 x8 H) x0 x4 x6 x8 H) x0 x4 x6 x8 H)
  (z28_g42 (fun x2 x3 H => R (.tuple #[x2, x3]) H) x4 x6 H)) x0 x4 x6 x8 H
noncomputable def z28_q43 (R : Value → Heap → Prop) : Exit → List Value → Heap → Prop := (retQ tab z28_rs R)
noncomputable def z28_q44 (R : Value → Heap → Prop) : Exit → List Value → Heap → Prop := (thenE (fun l H => wpE tab P z28_pi z28_c29 (z28_q43 R) l H) (z28_q43 R))
noncomputable def z28_q45 (R : Value → Heap → Prop) : Exit → List Value → Heap → Prop := (blkE 0 (z28_q44 R))
noncomputable def z28_q46 (K1 : Value → Value → Value → Value →  Heap → Prop) (R : Value → Heap → Prop) : Exit → List Value → Heap → Prop := (thenE (fun l H => K1 (l.getD 0 undef) (l.getD 4 undef) (l.getD 6 undef) (l.getD 8 undef) H) (z28_q45 R))
theorem z28_s37_i (K1 : Value → Value → Value → Value →  Heap → Prop) (R : Value → Heap → Prop) (l : List Value) (H : Heap) (hl : l.length = 56) (h : z28_s37 (l.getD 0 undef) (l.getD 4 undef) (l.getD 6 undef) (l.getD 8 undef) K1 R H) : wpE tab P z28_pi z28_c18 (z28_q46 K1 R) l H := by
  refine seqI (c := z28_c18) rfl ?_
  refine seqI (c := z28_c19) rfl ?_
  refine regI hl (Eq.mpr (z28_g38_e _ (fun i => l.getD i undef) _) h) ?_
  clear h hl
  intro l H hl h
  refine thenN ?_
  refine condI (c := z28_c21) rfl h ?_ ?_
  · clear h; intro h
    refine skipI rfl ?_
    refine thenN ?_
    refine seqI (c := z28_c23) rfl ?_
    refine blockI (c := z28_c24) rfl ?_
    refine seqI (c := z28_c25) rfl ?_
    refine regI hl (Eq.mpr (z28_g39_e _ (fun i => l.getD i undef) _) h) ?_
    clear h hl
    intro l H hl h
    refine thenN ?_
    refine regI hl (Eq.mpr (z28_g40_e _ (fun i => l.getD i undef) _) h) ?_
    clear h hl
    intro l H hl h
    refine blkN ?_
    refine thenN ?_
    refine regI hl (Eq.mpr (z28_g41_e _ (fun i => l.getD i undef) _) h) ?_
    clear h hl
    intro l H hl h
    refine thenN ?_
    exact h
  · clear h; intro h
    refine exitI (c := z28_c22) rfl ?_
    refine thenX ?_
    refine thenX ?_
    refine blkX ?_
    refine thenN ?_
    refine seqI (c := z28_c29) rfl ?_
    refine regI hl (Eq.mpr (z28_g42_e _ (fun i => l.getD i undef) _) h) ?_
    clear h hl
    intro l H hl h
    refine thenN ?_
    refine retI rfl ?_
    exact h
def z28_l47 (x0 x4 x6 x8 : Value) (R : Value → Heap → Prop) (H : Heap) : Prop :=
  ∃ (I : Value → Heap → Prop) (μ : Value → Heap → Nat), I x8 H ∧ ∀ (y8 : Value) (H : Heap), I y8 H → z28_s37 x0 x4 x6 y8 (fun z0 z4 z6 z8 H' => z0 = x0 ∧ z4 = x4 ∧ z6 = x6 ∧ (I z8 H' ∧ μ z8 H' < μ y8 H)) R H
def sounderlaw10_sets (x0 : Value) (R : Value → Heap → Prop) (H : Heap) : Prop :=
  z28_g31 (fun x0 H => z28_g32 (fun x0 x11 H => brV x11
  (z28_g33 (fun x2 x3 H => R (.tuple #[x2, x3]) H) H)
  (z28_g34 (fun x0 x4 H => z28_g35 (fun x0 x4 x6 H => z28_g36 (fun x0 x4 x6 x8 H => z28_l47 x0 x4 x6 x8 R H) x0 x4 x6 H) x0 x4 H) x0 H)) x0 H) x0 H
theorem z28_i (R : Value → Heap → Prop) (x0 : Value) (H : Heap) (h : sounderlaw10_sets x0 R H) : wpE tab P z28_pi z28_c1 (retQ tab z28_rs R) [x0, undef, undef, undef, undef, undef, undef, undef, undef, undef, undef, undef, undef, undef, undef, undef, undef, undef, undef, undef, undef, undef, undef, undef, undef, undef, undef, undef, undef, undef, undef, undef, undef, undef, undef, undef, undef, undef, undef, undef, undef, undef, undef, undef, undef, undef, undef, undef, undef, undef, undef, undef, undef, undef, undef, undef] H := by
  obtain ⟨l, hl, el⟩ : ∃ l : List Value, l.length = 56 ∧ l = [x0, undef, undef, undef, undef, undef, undef, undef, undef, undef, undef, undef, undef, undef, undef, undef, undef, undef, undef, undef, undef, undef, undef, undef, undef, undef, undef, undef, undef, undef, undef, undef, undef, undef, undef, undef, undef, undef, undef, undef, undef, undef, undef, undef, undef, undef, undef, undef, undef, undef, undef, undef, undef, undef, undef, undef] := ⟨_, rfl, rfl⟩
  rw [← el]
  have h : (fun (x0 : Value) => z28_g31 (fun x0 H => z28_g32 (fun x0 x11 H => brV x11
(z28_g33 (fun x2 x3 H => R (.tuple #[x2, x3]) H) H)
(z28_g34 (fun x0 x4 H => z28_g35 (fun x0 x4 x6 H => z28_g36 (fun x0 x4 x6 x8 H => z28_l47 x0 x4 x6 x8 R H) x0 x4 x6 H) x0 x4 H) x0 H)) x0 H) x0 H) (l.getD 0 undef) := by rw [el]; exact h
  clear el
  refine seqI (c := z28_c1) rfl ?_
  refine regI hl (Eq.mpr (z28_g31_e _ (fun i => l.getD i undef) _) h) ?_
  clear h hl
  intro l H hl h
  refine thenN ?_
  refine seqI (c := z28_c3) rfl ?_
  refine seqI (c := z28_c4) rfl ?_
  refine regI hl (Eq.mpr (z28_g32_e _ (fun i => l.getD i undef) _) h) ?_
  clear h hl
  intro l H hl h
  refine thenN ?_
  refine condI (c := z28_c6) rfl h ?_ ?_
  · clear h; intro h
    refine seqI (c := z28_c7) rfl ?_
    refine regI hl (Eq.mpr (z28_g33_e _ (fun i => l.getD i undef) _) h) ?_
    clear h hl
    intro l H hl h
    refine thenN ?_
    refine retI rfl ?_
    refine thenR ?_
    exact h
  · clear h; intro h
    refine skipI rfl ?_
    refine thenN ?_
    refine seqI (c := z28_c9) rfl ?_
    refine regI hl (Eq.mpr (z28_g34_e _ (fun i => l.getD i undef) _) h) ?_
    clear h hl
    intro l H hl h
    refine thenN ?_
    refine seqI (c := z28_c11) rfl ?_
    refine regI hl (Eq.mpr (z28_g35_e _ (fun i => l.getD i undef) _) h) ?_
    clear h hl
    intro l H hl h
    refine thenN ?_
    refine seqI (c := z28_c13) rfl ?_
    refine seqI (c := z28_c14) rfl ?_
    refine regI hl (Eq.mpr (z28_g36_e _ (fun i => l.getD i undef) _) h) ?_
    clear h hl
    intro l H hl h
    refine thenN ?_
    refine blockI (c := z28_c16) rfl ?_
    obtain ⟨I, μ, h0, hr⟩ := h
    refine loopI (c := z28_c17) rfl (fun l' H' => l'.getD 0 undef = l.getD 0 undef ∧ l'.getD 4 undef = l.getD 4 undef ∧ l'.getD 6 undef = l.getD 6 undef ∧ I (l'.getD 8 undef) H') (fun l' H' => μ (l'.getD 8 undef) H') hl ⟨rfl, rfl, rfl, h0⟩ ?_
    rintro l1 H1 hl1 ⟨e0, e4, e6, hI⟩
    have hb := hr (l1.getD 8 undef) H1 hI
    rw [← e0, ← e4, ← e6] at hb
    refine wpE_mono _ l1 H1 hl1 ?_ (z28_s37_i _ R l1 H1 hl1 hb)
    intro e l2 H2 hl2 hq
    cases e with
    | normal => exact fun _ => (by obtain ⟨d0, d4, d6, g1, g2⟩ := hq; exact ⟨⟨d0.trans e0, d4.trans e4, d6.trans e6, g1⟩, g2⟩)
    | _ => exact hq
theorem z28_ok : okB z28_pi z28_c1 = true := by kernel_rfl
theorem z28_ev0 (x0 : Value) (R : Value → Heap → Prop) (H : Heap) (h : sounderlaw10_sets x0 R H) : EvL P N.sounderlaw10_sets #[x0] H R :=
  EvF_intro (args := [x0]) (k := 55) (rs := z28_rs) tab_ok mixed Try.func28 (show Try.f28.body = some z28_c1 by kernel_rfl) Try.call28 Try.ntmps28 (by kernel_rfl) (okCode_of _ z28_ok) rfl (z28_i R x0 H h)
theorem z28_ev (x0 : Value) (R : Value → Heap → Prop) (H : Heap) (h : sounderlaw10_sets x0 R H) : EvF P N.sounderlaw10_sets #[x0] H R := .inl (z28_ev0 x0 R H h)
end Go.Hc
