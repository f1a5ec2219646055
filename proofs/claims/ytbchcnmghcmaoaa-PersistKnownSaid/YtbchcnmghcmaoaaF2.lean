/- Functions, printed by gen.py. -/
import Derived.Test.YtbchcnmghcmaoaaT
set_option linter.unusedSimpArgs false
set_option linter.unusedVariables false
set_option maxRecDepth 100000
namespace Go.Hc
open Go Go.Proofs
/- 29: sounder/sounderref10.Period -/
def z29_rs : List ResultVar := [.tmp 6, .tmp 7, .tmp 8, .tmp 9]
noncomputable def z29_c2 : Code := subC (bodyC Try.f29) [0]
noncomputable def z29_c4 : Code := subC (bodyC Try.f29) [1, 0]
noncomputable def z29_c7 : Code := subC (bodyC Try.f29) [1, 1, 0, 0]
noncomputable def z29_c10 : Code := subC (bodyC Try.f29) [1, 1, 0, 1, 0, 0]
noncomputable def z29_c9 : Code := .seq z29_c10 Code.ret
noncomputable def z29_c8 : Code := .cond (.tmp 24) z29_c9 Code.skip
noncomputable def z29_c6 : Code := .seq z29_c7 z29_c8
noncomputable def z29_c13 : Code := subC (bodyC Try.f29) [1, 1, 1, 0, 0]
noncomputable def z29_c18 : Code := subC (bodyC Try.f29) [1, 1, 1, 0, 1, 0, 0, 0, 0]
noncomputable def z29_c20 : Code := .exit 0
noncomputable def z29_c19 : Code := .cond (.tmp 28) Code.skip z29_c20
noncomputable def z29_c17 : Code := .seq z29_c18 z29_c19
noncomputable def z29_c24 : Code := subC (bodyC Try.f29) [1, 1, 1, 0, 1, 0, 0, 1, 0, 0, 0]
noncomputable def z29_c29 : Code := subC (bodyC Try.f29) [1, 1, 1, 0, 1, 0, 0, 1, 0, 0, 1, 0, 0, 0, 0]
noncomputable def z29_c31 : Code := .exit 2
noncomputable def z29_c30 : Code := .cond (.tmp 36) Code.skip z29_c31
noncomputable def z29_c28 : Code := .seq z29_c29 z29_c30
noncomputable def z29_c36 : Code := subC (bodyC Try.f29) [1, 1, 1, 0, 1, 0, 0, 1, 0, 0, 1, 0, 0, 1, 0, 0, 0, 0]
noncomputable def z29_c38 : Code := .exit 3
noncomputable def z29_c37 : Code := .cond (.tmp 50) z29_c38 Code.skip
noncomputable def z29_c35 : Code := .seq z29_c36 z29_c37
noncomputable def z29_c40 : Code := subC (bodyC Try.f29) [1, 1, 1, 0, 1, 0, 0, 1, 0, 0, 1, 0, 0, 1, 0, 0, 1, 0]
noncomputable def z29_c42 : Code := subC (bodyC Try.f29) [1, 1, 1, 0, 1, 0, 0, 1, 0, 0, 1, 0, 0, 1, 0, 0, 1, 1, 0]
noncomputable def z29_c44 : Code := subC (bodyC Try.f29) [1, 1, 1, 0, 1, 0, 0, 1, 0, 0, 1, 0, 0, 1, 0, 0, 1, 1, 1, 0]
noncomputable def z29_c43 : Code := .cond (.tmp 68) z29_c44 Code.skip
noncomputable def z29_c41 : Code := .seq z29_c42 z29_c43
noncomputable def z29_c39 : Code := .seq z29_c40 z29_c41
noncomputable def z29_c34 : Code := .seq z29_c35 z29_c39
noncomputable def z29_c33 : Code := .block 3 z29_c34
noncomputable def z29_c45 : Code := subC (bodyC Try.f29) [1, 1, 1, 0, 1, 0, 0, 1, 0, 0, 1, 0, 0, 1, 1]
noncomputable def z29_c32 : Code := .seq z29_c33 z29_c45
noncomputable def z29_c27 : Code := .seq z29_c28 z29_c32
noncomputable def z29_c26 : Code := .loop z29_c27
noncomputable def z29_c25 : Code := .block 2 z29_c26
noncomputable def z29_c23 : Code := .seq z29_c24 z29_c25
noncomputable def z29_c22 : Code := .block 1 z29_c23
noncomputable def z29_c46 : Code := subC (bodyC Try.f29) [1, 1, 1, 0, 1, 0, 0, 1, 1]
noncomputable def z29_c21 : Code := .seq z29_c22 z29_c46
noncomputable def z29_c16 : Code := .seq z29_c17 z29_c21
noncomputable def z29_c15 : Code := .loop z29_c16
noncomputable def z29_c14 : Code := .block 0 z29_c15
noncomputable def z29_c12 : Code := .seq z29_c13 z29_c14
noncomputable def z29_c48 : Code := subC (bodyC Try.f29) [1, 1, 1, 1, 0]
noncomputable def z29_c47 : Code := .seq z29_c48 Code.ret
noncomputable def z29_c11 : Code := .seq z29_c12 z29_c47
noncomputable def z29_c5 : Code := .seq z29_c6 z29_c11
noncomputable def z29_c3 : Code := .seq z29_c4 z29_c5
noncomputable def z29_c1 : Code := .seq z29_c2 z29_c3
def z29_pi (i : Nat) : Pl := match i with
  | 10 => (ones [0, 1, 2, 3, 4, 5, 6, 7, 8, 9, 10, 11] .nil)
  | 11 => (ones [0, 1, 2, 3, 4, 5, 6, 7, 8, 9, 10, 11] .nil)
  | 13 => (ones [0, 1, 2, 3, 4, 5, 6, 7, 8, 9, 10, 11, 12, 13, 14] .nil)
  | _ => .nil
def z29_g49 (S : Value → Value → Value → Heap → Prop) (x0 x1 x2 : Value) (H : Heap) : Prop :=
  S x0 x1 x2 H
theorem z29_g49_e (S : Value → Value → Value → Heap → Prop) (x : Nat → Value) (H : Heap) : wpE tab P z29_pi z29_c2 (nQ fun l H => S (l.getD 0 undef) (l.getD 1 undef) (l.getD 2 undef) H) ((List.range 84).map x) H = z29_g49 S (x 0) (x 1) (x 2) H := by kernel_rfl
def z29_g50 (S : Value → Value → Value → Value → Value → Value → Value → Heap → Prop) (x0 x1 x2 : Value) (H : Heap) : Prop :=
  S x0 x1 x2 (.int .i64 0) (.int .i64 0) (.int .i64 0) (.bool false) H
theorem z29_g50_e (S : Value → Value → Value → Value → Value → Value → Value → Heap → Prop) (x : Nat → Value) (H : Heap) : wpE tab P z29_pi z29_c4 (nQ fun l H => S (l.getD 0 undef) (l.getD 1 undef) (l.getD 2 undef) (l.getD 10 undef) (l.getD 11 undef) (l.getD 12 undef) (l.getD 13 undef) H) ((List.range 84).map x) H = z29_g50 S (x 0) (x 1) (x 2) H := by kernel_rfl
def z29_g51 (S : Value → Value → Value → Value → Value → Value → Value → Value → Heap → Prop) (x0 x1 x2 x10 x11 x12 x13 : Value) (H : Heap) : Prop :=
  EvF P N.sounderref09_Check #[x0] H fun v18 H1 =>
  bnd (binV .int .neq v18 (.int .i64 0)) fun v19 =>
  brV v19
  (S x0 x1 x2 x10 x11 x12 x13 (.bool true) H1)
  (EvF P N.sounderref01_Is #[x2] H1 fun v22 H2 =>
  bnd (unV .not v22) fun v23 =>
  S x0 x1 x2 x10 x11 x12 x13 v23 H2)
theorem z29_g51_e (S : Value → Value → Value → Value → Value → Value → Value → Value → Heap → Prop) (x : Nat → Value) (H : Heap) : wpE tab P z29_pi z29_c7 (nQ fun l H => S (l.getD 0 undef) (l.getD 1 undef) (l.getD 2 undef) (l.getD 10 undef) (l.getD 11 undef) (l.getD 12 undef) (l.getD 13 undef) (l.getD 24 undef) H) ((List.range 84).map x) H = z29_g51 S (x 0) (x 1) (x 2) (x 10) (x 11) (x 12) (x 13) H := by kernel_rfl
def z29_g52 (S : Value → Value → Value → Value → Heap → Prop) (H : Heap) : Prop :=
  S (.int .i64 0) (.int .i64 0) (.int .i64 0) (.bool false) H
theorem z29_g52_e (S : Value → Value → Value → Value → Heap → Prop) (x : Nat → Value) (H : Heap) : wpE tab P z29_pi z29_c10 (nQ fun l H => S (l.getD 6 undef) (l.getD 7 undef) (l.getD 8 undef) (l.getD 9 undef) H) ((List.range 84).map x) H = z29_g52 S  H := by kernel_rfl
def z29_g53 (S : Value → Value → Value → Value → Value → Value → Value → Value → Heap → Prop) (x0 x1 x2 x10 x11 x12 x13 : Value) (H : Heap) : Prop :=
  S x0 x1 x2 x10 x11 x12 x13 (.int .i64 0) H
theorem z29_g53_e (S : Value → Value → Value → Value → Value → Value → Value → Value → Heap → Prop) (x : Nat → Value) (H : Heap) : wpE tab P z29_pi z29_c13 (nQ fun l H => S (l.getD 0 undef) (l.getD 1 undef) (l.getD 2 undef) (l.getD 10 undef) (l.getD 11 undef) (l.getD 12 undef) (l.getD 13 undef) (l.getD 14 undef) H) ((List.range 84).map x) H = z29_g53 S (x 0) (x 1) (x 2) (x 10) (x 11) (x 12) (x 13) H := by kernel_rfl
def z29_g55 (S : Value → Value → Value → Value → Value → Value → Value → Value → Value → Heap → Prop) (x0 x1 x2 x10 x11 x12 x13 x14 : Value) (H : Heap) : Prop :=
  bnd (lenV x0) fun v27 =>
  bnd (binV .int .lss x14 v27) fun v28 =>
  S x0 x1 x2 x10 x11 x12 x13 x14 v28 H
theorem z29_g55_e (S : Value → Value → Value → Value → Value → Value → Value → Value → Value → Heap → Prop) (x : Nat → Value) (H : Heap) : wpE tab P z29_pi z29_c18 (nQ fun l H => S (l.getD 0 undef) (l.getD 1 undef) (l.getD 2 undef) (l.getD 10 undef) (l.getD 11 undef) (l.getD 12 undef) (l.getD 13 undef) (l.getD 14 undef) (l.getD 28 undef) H) ((List.range 84).map x) H = z29_g55 S (x 0) (x 1) (x 2) (x 10) (x 11) (x 12) (x 13) (x 14) H := by kernel_rfl
def z29_g56 (S : Value → Value → Value → Value → Value → Value → Value → Value → Value → Heap → Prop) (x0 x1 x2 x10 x11 x12 x13 x14 : Value) (H : Heap) : Prop :=
  bnd (binV .int .add x14 (.int .i64 1)) fun v32 =>
  S x0 x1 x2 x10 x11 x12 x13 x14 v32 H
theorem z29_g56_e (S : Value → Value → Value → Value → Value → Value → Value → Value → Value → Heap → Prop) (x : Nat → Value) (H : Heap) : wpE tab P z29_pi z29_c24 (nQ fun l H => S (l.getD 0 undef) (l.getD 1 undef) (l.getD 2 undef) (l.getD 10 undef) (l.getD 11 undef) (l.getD 12 undef) (l.getD 13 undef) (l.getD 14 undef) (l.getD 15 undef) H) ((List.range 84).map x) H = z29_g56 S (x 0) (x 1) (x 2) (x 10) (x 11) (x 12) (x 13) (x 14) H := by kernel_rfl
def z29_g58 (S : Value → Value → Value → Value → Value → Value → Value → Value → Value → Value → Heap → Prop) (x0 x1 x2 x10 x11 x12 x13 x14 x15 : Value) (H : Heap) : Prop :=
  bnd (lenV x0) fun v35 =>
  bnd (binV .int .lss x15 v35) fun v36 =>
  S x0 x1 x2 x10 x11 x12 x13 x14 x15 v36 H
theorem z29_g58_e (S : Value → Value → Value → Value → Value → Value → Value → Value → Value → Value → Heap → Prop) (x : Nat → Value) (H : Heap) : wpE tab P z29_pi z29_c29 (nQ fun l H => S (l.getD 0 undef) (l.getD 1 undef) (l.getD 2 undef) (l.getD 10 undef) (l.getD 11 undef) (l.getD 12 undef) (l.getD 13 undef) (l.getD 14 undef) (l.getD 15 undef) (l.getD 36 undef) H) ((List.range 84).map x) H = z29_g58 S (x 0) (x 1) (x 2) (x 10) (x 11) (x 12) (x 13) (x 14) (x 15) H := by kernel_rfl
def z29_g60 (S : Value → Value → Value → Value → Value → Value → Value → Value → Value → Heap → Prop) (x0 x1 x2 x10 x11 x12 x13 x14 x15 : Value) (H : Heap) : Prop :=
  bnd (binV .int .add x15 (.int .i64 1)) fun v38 =>
  S x0 x1 x2 x10 x11 x12 x13 x14 v38 H
theorem z29_g60_e (S : Value → Value → Value → Value → Value → Value → Value → Value → Value → Heap → Prop) (x : Nat → Value) (H : Heap) : wpE tab P z29_pi z29_c45 (nQ fun l H => S (l.getD 0 undef) (l.getD 1 undef) (l.getD 2 undef) (l.getD 10 undef) (l.getD 11 undef) (l.getD 12 undef) (l.getD 13 undef) (l.getD 14 undef) (l.getD 15 undef) H) ((List.range 84).map x) H = z29_g60 S (x 0) (x 1) (x 2) (x 10) (x 11) (x 12) (x 13) (x 14) (x 15) H := by kernel_rfl
def z29_s59 (x0 x1 x2 x10 x11 x12 x13 x14 x15 : Value) (_K1 : Value → Value → Value → Value → Value → Value → Value → Value →  Heap → Prop) (K2 : Value → Value → Value → Value → Value → Value → Value → Value → Value →  Heap → Prop) (_R : Value → Heap → Prop) (H : Heap) : Prop :=
  z29_g60 (fun x0 x1 x2 x10 x11 x12 x13 x14 x15 H => K2 x0 x1 x2 x10 x11 x12 x13 x14 x15 H) x0 x1 x2 x10 x11 x12 x13 x14 x15 H
noncomputable def z29_q61 (R : Value → Heap → Prop) : Exit → List Value → Heap → Prop := (retQ tab z29_rs R)
noncomputable def z29_q62 (R : Value → Heap → Prop) : Exit → List Value → Heap → Prop := (thenE (fun l H => wpE tab P z29_pi z29_c47 (z29_q61 R) l H) (z29_q61 R))
noncomputable def z29_q63 (R : Value → Heap → Prop) : Exit → List Value → Heap → Prop := (blkE 0 (z29_q62 R))
noncomputable def z29_q64 (K1 : Value → Value → Value → Value → Value → Value → Value → Value →  Heap → Prop) (R : Value → Heap → Prop) : Exit → List Value → Heap → Prop := (thenE (fun l H => K1 (l.getD 0 undef) (l.getD 1 undef) (l.getD 2 undef) (l.getD 10 undef) (l.getD 11 undef) (l.getD 12 undef) (l.getD 13 undef) (l.getD 14 undef) H) (z29_q63 R))
noncomputable def z29_q65 (K1 : Value → Value → Value → Value → Value → Value → Value → Value →  Heap → Prop) (R : Value → Heap → Prop) : Exit → List Value → Heap → Prop := (thenE (fun l H => wpE tab P z29_pi z29_c46 (z29_q64 K1 R) l H) (z29_q64 K1 R))
noncomputable def z29_q66 (K1 : Value → Value → Value → Value → Value → Value → Value → Value →  Heap → Prop) (R : Value → Heap → Prop) : Exit → List Value → Heap → Prop := (blkE 1 (z29_q65 K1 R))
noncomputable def z29_q67 (K1 : Value → Value → Value → Value → Value → Value → Value → Value →  Heap → Prop) (R : Value → Heap → Prop) : Exit → List Value → Heap → Prop := (blkE 2 (z29_q66 K1 R))
noncomputable def z29_q68 (K1 : Value → Value → Value → Value → Value → Value → Value → Value →  Heap → Prop) (K2 : Value → Value → Value → Value → Value → Value → Value → Value → Value →  Heap → Prop) (R : Value → Heap → Prop) : Exit → List Value → Heap → Prop := (thenE (fun l H => K2 (l.getD 0 undef) (l.getD 1 undef) (l.getD 2 undef) (l.getD 10 undef) (l.getD 11 undef) (l.getD 12 undef) (l.getD 13 undef) (l.getD 14 undef) (l.getD 15 undef) H) (z29_q67 K1 R))
theorem z29_s59_i (K1 : Value → Value → Value → Value → Value → Value → Value → Value →  Heap → Prop) (K2 : Value → Value → Value → Value → Value → Value → Value → Value → Value →  Heap → Prop) (R : Value → Heap → Prop) (l : List Value) (H : Heap) (hl : l.length = 84) (h : z29_s59 (l.getD 0 undef) (l.getD 1 undef) (l.getD 2 undef) (l.getD 10 undef) (l.getD 11 undef) (l.getD 12 undef) (l.getD 13 undef) (l.getD 14 undef) (l.getD 15 undef) K1 K2 R H) : wpE tab P z29_pi z29_c45 (z29_q68 K1 K2 R) l H := by
  refine regI hl (Eq.mpr (z29_g60_e _ (fun i => l.getD i undef) _) h) ?_
  clear h hl
  intro l H hl h
  refine thenN ?_
  exact h
def z29_g69 (S : Value → Value → Value → Value → Value → Value → Value → Value → Value → Value → Heap → Prop) (x0 x1 x2 x10 x11 x12 x13 x14 x15 : Value) (H : Heap) : Prop :=
  bnd (ixSV 6 x0 x14) fun v41 =>
  bnd (ldE true 6 v41 H) fun v42 =>
  bnd (ixSV 6 x0 x15) fun v45 =>
  bnd (ldE true 6 v45 H) fun v46 =>
  EvF P N.sounderref10_pair #[v42, v46, x1, x2] H fun v49 H1 =>
  bnd (unV .not v49) fun v50 =>
  S x0 x1 x2 x10 x11 x12 x13 x14 x15 v50 H1
theorem z29_g69_e (S : Value → Value → Value → Value → Value → Value → Value → Value → Value → Value → Heap → Prop) (x : Nat → Value) (H : Heap) : wpE tab P z29_pi z29_c36 (nQ fun l H => S (l.getD 0 undef) (l.getD 1 undef) (l.getD 2 undef) (l.getD 10 undef) (l.getD 11 undef) (l.getD 12 undef) (l.getD 13 undef) (l.getD 14 undef) (l.getD 15 undef) (l.getD 50 undef) H) ((List.range 84).map x) H = z29_g69 S (x 0) (x 1) (x 2) (x 10) (x 11) (x 12) (x 13) (x 14) (x 15) H := by kernel_rfl
def z29_g70 (S : Value → Value → Value → Value → Value → Value → Value → Value → Value → Value → Heap → Prop) (x0 x1 x2 x10 x11 x12 x13 x14 x15 : Value) (H : Heap) : Prop :=
  bnd (ixSV 6 x0 x15) fun v53 =>
  bnd (faV 1 v53) fun v54 =>
  bnd (ldE false 1 v54 H) fun v55 =>
  bnd (ixSV 6 x0 x14) fun v58 =>
  bnd (faV 1 v58) fun v59 =>
  bnd (ldE false 1 v59 H) fun v60 =>
  bnd (binV .int .sub v55 v60) fun v61 =>
  S x0 x1 x2 x10 x11 x12 x13 x14 x15 v61 H
theorem z29_g70_e (S : Value → Value → Value → Value → Value → Value → Value → Value → Value → Value → Heap → Prop) (x : Nat → Value) (H : Heap) : wpE tab P z29_pi z29_c40 (nQ fun l H => S (l.getD 0 undef) (l.getD 1 undef) (l.getD 2 undef) (l.getD 10 undef) (l.getD 11 undef) (l.getD 12 undef) (l.getD 13 undef) (l.getD 14 undef) (l.getD 15 undef) (l.getD 16 undef) H) ((List.range 84).map x) H = z29_g70 S (x 0) (x 1) (x 2) (x 10) (x 11) (x 12) (x 13) (x 14) (x 15) H := by kernel_rfl
def z29_g71 (S : Value → Value → Value → Value → Value → Value → Value → Value → Value → Value → Value → Heap → Prop) (x0 x1 x2 x10 x11 x12 x13 x14 x15 x16 : Value) (H : Heap) : Prop :=
  bnd (unV .not x13) fun v63 =>
  brV v63
  (S x0 x1 x2 x10 x11 x12 x13 x14 x15 x16 (.bool true) H)
  (bnd (binV .int .gtr x16 x10) fun v67 =>
  S x0 x1 x2 x10 x11 x12 x13 x14 x15 x16 v67 H)
theorem z29_g71_e (S : Value → Value → Value → Value → Value → Value → Value → Value → Value → Value → Value → Heap → Prop) (x : Nat → Value) (H : Heap) : wpE tab P z29_pi z29_c42 (nQ fun l H => S (l.getD 0 undef) (l.getD 1 undef) (l.getD 2 undef) (l.getD 10 undef) (l.getD 11 undef) (l.getD 12 undef) (l.getD 13 undef) (l.getD 14 undef) (l.getD 15 undef) (l.getD 16 undef) (l.getD 68 undef) H) ((List.range 84).map x) H = z29_g71 S (x 0) (x 1) (x 2) (x 10) (x 11) (x 12) (x 13) (x 14) (x 15) (x 16) H := by kernel_rfl
def z29_g72 (S : Value → Value → Value → Value → Value → Value → Value → Value → Value → Heap → Prop) (x0 x1 x2 x14 x15 x16 : Value) (H : Heap) : Prop :=
  bnd (ixSV 6 x0 x14) fun v72 =>
  bnd (faV 0 v72) fun v73 =>
  bnd (ldE false 1 v73 H) fun v74 =>
  bnd (ixSV 6 x0 x15) fun v77 =>
  bnd (faV 0 v77) fun v78 =>
  bnd (ldE false 1 v78 H) fun v79 =>
  S x0 x1 x2 x16 v74 v79 (.bool true) x14 x15 H
theorem z29_g72_e (S : Value → Value → Value → Value → Value → Value → Value → Value → Value → Heap → Prop) (x : Nat → Value) (H : Heap) : wpE tab P z29_pi z29_c44 (nQ fun l H => S (l.getD 0 undef) (l.getD 1 undef) (l.getD 2 undef) (l.getD 10 undef) (l.getD 11 undef) (l.getD 12 undef) (l.getD 13 undef) (l.getD 14 undef) (l.getD 15 undef) H) ((List.range 84).map x) H = z29_g72 S (x 0) (x 1) (x 2) (x 14) (x 15) (x 16) H := by kernel_rfl
def z29_g73 (S : Value → Value → Value → Value → Value → Value → Value → Value → Heap → Prop) (x0 x1 x2 x10 x11 x12 x13 x14 : Value) (H : Heap) : Prop :=
  bnd (binV .int .add x14 (.int .i64 1)) fun v30 =>
  S x0 x1 x2 x10 x11 x12 x13 v30 H
theorem z29_g73_e (S : Value → Value → Value → Value → Value → Value → Value → Value → Heap → Prop) (x : Nat → Value) (H : Heap) : wpE tab P z29_pi z29_c46 (nQ fun l H => S (l.getD 0 undef) (l.getD 1 undef) (l.getD 2 undef) (l.getD 10 undef) (l.getD 11 undef) (l.getD 12 undef) (l.getD 13 undef) (l.getD 14 undef) H) ((List.range 84).map x) H = z29_g73 S (x 0) (x 1) (x 2) (x 10) (x 11) (x 12) (x 13) (x 14) H := by kernel_rfl
def z29_s57 (x0 x1 x2 x10 x11 x12 x13 x14 x15 : Value) (K1 : Value → Value → Value → Value → Value → Value → Value → Value →  Heap → Prop) (K2 : Value → Value → Value → Value → Value → Value → Value → Value → Value →  Heap → Prop) (R : Value → Heap → Prop) (H : Heap) : Prop :=
  z29_g58 (fun x0 x1 x2 x10 x11 x12 x13 x14 x15 x36 H => brV x36
  (z29_g69 (fun x0 x1 x2 x10 x11 x12 x13 x14 x15 x50 H => brV x50
  (z29_s59 x0 x1 x2 x10 x11 x12 x13 x14 x15 K1 K2 R H)
  (z29_g70 (fun x0 x1 x2 x10 x11 x12 x13 x14 x15 x16 H => z29_g71 (fun x0 x1 x2 x10 x11 x12 x13 x14 x15 x16 x68 H => brV x68
  (z29_g72 (fun x0 x1 x2 x10 x11 x12 x13 x14 x15 H => z29_s59 x0 x1 x2 x10 x11 x12 x13 x14 x15 K1 K2 R H) x0 x1 x2 x14 x15 x16 H)
  (z29_s59 x0 x1 x2 x10 x11 x12 x13 x14 x15 K1 K2 R H)) x0 x1 x2 x10 x11 x12 x13 x14 x15 x16 H) x0 x1 x2 x10 x11 x12 x13 x14 x15 H)) x0 x1 x2 x10 x11 x12 x13 x14 x15 H)
  (z29_g73 (fun x0 x1 x2 x10 x11 x12 x13 x14 H => K1 x0 x1 x2 x10 x11 x12 x13 x14 H) x0 x1 x2 x10 x11 x12 x13 x14 H)) x0 x1 x2 x10 x11 x12 x13 x14 x15 H
theorem z29_s57_i (K1 : Value → Value → Value → Value → Value → Value → Value → Value →  Heap → Prop) (K2 : Value → Value → Value → Value → Value → Value → Value → Value → Value →  Heap → Prop) (R : Value → Heap → Prop) (l : List Value) (H : Heap) (hl : l.length = 84) (h : z29_s57 (l.getD 0 undef) (l.getD 1 undef) (l.getD 2 undef) (l.getD 10 undef) (l.getD 11 undef) (l.getD 12 undef) (l.getD 13 undef) (l.getD 14 undef) (l.getD 15 undef) K1 K2 R H) : wpE tab P z29_pi z29_c27 (z29_q68 K1 K2 R) l H := by
  refine seqI (c := z29_c27) rfl ?_
  refine seqI (c := z29_c28) rfl ?_
  refine regI hl (Eq.mpr (z29_g58_e _ (fun i => l.getD i undef) _) h) ?_
  clear h hl
  intro l H hl h
  refine thenN ?_
  refine condI (c := z29_c30) rfl h ?_ ?_
  · clear h; intro h
    refine skipI rfl ?_
    refine thenN ?_
    refine seqI (c := z29_c32) rfl ?_
    refine blockI (c := z29_c33) rfl ?_
    refine seqI (c := z29_c34) rfl ?_
    refine seqI (c := z29_c35) rfl ?_
    refine regI hl (Eq.mpr (z29_g69_e _ (fun i => l.getD i undef) _) h) ?_
    clear h hl
    intro l H hl h
    refine thenN ?_
    refine condI (c := z29_c37) rfl h ?_ ?_
    · clear h; intro h
      refine exitI (c := z29_c38) rfl ?_
      refine thenX ?_
      refine blkX ?_
      refine thenN ?_
      exact z29_s59_i K1 K2 R l H hl h
    · clear h; intro h
      refine skipI rfl ?_
      refine thenN ?_
      refine seqI (c := z29_c39) rfl ?_
      refine regI hl (Eq.mpr (z29_g70_e _ (fun i => l.getD i undef) _) h) ?_
      clear h hl
      intro l H hl h
      refine thenN ?_
      refine seqI (c := z29_c41) rfl ?_
      refine regI hl (Eq.mpr (z29_g71_e _ (fun i => l.getD i undef) _) h) ?_
      clear h hl
      intro l H hl h
      refine thenN ?_
      refine condI (c := z29_c43) rfl h ?_ ?_
      · clear h; intro h
        refine regI hl (Eq.mpr (z29_g72_e _ (fun i => l.getD i undef) _) h) ?_
        clear h hl
        intro l H hl h
        refine blkN ?_
        refine thenN ?_
        exact z29_s59_i K1 K2 R l H hl h
      · clear h; intro h
        refine skipI rfl ?_
        refine blkN ?_
        refine thenN ?_
        exact z29_s59_i K1 K2 R l H hl h
  · clear h; intro h
    refine exitI (c := z29_c31) rfl ?_
    refine thenX ?_
    refine thenX ?_
    refine blkX ?_
    refine blkN ?_
    refine thenN ?_
    refine regI hl (Eq.mpr (z29_g73_e _ (fun i => l.getD i undef) _) h) ?_
    clear h hl
    intro l H hl h
    refine thenN ?_
    exact h
def z29_l74 (x0 x1 x2 x10 x11 x12 x13 x14 x15 : Value) (K1 : Value → Value → Value → Value → Value → Value → Value → Value →  Heap → Prop) (R : Value → Heap → Prop) (H : Heap) : Prop :=
  ∃ (I : Value → Value → Value → Value → Value → Heap → Prop) (μ : Value → Value → Value → Value → Value → Heap → Nat), I x10 x11 x12 x13 x15 H ∧ ∀ (y10 : Value) (y11 : Value) (y12 : Value) (y13 : Value) (y15 : Value) (H : Heap), I y10 y11 y12 y13 y15 H → z29_s57 x0 x1 x2 y10 y11 y12 y13 x14 y15 K1 (fun z0 z1 z2 z10 z11 z12 z13 z14 z15 H' => z0 = x0 ∧ z1 = x1 ∧ z2 = x2 ∧ z14 = x14 ∧ (I z10 z11 z12 z13 z15 H' ∧ μ z10 z11 z12 z13 z15 H' < μ y10 y11 y12 y13 y15 H)) R H
def z29_g75 (S : Value → Value → Value → Value → Heap → Prop) (x10 x11 x12 x13 : Value) (H : Heap) : Prop :=
  S x10 x11 x12 x13 H
theorem z29_g75_e (S : Value → Value → Value → Value → Heap → Prop) (x : Nat → Value) (H : Heap) : wpE tab P z29_pi z29_c48 (nQ fun l H => S (l.getD 6 undef) (l.getD 7 undef) (l.getD 8 undef) (l.getD 9 undef) H) ((List.range 84).map x) H = z29_g75 S (x 10) (x 11) (x 12) (x 13) H := by kernel_rfl
def z29_s54 (x0 x1 x2 x10 x11 x12 x13 x14 : Value) (K1 : Value → Value → Value → Value → Value → Value → Value → Value →  Heap → Prop) (R : Value → Heap → Prop) (H : Heap) : Prop :=
  z29_g55 (fun x0 x1 x2 x10 x11 x12 x13 x14 x28 H => brV x28
  (z29_g56 (fun x0 x1 x2 x10 x11 x12 x13 x14 x15 H => z29_l74 x0 x1 x2 x10 x11 x12 x13 x14 x15 K1 R H) x0 x1 x2 x10 x11 x12 x13 x14 H)
  (z29_g75 (fun x6 x7 x8 x9 H => R (.tuple #[x6, x7, x8, x9]) H) x10 x11 x12 x13 H)) x0 x1 x2 x10 x11 x12 x13 x14 H
theorem z29_s54_i (K1 : Value → Value → Value → Value → Value → Value → Value → Value →  Heap → Prop) (R : Value → Heap → Prop) (l : List Value) (H : Heap) (hl : l.length = 84) (h : z29_s54 (l.getD 0 undef) (l.getD 1 undef) (l.getD 2 undef) (l.getD 10 undef) (l.getD 11 undef) (l.getD 12 undef) (l.getD 13 undef) (l.getD 14 undef) K1 R H) : wpE tab P z29_pi z29_c16 (z29_q64 K1 R) l H := by
  refine seqI (c := z29_c16) rfl ?_
  refine seqI (c := z29_c17) rfl ?_
  refine regI hl (Eq.mpr (z29_g55_e _ (fun i => l.getD i undef) _) h) ?_
  clear h hl
  intro l H hl h
  refine thenN ?_
  refine condI (c := z29_c19) rfl h ?_ ?_
  · clear h; intro h
    refine skipI rfl ?_
    refine thenN ?_
    refine seqI (c := z29_c21) rfl ?_
    refine blockI (c := z29_c22) rfl ?_
    refine seqI (c := z29_c23) rfl ?_
    refine regI hl (Eq.mpr (z29_g56_e _ (fun i => l.getD i undef) _) h) ?_
    clear h hl
    intro l H hl h
    refine thenN ?_
    refine blockI (c := z29_c25) rfl ?_
    obtain ⟨I, μ, h0, hr⟩ := h
    refine loopI (c := z29_c26) rfl (fun l' H' => l'.getD 0 undef = l.getD 0 undef ∧ l'.getD 1 undef = l.getD 1 undef ∧ l'.getD 2 undef = l.getD 2 undef ∧ l'.getD 14 undef = l.getD 14 undef ∧ I (l'.getD 10 undef) (l'.getD 11 undef) (l'.getD 12 undef) (l'.getD 13 undef) (l'.getD 15 undef) H') (fun l' H' => μ (l'.getD 10 undef) (l'.getD 11 undef) (l'.getD 12 undef) (l'.getD 13 undef) (l'.getD 15 undef) H') hl ⟨rfl, rfl, rfl, rfl, h0⟩ ?_
    rintro l1 H1 hl1 ⟨e0, e1, e2, e14, hI⟩
    have hb := hr (l1.getD 10 undef) (l1.getD 11 undef) (l1.getD 12 undef) (l1.getD 13 undef) (l1.getD 15 undef) H1 hI
    rw [← e0, ← e1, ← e2, ← e14] at hb
    refine wpE_mono _ l1 H1 hl1 ?_ (z29_s57_i K1 _ R l1 H1 hl1 hb)
    intro e l2 H2 hl2 hq
    cases e with
    | normal => exact fun _ => (by obtain ⟨d0, d1, d2, d14, g1, g2⟩ := hq; exact ⟨⟨d0.trans e0, d1.trans e1, d2.trans e2, d14.trans e14, g1⟩, g2⟩)
    | _ => exact hq
  · clear h; intro h
    refine exitI (c := z29_c20) rfl ?_
    refine thenX ?_
    refine thenX ?_
    refine blkX ?_
    refine thenN ?_
    refine seqI (c := z29_c47) rfl ?_
    refine regI hl (Eq.mpr (z29_g75_e _ (fun i => l.getD i undef) _) h) ?_
    clear h hl
    intro l H hl h
    refine thenN ?_
    refine retI rfl ?_
    exact h
def z29_l76 (x0 x1 x2 x10 x11 x12 x13 x14 : Value) (R : Value → Heap → Prop) (H : Heap) : Prop :=
  ∃ (I : Value → Value → Value → Value → Value → Heap → Prop) (μ : Value → Value → Value → Value → Value → Heap → Nat), I x10 x11 x12 x13 x14 H ∧ ∀ (y10 : Value) (y11 : Value) (y12 : Value) (y13 : Value) (y14 : Value) (H : Heap), I y10 y11 y12 y13 y14 H → z29_s54 x0 x1 x2 y10 y11 y12 y13 y14 (fun z0 z1 z2 z10 z11 z12 z13 z14 H' => z0 = x0 ∧ z1 = x1 ∧ z2 = x2 ∧ (I z10 z11 z12 z13 z14 H' ∧ μ z10 z11 z12 z13 z14 H' < μ y10 y11 y12 y13 y14 H)) R H
def sounderref10_Period (x0 x1 x2 : Value) (R : Value → Heap → Prop) (H : Heap) : Prop :=
  z29_g49 (fun x0 x1 x2 H => z29_g50 (fun x0 x1 x2 x10 x11 x12 x13 H => z29_g51 (fun x0 x1 x2 x10 x11 x12 x13 x24 H => brV x24
  (z29_g52 (fun x6 x7 x8 x9 H => R (.tuple #[x6, x7, x8, x9]) H) H)
  (z29_g53 (fun x0 x1 x2 x10 x11 x12 x13 x14 H => z29_l76 x0 x1 x2 x10 x11 x12 x13 x14 R H) x0 x1 x2 x10 x11 x12 x13 H)) x0 x1 x2 x10 x11 x12 x13 H) x0 x1 x2 H) x0 x1 x2 H
theorem z29_i (R : Value → Heap → Prop) (x0 x1 x2 : Value) (H : Heap) (h : sounderref10_Period x0 x1 x2 R H) : wpE tab P z29_pi z29_c1 (retQ tab z29_rs R) [x0, x1, x2, undef, undef, undef, undef, undef, undef, undef, undef, undef, undef, undef, undef, undef, undef, undef, undef, undef, undef, undef, undef, undef, undef, undef, undef, undef, undef, undef, undef, undef, undef, undef, undef, undef, undef, undef, undef, undef, undef, undef, undef, undef, undef, undef, undef, undef, undef, undef, undef, undef, undef, undef, undef, undef, undef, undef, undef, undef, undef, undef, undef, undef, undef, undef, undef, undef, undef, undef, undef, undef, undef, undef, undef, undef, undef, undef, undef, undef, undef, undef, undef, undef] H := by
  obtain ⟨l, hl, el⟩ : ∃ l : List Value, l.length = 84 ∧ l = [x0, x1, x2, undef, undef, undef, undef, undef, undef, undef, undef, undef, undef, undef, undef, undef, undef, undef, undef, undef, undef, undef, undef, undef, undef, undef, undef, undef, undef, undef, undef, undef, undef, undef, undef, undef, undef, undef, undef, undef, undef, undef, undef, undef, undef, undef, undef, undef, undef, undef, undef, undef, undef, undef, undef, undef, undef, undef, undef, undef, undef, undef, undef, undef, undef, undef, undef, undef, undef, undef, undef, undef, undef, undef, undef, undef, undef, undef, undef, undef, undef, undef, undef, undef] := ⟨_, rfl, rfl⟩
  rw [← el]
  have h : (fun (x0 x1 x2 : Value) => z29_g49 (fun x0 x1 x2 H => z29_g50 (fun x0 x1 x2 x10 x11 x12 x13 H => z29_g51 (fun x0 x1 x2 x10 x11 x12 x13 x24 H => brV x24
(z29_g52 (fun x6 x7 x8 x9 H => R (.tuple #[x6, x7, x8, x9]) H) H)
(z29_g53 (fun x0 x1 x2 x10 x11 x12 x13 x14 H => z29_l76 x0 x1 x2 x10 x11 x12 x13 x14 R H) x0 x1 x2 x10 x11 x12 x13 H)) x0 x1 x2 x10 x11 x12 x13 H) x0 x1 x2 H) x0 x1 x2 H) (l.getD 0 undef) (l.getD 1 undef) (l.getD 2 undef) := by rw [el]; exact h
  clear el
  refine seqI (c := z29_c1) rfl ?_
  refine regI hl (Eq.mpr (z29_g49_e _ (fun i => l.getD i undef) _) h) ?_
  clear h hl
  intro l H hl h
  refine thenN ?_
  refine seqI (c := z29_c3) rfl ?_
  refine regI hl (Eq.mpr (z29_g50_e _ (fun i => l.getD i undef) _) h) ?_
  clear h hl
  intro l H hl h
  refine thenN ?_
  refine seqI (c := z29_c5) rfl ?_
  refine seqI (c := z29_c6) rfl ?_
  refine regI hl (Eq.mpr (z29_g51_e _ (fun i => l.getD i undef) _) h) ?_
  clear h hl
  intro l H hl h
  refine thenN ?_
  refine condI (c := z29_c8) rfl h ?_ ?_
  · clear h; intro h
    refine seqI (c := z29_c9) rfl ?_
    refine regI hl (Eq.mpr (z29_g52_e _ (fun i => l.getD i undef) _) h) ?_
    clear h hl
    intro l H hl h
    refine thenN ?_
    refine retI rfl ?_
    refine thenR ?_
    exact h
  · clear h; intro h
    refine skipI rfl ?_
    refine thenN ?_
    refine seqI (c := z29_c11) rfl ?_
    refine seqI (c := z29_c12) rfl ?_
    refine regI hl (Eq.mpr (z29_g53_e _ (fun i => l.getD i undef) _) h) ?_
    clear h hl
    intro l H hl h
    refine thenN ?_
    refine blockI (c := z29_c14) rfl ?_
    obtain ⟨I, μ, h0, hr⟩ := h
    refine loopI (c := z29_c15) rfl (fun l' H' => l'.getD 0 undef = l.getD 0 undef ∧ l'.getD 1 undef = l.getD 1 undef ∧ l'.getD 2 undef = l.getD 2 undef ∧ I (l'.getD 10 undef) (l'.getD 11 undef) (l'.getD 12 undef) (l'.getD 13 undef) (l'.getD 14 undef) H') (fun l' H' => μ (l'.getD 10 undef) (l'.getD 11 undef) (l'.getD 12 undef) (l'.getD 13 undef) (l'.getD 14 undef) H') hl ⟨rfl, rfl, rfl, h0⟩ ?_
    rintro l1 H1 hl1 ⟨e0, e1, e2, hI⟩
    have hb := hr (l1.getD 10 undef) (l1.getD 11 undef) (l1.getD 12 undef) (l1.getD 13 undef) (l1.getD 14 undef) H1 hI
    rw [← e0, ← e1, ← e2] at hb
    refine wpE_mono _ l1 H1 hl1 ?_ (z29_s54_i _ R l1 H1 hl1 hb)
    intro e l2 H2 hl2 hq
    cases e with
    | normal => exact fun _ => (by obtain ⟨d0, d1, d2, g1, g2⟩ := hq; exact ⟨⟨d0.trans e0, d1.trans e1, d2.trans e2, g1⟩, g2⟩)
    | _ => exact hq
theorem z29_ok : okB z29_pi z29_c1 = true := by kernel_rfl
theorem z29_ev0 (x0 x1 x2 : Value) (R : Value → Heap → Prop) (H : Heap) (h : sounderref10_Period x0 x1 x2 R H) : EvL P N.sounderref10_Period #[x0, x1, x2] H R :=
  EvF_intro (args := [x0, x1, x2]) (k := 81) (rs := z29_rs) tab_ok mixed Try.func29 (show Try.f29.body = some z29_c1 by kernel_rfl) Try.call29 Try.ntmps29 (by kernel_rfl) (okCode_of _ z29_ok) rfl (z29_i R x0 x1 x2 H h)
theorem z29_ev (x0 x1 x2 : Value) (R : Value → Heap → Prop) (H : Heap) (h : sounderref10_Period x0 x1 x2 R H) : EvF P N.sounderref10_Period #[x0, x1, x2] H R := .inl (z29_ev0 x0 x1 x2 R H h)
/- 30: sounder/sounderref10.Is -/
def z30_rs : List ResultVar := [.tmp 8]
noncomputable def z30_c2 : Code := subC (bodyC Try.f30) [0]
noncomputable def z30_c4 : Code := subC (bodyC Try.f30) [1, 0]
noncomputable def z30_c6 : Code := subC (bodyC Try.f30) [1, 1, 0]
noncomputable def z30_c5 : Code := .seq z30_c6 Code.ret
noncomputable def z30_c3 : Code := .seq z30_c4 z30_c5
noncomputable def z30_c1 : Code := .seq z30_c2 z30_c3
def z30_pi (_ : Nat) : Pl := .nil
def z30_g7 (S : Value → Value → Value → Value → Heap → Prop) (x0 x1 x2 x3 : Value) (H : Heap) : Prop :=
  newE 36 (Value.cells x2) H fun v6 H1 =>
  S x0 x1 x3 v6 H1
theorem z30_g7_e (S : Value → Value → Value → Value → Heap → Prop) (x : Nat → Value) (H : Heap) : wpE tab P z30_pi z30_c2 (nQ fun l H => S (l.getD 0 undef) (l.getD 1 undef) (l.getD 3 undef) (l.getD 6 undef) H) ((List.range 36).map x) H = z30_g7 S (x 0) (x 1) (x 2) (x 3) H := by kernel_rfl
def z30_g8 (S : Value → Value → Value → Value → Heap → Prop) (x0 x1 x3 x6 : Value) (H : Heap) : Prop :=
  bnd (faV 4 x6) fun v16 =>
  bnd (ldE false 1 v16 H) fun v17 =>
  EvF P N.sounderref10_Period #[x0, x1, v17] H fun v18 H1 =>
  bnd (exV 0 v18) fun v19 =>
  bnd (exV 1 v18) fun _ =>
  bnd (exV 2 v18) fun _ =>
  bnd (exV 3 v18) fun v22 =>
  S x3 x6 v19 v22 H1
theorem z30_g8_e (S : Value → Value → Value → Value → Heap → Prop) (x : Nat → Value) (H : Heap) : wpE tab P z30_pi z30_c4 (nQ fun l H => S (l.getD 3 undef) (l.getD 6 undef) (l.getD 9 undef) (l.getD 12 undef) H) ((List.range 36).map x) H = z30_g8 S (x 0) (x 1) (x 3) (x 6) H := by kernel_rfl
def z30_g9 (S : Value → Heap → Prop) (x3 x6 x9 x12 : Value) (H : Heap) : Prop :=
  brV x12
  (bnd (ldE true 5 x6 H) fun v25 =>
  EvF P N.sounderref07_Check #[v25] H fun v26 H1 =>
  bnd (binV .int .eql v26 (.int .i64 0)) fun v27 =>
  brV v27
  (bnd (ldE true 5 x6 H1) fun v31 =>
  EvF P N.sounderref08_Persist #[v31, x3] H1 fun v33 H2 =>
  bnd (binV .int .gtr x9 v33) fun v34 =>
  S v34 H2)
  (S (.bool false) H1))
  (S (.bool false) H)
theorem z30_g9_e (S : Value → Heap → Prop) (x : Nat → Value) (H : Heap) : wpE tab P z30_pi z30_c6 (nQ fun l H => S (l.getD 8 undef) H) ((List.range 36).map x) H = z30_g9 S (x 3) (x 6) (x 9) (x 12) H := by kernel_rfl
def sounderref10_Is (x0 x1 x2 x3 : Value) (R : Value → Heap → Prop) (H : Heap) : Prop :=
  z30_g7 (fun x0 x1 x3 x6 H => z30_g8 (fun x3 x6 x9 x12 H => z30_g9 (fun x8 H => R x8 H) x3 x6 x9 x12 H) x0 x1 x3 x6 H) x0 x1 x2 x3 H
theorem z30_i (R : Value → Heap → Prop) (x0 x1 x2 x3 : Value) (H : Heap) (h : sounderref10_Is x0 x1 x2 x3 R H) : wpE tab P z30_pi z30_c1 (retQ tab z30_rs R) [x0, x1, x2, x3, undef, undef, undef, undef, undef, undef, undef, undef, undef, undef, undef, undef, undef, undef, undef, undef, undef, undef, undef, undef, undef, undef, undef, undef, undef, undef, undef, undef, undef, undef, undef, undef] H := by
  obtain ⟨l, hl, el⟩ : ∃ l : List Value, l.length = 36 ∧ l = [x0, x1, x2, x3, undef, undef, undef, undef, undef, undef, undef, undef, undef, undef, undef, undef, undef, undef, undef, undef, undef, undef, undef, undef, undef, undef, undef, undef, undef, undef, undef, undef, undef, undef, undef, undef] := ⟨_, rfl, rfl⟩
  rw [← el]
  have h : (fun (x0 x1 x2 x3 : Value) => z30_g7 (fun x0 x1 x3 x6 H => z30_g8 (fun x3 x6 x9 x12 H => z30_g9 (fun x8 H => R x8 H) x3 x6 x9 x12 H) x0 x1 x3 x6 H) x0 x1 x2 x3 H) (l.getD 0 undef) (l.getD 1 undef) (l.getD 2 undef) (l.getD 3 undef) := by rw [el]; exact h
  clear el
  refine seqI (c := z30_c1) rfl ?_
  refine regI hl (Eq.mpr (z30_g7_e _ (fun i => l.getD i undef) _) h) ?_
  clear h hl
  intro l H hl h
  refine thenN ?_
  refine seqI (c := z30_c3) rfl ?_
  refine regI hl (Eq.mpr (z30_g8_e _ (fun i => l.getD i undef) _) h) ?_
  clear h hl
  intro l H hl h
  refine thenN ?_
  refine seqI (c := z30_c5) rfl ?_
  refine regI hl (Eq.mpr (z30_g9_e _ (fun i => l.getD i undef) _) h) ?_
  clear h hl
  intro l H hl h
  refine thenN ?_
  refine retI rfl ?_
  exact h
theorem z30_ok : okB z30_pi z30_c1 = true := by kernel_rfl
theorem z30_ev0 (x0 x1 x2 x3 : Value) (R : Value → Heap → Prop) (H : Heap) (h : sounderref10_Is x0 x1 x2 x3 R H) : EvL P N.sounderref10_Is #[x0, x1, x2, x3] H R :=
  EvF_intro (args := [x0, x1, x2, x3]) (k := 32) (rs := z30_rs) tab_ok mixed Try.func30 (show Try.f30.body = some z30_c1 by kernel_rfl) Try.call30 Try.ntmps30 (by kernel_rfl) (okCode_of _ z30_ok) rfl (z30_i R x0 x1 x2 x3 H h)
theorem z30_ev (x0 x1 x2 x3 : Value) (R : Value → Heap → Prop) (H : Heap) (h : sounderref10_Is x0 x1 x2 x3 R H) : EvF P N.sounderref10_Is #[x0, x1, x2, x3] H R := .inl (z30_ev0 x0 x1 x2 x3 R H h)
/- 31: sounder/span.New -/
def z31_rs : List ResultVar := [.tmp 2, .tmp 3]
noncomputable def z31_c2 : Code := subC (bodyC Try.f31) [0]
noncomputable def z31_c5 : Code := subC (bodyC Try.f31) [1, 0, 0]
noncomputable def z31_c8 : Code := subC (bodyC Try.f31) [1, 0, 1, 0, 0]
noncomputable def z31_c7 : Code := .seq z31_c8 Code.ret
noncomputable def z31_c6 : Code := .cond (.tmp 9) z31_c7 Code.skip
noncomputable def z31_c4 : Code := .seq z31_c5 z31_c6
noncomputable def z31_c10 : Code := subC (bodyC Try.f31) [1, 1, 0]
noncomputable def z31_c9 : Code := .seq z31_c10 Code.ret
noncomputable def z31_c3 : Code := .seq z31_c4 z31_c9
noncomputable def z31_c1 : Code := .seq z31_c2 z31_c3
def z31_pi (_ : Nat) : Pl := .nil
def z31_g11 (S : Value → Heap → Prop) (x0 : Value) (H : Heap) : Prop :=
  S x0 H
theorem z31_g11_e (S : Value → Heap → Prop) (x : Nat → Value) (H : Heap) : wpE tab P z31_pi z31_c2 (nQ fun l H => S (l.getD 0 undef) H) ((List.range 13).map x) H = z31_g11 S (x 0) H := by kernel_rfl
def z31_g12 (S : Value → Value → Heap → Prop) (x0 : Value) (H : Heap) : Prop :=
  bnd (binV .int .lss x0 (.int .i64 1)) fun v5 =>
  brV v5
  (S x0 (.bool true) H)
  (bnd (binV .int .gtr x0 (.int .i64 256)) fun v8 =>
  S x0 v8 H)
theorem z31_g12_e (S : Value → Value → Heap → Prop) (x : Nat → Value) (H : Heap) : wpE tab P z31_pi z31_c5 (nQ fun l H => S (l.getD 0 undef) (l.getD 9 undef) H) ((List.range 13).map x) H = z31_g12 S (x 0) H := by kernel_rfl
def z31_g13 (S : Value → Value → Heap → Prop) (H : Heap) : Prop :=
  S (.pointer none) (.int .i64 2) H
theorem z31_g13_e (S : Value → Value → Heap → Prop) (x : Nat → Value) (H : Heap) : wpE tab P z31_pi z31_c8 (nQ fun l H => S (l.getD 2 undef) (l.getD 3 undef) H) ((List.range 13).map x) H = z31_g13 S  H := by kernel_rfl
def z31_g14 (S : Value → Value → Heap → Prop) (x0 : Value) (H : Heap) : Prop :=
  bnd (buildV #[(.int .i64 0), (.slice none 0 0)] (places [(0, 1), (1, 1)]) [(0, x0)]) fun v11 =>
  newE 75 (Value.cells v11) H fun v12 H1 =>
  S v12 (.int .i64 0) H1
theorem z31_g14_e (S : Value → Value → Heap → Prop) (x : Nat → Value) (H : Heap) : wpE tab P z31_pi z31_c10 (nQ fun l H => S (l.getD 2 undef) (l.getD 3 undef) H) ((List.range 13).map x) H = z31_g14 S (x 0) H := by kernel_rfl
def span_New (x0 : Value) (R : Value → Heap → Prop) (H : Heap) : Prop :=
  z31_g11 (fun x0 H => z31_g12 (fun x0 x9 H => brV x9
  (z31_g13 (fun x2 x3 H => R (.tuple #[x2, x3]) H) H)
  (z31_g14 (fun x2 x3 H => R (.tuple #[x2, x3]) H) x0 H)) x0 H) x0 H
theorem z31_i (R : Value → Heap → Prop) (x0 : Value) (H : Heap) (h : span_New x0 R H) : wpE tab P z31_pi z31_c1 (retQ tab z31_rs R) [x0, undef, undef, undef, undef, undef, undef, undef, undef, undef, undef, undef, undef] H := by
  obtain ⟨l, hl, el⟩ : ∃ l : List Value, l.length = 13 ∧ l = [x0, undef, undef, undef, undef, undef, undef, undef, undef, undef, undef, undef, undef] := ⟨_, rfl, rfl⟩
  rw [← el]
  have h : (fun (x0 : Value) => z31_g11 (fun x0 H => z31_g12 (fun x0 x9 H => brV x9
(z31_g13 (fun x2 x3 H => R (.tuple #[x2, x3]) H) H)
(z31_g14 (fun x2 x3 H => R (.tuple #[x2, x3]) H) x0 H)) x0 H) x0 H) (l.getD 0 undef) := by rw [el]; exact h
  clear el
  refine seqI (c := z31_c1) rfl ?_
  refine regI hl (Eq.mpr (z31_g11_e _ (fun i => l.getD i undef) _) h) ?_
  clear h hl
  intro l H hl h
  refine thenN ?_
  refine seqI (c := z31_c3) rfl ?_
  refine seqI (c := z31_c4) rfl ?_
  refine regI hl (Eq.mpr (z31_g12_e _ (fun i => l.getD i undef) _) h) ?_
  clear h hl
  intro l H hl h
  refine thenN ?_
  refine condI (c := z31_c6) rfl h ?_ ?_
  · clear h; intro h
    refine seqI (c := z31_c7) rfl ?_
    refine regI hl (Eq.mpr (z31_g13_e _ (fun i => l.getD i undef) _) h) ?_
    clear h hl
    intro l H hl h
    refine thenN ?_
    refine retI rfl ?_
    refine thenR ?_
    exact h
  · clear h; intro h
    refine skipI rfl ?_
    refine thenN ?_
    refine seqI (c := z31_c9) rfl ?_
    refine regI hl (Eq.mpr (z31_g14_e _ (fun i => l.getD i undef) _) h) ?_
    clear h hl
    intro l H hl h
    refine thenN ?_
    refine retI rfl ?_
    exact h
theorem z31_ok : okB z31_pi z31_c1 = true := by kernel_rfl
theorem z31_ev0 (x0 : Value) (R : Value → Heap → Prop) (H : Heap) (h : span_New x0 R H) : EvL P N.span_New #[x0] H R :=
  EvF_intro (args := [x0]) (k := 12) (rs := z31_rs) tab_ok mixed Try.func31 (show Try.f31.body = some z31_c1 by kernel_rfl) Try.call31 Try.ntmps31 (by kernel_rfl) (okCode_of _ z31_ok) rfl (z31_i R x0 H h)
theorem z31_ev (x0 : Value) (R : Value → Heap → Prop) (H : Heap) (h : span_New x0 R H) : EvF P N.span_New #[x0] H R := .inl (z31_ev0 x0 R H h)
/- 33: (*sounder/span.Set).none -/
def z33_rs : List ResultVar := [.tmp 2]
noncomputable def z33_c2 : Code := subC (bodyC Try.f33) [0]
noncomputable def z33_c4 : Code := subC (bodyC Try.f33) [1, 0]
noncomputable def z33_c3 : Code := .seq z33_c4 Code.ret
noncomputable def z33_c1 : Code := .seq z33_c2 z33_c3
def z33_pi (_ : Nat) : Pl := .nil
def z33_g5 (S : Value → Heap → Prop) (x0 : Value) (H : Heap) : Prop :=
  S x0 H
theorem z33_g5_e (S : Value → Heap → Prop) (x : Nat → Value) (H : Heap) : wpE tab P z33_pi z33_c2 (nQ fun l H => S (l.getD 0 undef) H) ((List.range 12).map x) H = z33_g5 S (x 0) H := by kernel_rfl
def z33_g6 (S : Value → Heap → Prop) (x0 : Value) (H : Heap) : Prop :=
  bnd (binV .ptr .eql x0 (.pointer none)) fun v4 =>
  brV v4
  (S (.bool true) H)
  (bnd (nilV x0) fun v7 =>
  bnd (faV 0 v7) fun v8 =>
  bnd (ldE false 1 v8 H) fun v9 =>
  bnd (binV .int .eql v9 (.int .i64 0)) fun v10 =>
  S v10 H)
theorem z33_g6_e (S : Value → Heap → Prop) (x : Nat → Value) (H : Heap) : wpE tab P z33_pi z33_c4 (nQ fun l H => S (l.getD 2 undef) H) ((List.range 12).map x) H = z33_g6 S (x 0) H := by kernel_rfl
def span_Set_none (x0 : Value) (R : Value → Heap → Prop) (H : Heap) : Prop :=
  z33_g5 (fun x0 H => z33_g6 (fun x2 H => R x2 H) x0 H) x0 H
theorem z33_i (R : Value → Heap → Prop) (x0 : Value) (H : Heap) (h : span_Set_none x0 R H) : wpE tab P z33_pi z33_c1 (retQ tab z33_rs R) [x0, undef, undef, undef, undef, undef, undef, undef, undef, undef, undef, undef] H := by
  obtain ⟨l, hl, el⟩ : ∃ l : List Value, l.length = 12 ∧ l = [x0, undef, undef, undef, undef, undef, undef, undef, undef, undef, undef, undef] := ⟨_, rfl, rfl⟩
  rw [← el]
  have h : (fun (x0 : Value) => z33_g5 (fun x0 H => z33_g6 (fun x2 H => R x2 H) x0 H) x0 H) (l.getD 0 undef) := by rw [el]; exact h
  clear el
  refine seqI (c := z33_c1) rfl ?_
  refine regI hl (Eq.mpr (z33_g5_e _ (fun i => l.getD i undef) _) h) ?_
  clear h hl
  intro l H hl h
  refine thenN ?_
  refine seqI (c := z33_c3) rfl ?_
  refine regI hl (Eq.mpr (z33_g6_e _ (fun i => l.getD i undef) _) h) ?_
  clear h hl
  intro l H hl h
  refine thenN ?_
  refine retI rfl ?_
  exact h
theorem z33_ok : okB z33_pi z33_c1 = true := by kernel_rfl
theorem z33_ev0 (x0 : Value) (R : Value → Heap → Prop) (H : Heap) (h : span_Set_none x0 R H) : EvL P N.span_Set_none #[x0] H R :=
  EvF_intro (args := [x0]) (k := 11) (rs := z33_rs) tab_ok mixed Try.func33 (show Try.f33.body = some z33_c1 by kernel_rfl) Try.call33 Try.ntmps33 (by kernel_rfl) (okCode_of _ z33_ok) rfl (z33_i R x0 H h)
theorem z33_ev (x0 : Value) (R : Value → Heap → Prop) (H : Heap) (h : span_Set_none x0 R H) : EvF P N.span_Set_none #[x0] H R := .inl (z33_ev0 x0 R H h)
/- 34: sounder/span.is -/
def z34_rs : List ResultVar := [.tmp 2]
noncomputable def z34_c2 : Code := subC (bodyC Try.f34) [0]
noncomputable def z34_c4 : Code := subC (bodyC Try.f34) [1, 0]
noncomputable def z34_c3 : Code := .seq z34_c4 Code.ret
noncomputable def z34_c1 : Code := .seq z34_c2 z34_c3
def z34_pi (_ : Nat) : Pl := .nil
def z34_g5 (S : Value → Heap → Prop) (x0 : Value) (H : Heap) : Prop :=
  S x0 H
theorem z34_g5_e (S : Value → Heap → Prop) (x : Nat → Value) (H : Heap) : wpE tab P z34_pi z34_c2 (nQ fun l H => S (l.getD 0 undef) H) ((List.range 9).map x) H = z34_g5 S (x 0) H := by kernel_rfl
def z34_g6 (S : Value → Heap → Prop) (x0 : Value) (H : Heap) : Prop :=
  bnd (binV .int .geq x0 (.int .i64 0)) fun v4 =>
  brV v4
  (bnd (binV .int .leq x0 (.int .i64 9007199254740991)) fun v7 =>
  S v7 H)
  (S (.bool false) H)
theorem z34_g6_e (S : Value → Heap → Prop) (x : Nat → Value) (H : Heap) : wpE tab P z34_pi z34_c4 (nQ fun l H => S (l.getD 2 undef) H) ((List.range 9).map x) H = z34_g6 S (x 0) H := by kernel_rfl
def span_is (x0 : Value) (R : Value → Heap → Prop) (H : Heap) : Prop :=
  z34_g5 (fun x0 H => z34_g6 (fun x2 H => R x2 H) x0 H) x0 H
theorem z34_i (R : Value → Heap → Prop) (x0 : Value) (H : Heap) (h : span_is x0 R H) : wpE tab P z34_pi z34_c1 (retQ tab z34_rs R) [x0, undef, undef, undef, undef, undef, undef, undef, undef] H := by
  obtain ⟨l, hl, el⟩ : ∃ l : List Value, l.length = 9 ∧ l = [x0, undef, undef, undef, undef, undef, undef, undef, undef] := ⟨_, rfl, rfl⟩
  rw [← el]
  have h : (fun (x0 : Value) => z34_g5 (fun x0 H => z34_g6 (fun x2 H => R x2 H) x0 H) x0 H) (l.getD 0 undef) := by rw [el]; exact h
  clear el
  refine seqI (c := z34_c1) rfl ?_
  refine regI hl (Eq.mpr (z34_g5_e _ (fun i => l.getD i undef) _) h) ?_
  clear h hl
  intro l H hl h
  refine thenN ?_
  refine seqI (c := z34_c3) rfl ?_
  refine regI hl (Eq.mpr (z34_g6_e _ (fun i => l.getD i undef) _) h) ?_
  clear h hl
  intro l H hl h
  refine thenN ?_
  refine retI rfl ?_
  exact h
theorem z34_ok : okB z34_pi z34_c1 = true := by kernel_rfl
theorem z34_ev0 (x0 : Value) (R : Value → Heap → Prop) (H : Heap) (h : span_is x0 R H) : EvL P N.span_is #[x0] H R :=
  EvF_intro (args := [x0]) (k := 8) (rs := z34_rs) tab_ok mixed Try.func34 (show Try.f34.body = some z34_c1 by kernel_rfl) Try.call34 Try.ntmps34 (by kernel_rfl) (okCode_of _ z34_ok) rfl (z34_i R x0 H h)
theorem z34_ev (x0 : Value) (R : Value → Heap → Prop) (H : Heap) (h : span_is x0 R H) : EvF P N.span_is #[x0] H R := .inl (z34_ev0 x0 R H h)
/- 35: (*sounder/span.Set).first -/
def z35_rs : List ResultVar := [.tmp 4]
noncomputable def z35_c2 : Code := subC (bodyC Try.f35) [0]
noncomputable def z35_c4 : Code := subC (bodyC Try.f35) [1, 0]
noncomputable def z35_c3 : Code := .seq z35_c4 Code.ret
noncomputable def z35_c1 : Code := .seq z35_c2 z35_c3
def z35_pi (_ : Nat) : Pl := .nil
def z35_g5 (S : Value → Value → Heap → Prop) (x0 x1 : Value) (H : Heap) : Prop :=
  newE 28 (Value.cells x0) H fun v2 H1 =>
  newE 3 (Value.cells x1) H1 fun v3 H2 =>
  S v2 v3 H2
theorem z35_g5_e (S : Value → Value → Heap → Prop) (x : Nat → Value) (H : Heap) : wpE tab P z35_pi z35_c2 (nQ fun l H => S (l.getD 2 undef) (l.getD 3 undef) H) ((List.range 12).map x) H = z35_g5 S (x 0) (x 1) H := by kernel_rfl
def z35_g6 (S : Value → Heap → Prop) (x2 x3 : Value) (H : Heap) : Prop :=
  bnd (ldE false 1 x2 H) fun v5 =>
  bnd (nilV v5) fun v6 =>
  bnd (faV 1 v6) fun v7 =>
  bnd (ldE false 1 v7 H) fun v8 =>
  bnd (lenV v8) fun v9 =>
  EvF P N.sort_Search #[v9, (.func (.func N.span_Set_first_1) #[] #[x2, x3])] H fun v11 H1 =>
  S v11 H1
theorem z35_g6_e (S : Value → Heap → Prop) (x : Nat → Value) (H : Heap) : wpE tab P z35_pi z35_c4 (nQ fun l H => S (l.getD 4 undef) H) ((List.range 12).map x) H = z35_g6 S (x 2) (x 3) H := by kernel_rfl
def span_Set_first (x0 x1 : Value) (R : Value → Heap → Prop) (H : Heap) : Prop :=
  z35_g5 (fun x2 x3 H => z35_g6 (fun x4 H => R x4 H) x2 x3 H) x0 x1 H
theorem z35_i (R : Value → Heap → Prop) (x0 x1 : Value) (H : Heap) (h : span_Set_first x0 x1 R H) : wpE tab P z35_pi z35_c1 (retQ tab z35_rs R) [x0, x1, undef, undef, undef, undef, undef, undef, undef, undef, undef, undef] H := by
  obtain ⟨l, hl, el⟩ : ∃ l : List Value, l.length = 12 ∧ l = [x0, x1, undef, undef, undef, undef, undef, undef, undef, undef, undef, undef] := ⟨_, rfl, rfl⟩
  rw [← el]
  have h : (fun (x0 x1 : Value) => z35_g5 (fun x2 x3 H => z35_g6 (fun x4 H => R x4 H) x2 x3 H) x0 x1 H) (l.getD 0 undef) (l.getD 1 undef) := by rw [el]; exact h
  clear el
  refine seqI (c := z35_c1) rfl ?_
  refine regI hl (Eq.mpr (z35_g5_e _ (fun i => l.getD i undef) _) h) ?_
  clear h hl
  intro l H hl h
  refine thenN ?_
  refine seqI (c := z35_c3) rfl ?_
  refine regI hl (Eq.mpr (z35_g6_e _ (fun i => l.getD i undef) _) h) ?_
  clear h hl
  intro l H hl h
  refine thenN ?_
  refine retI rfl ?_
  exact h
theorem z35_ok : okB z35_pi z35_c1 = true := by kernel_rfl
theorem z35_ev0 (x0 x1 : Value) (R : Value → Heap → Prop) (H : Heap) (h : span_Set_first x0 x1 R H) : EvL P N.span_Set_first #[x0, x1] H R :=
  EvF_intro (args := [x0, x1]) (k := 10) (rs := z35_rs) tab_ok mixed Try.func35 (show Try.f35.body = some z35_c1 by kernel_rfl) Try.call35 Try.ntmps35 (by kernel_rfl) (okCode_of _ z35_ok) rfl (z35_i R x0 x1 H h)
theorem z35_ev (x0 x1 : Value) (R : Value → Heap → Prop) (H : Heap) (h : span_Set_first x0 x1 R H) : EvF P N.span_Set_first #[x0, x1] H R := .inl (z35_ev0 x0 x1 R H h)
/- 36: sort.Search -/
def z36_rs : List ResultVar := [.tmp 4]
noncomputable def z36_c2 : Code := subC (bodyC Try.f36) [0]
noncomputable def z36_c4 : Code := subC (bodyC Try.f36) [1, 0]
noncomputable def z36_c10 : Code := subC (bodyC Try.f36) [1, 1, 0, 0, 0, 0, 0]
noncomputable def z36_c12 : Code := .exit 0
noncomputable def z36_c11 : Code := .cond (.tmp 11) Code.skip z36_c12
noncomputable def z36_c9 : Code := .seq z36_c10 z36_c11
noncomputable def z36_c15 : Code := subC (bodyC Try.f36) [1, 1, 0, 0, 0, 1, 0, 0]
noncomputable def z36_c17 : Code := subC (bodyC Try.f36) [1, 1, 0, 0, 0, 1, 0, 1, 0]
noncomputable def z36_c19 : Code := subC (bodyC Try.f36) [1, 1, 0, 0, 0, 1, 0, 1, 1, 0]
noncomputable def z36_c20 : Code := subC (bodyC Try.f36) [1, 1, 0, 0, 0, 1, 0, 1, 1, 1]
noncomputable def z36_c18 : Code := .cond (.tmp 21) z36_c19 z36_c20
noncomputable def z36_c16 : Code := .seq z36_c17 z36_c18
noncomputable def z36_c14 : Code := .seq z36_c15 z36_c16
noncomputable def z36_c13 : Code := .block 1 z36_c14
noncomputable def z36_c8 : Code := .seq z36_c9 z36_c13
noncomputable def z36_c7 : Code := .loop z36_c8
noncomputable def z36_c6 : Code := .block 0 z36_c7
noncomputable def z36_c22 : Code := subC (bodyC Try.f36) [1, 1, 1, 0]
noncomputable def z36_c21 : Code := .seq z36_c22 Code.ret
noncomputable def z36_c5 : Code := .seq z36_c6 z36_c21
noncomputable def z36_c3 : Code := .seq z36_c4 z36_c5
noncomputable def z36_c1 : Code := .seq z36_c2 z36_c3
def z36_pi (_ : Nat) : Pl := .nil
def z36_g23 (S : Value → Value → Heap → Prop) (x0 x1 : Value) (H : Heap) : Prop :=
  S x0 x1 H
theorem z36_g23_e (S : Value → Value → Heap → Prop) (x : Nat → Value) (H : Heap) : wpE tab P z36_pi z36_c2 (nQ fun l H => S (l.getD 0 undef) (l.getD 1 undef) H) ((List.range 26).map x) H = z36_g23 S (x 0) (x 1) H := by kernel_rfl
def z36_g24 (S : Value → Value → Value → Heap → Prop) (x0 x1 : Value) (H : Heap) : Prop :=
  S x1 (.int .i64 0) x0 H
theorem z36_g24_e (S : Value → Value → Value → Heap → Prop) (x : Nat → Value) (H : Heap) : wpE tab P z36_pi z36_c4 (nQ fun l H => S (l.getD 1 undef) (l.getD 5 undef) (l.getD 6 undef) H) ((List.range 26).map x) H = z36_g24 S (x 0) (x 1) H := by kernel_rfl
def z36_g26 (S : Value → Value → Value → Value → Heap → Prop) (x1 x5 x6 : Value) (H : Heap) : Prop :=
  bnd (binV .int .lss x5 x6) fun v11 =>
  S x1 x5 x6 v11 H
theorem z36_g26_e (S : Value → Value → Value → Value → Heap → Prop) (x : Nat → Value) (H : Heap) : wpE tab P z36_pi z36_c10 (nQ fun l H => S (l.getD 1 undef) (l.getD 5 undef) (l.getD 6 undef) (l.getD 11 undef) H) ((List.range 26).map x) H = z36_g26 S (x 1) (x 5) (x 6) H := by kernel_rfl
def z36_g27 (S : Value → Value → Value → Value → Heap → Prop) (x1 x5 x6 : Value) (H : Heap) : Prop :=
  bnd (binV .int .add x5 x6) fun v14 =>
  bnd (cvV .u64 v14) fun v15 =>
  bnd (binV .int .shr v15 (.int .u64 1)) fun v16 =>
  bnd (cvV .i64 v16) fun v17 =>
  S x1 x5 x6 v17 H
theorem z36_g27_e (S : Value → Value → Value → Value → Heap → Prop) (x : Nat → Value) (H : Heap) : wpE tab P z36_pi z36_c15 (nQ fun l H => S (l.getD 1 undef) (l.getD 5 undef) (l.getD 6 undef) (l.getD 7 undef) H) ((List.range 26).map x) H = z36_g27 S (x 1) (x 5) (x 6) H := by kernel_rfl
def z36_g28 (S : Value → Value → Value → Value → Value → Heap → Prop) (x1 x5 x6 x7 : Value) (H : Heap) : Prop :=
  callV P x1 [x7] H fun v20 H1 =>
  bnd (unV .not v20) fun v21 =>
  S x1 x5 x6 x7 v21 H1
theorem z36_g28_e (S : Value → Value → Value → Value → Value → Heap → Prop) (x : Nat → Value) (H : Heap) : wpE tab P z36_pi z36_c17 (nQ fun l H => S (l.getD 1 undef) (l.getD 5 undef) (l.getD 6 undef) (l.getD 7 undef) (l.getD 21 undef) H) ((List.range 26).map x) H = z36_g28 S (x 1) (x 5) (x 6) (x 7) H := by kernel_rfl
def z36_g29 (S : Value → Value → Value → Heap → Prop) (x1 x6 x7 : Value) (H : Heap) : Prop :=
  bnd (binV .int .add x7 (.int .i64 1)) fun v23 =>
  S x1 v23 x6 H
theorem z36_g29_e (S : Value → Value → Value → Heap → Prop) (x : Nat → Value) (H : Heap) : wpE tab P z36_pi z36_c19 (nQ fun l H => S (l.getD 1 undef) (l.getD 5 undef) (l.getD 6 undef) H) ((List.range 26).map x) H = z36_g29 S (x 1) (x 6) (x 7) H := by kernel_rfl
def z36_g30 (S : Value → Value → Value → Heap → Prop) (x1 x5 x7 : Value) (H : Heap) : Prop :=
  S x1 x5 x7 H
theorem z36_g30_e (S : Value → Value → Value → Heap → Prop) (x : Nat → Value) (H : Heap) : wpE tab P z36_pi z36_c20 (nQ fun l H => S (l.getD 1 undef) (l.getD 5 undef) (l.getD 6 undef) H) ((List.range 26).map x) H = z36_g30 S (x 1) (x 5) (x 7) H := by kernel_rfl
def z36_g31 (S : Value → Heap → Prop) (x5 : Value) (H : Heap) : Prop :=
  S x5 H
theorem z36_g31_e (S : Value → Heap → Prop) (x : Nat → Value) (H : Heap) : wpE tab P z36_pi z36_c22 (nQ fun l H => S (l.getD 4 undef) H) ((List.range 26).map x) H = z36_g31 S (x 5) H := by kernel_rfl
def z36_s25 (x1 x5 x6 : Value) (K1 : Value → Value → Value →  Heap → Prop) (R : Value → Heap → Prop) (H : Heap) : Prop :=
  z36_g26 (fun x1 x5 x6 x11 H => brV x11
  (z36_g27 (fun x1 x5 x6 x7 H => z36_g28 (fun x1 x5 x6 x7 x21 H => brV x21
  (z36_g29 (fun x1 x5 x6 H => K1 x1 x5 x6 H) x1 x6 x7 H)
  (z36_g30 (fun x1 x5 x6 H => K1 x1 x5 x6 H) x1 x5 x7 H)) x1 x5 x6 x7 H) x1 x5 x6 H)
  (z36_g31 (fun x4 H => R x4 H) x5 H)) x1 x5 x6 H
noncomputable def z36_q32 (R : Value → Heap → Prop) : Exit → List Value → Heap → Prop := (retQ tab z36_rs R)
noncomputable def z36_q33 (R : Value → Heap → Prop) : Exit → List Value → Heap → Prop := (thenE (fun l H => wpE tab P z36_pi z36_c21 (z36_q32 R) l H) (z36_q32 R))
noncomputable def z36_q34 (R : Value → Heap → Prop) : Exit → List Value → Heap → Prop := (blkE 0 (z36_q33 R))
noncomputable def z36_q35 (K1 : Value → Value → Value →  Heap → Prop) (R : Value → Heap → Prop) : Exit → List Value → Heap → Prop := (thenE (fun l H => K1 (l.getD 1 undef) (l.getD 5 undef) (l.getD 6 undef) H) (z36_q34 R))
theorem z36_s25_i (K1 : Value → Value → Value →  Heap → Prop) (R : Value → Heap → Prop) (l : List Value) (H : Heap) (hl : l.length = 26) (h : z36_s25 (l.getD 1 undef) (l.getD 5 undef) (l.getD 6 undef) K1 R H) : wpE tab P z36_pi z36_c8 (z36_q35 K1 R) l H := by
  refine seqI (c := z36_c8) rfl ?_
  refine seqI (c := z36_c9) rfl ?_
  refine regI hl (Eq.mpr (z36_g26_e _ (fun i => l.getD i undef) _) h) ?_
  clear h hl
  intro l H hl h
  refine thenN ?_
  refine condI (c := z36_c11) rfl h ?_ ?_
  · clear h; intro h
    refine skipI rfl ?_
    refine thenN ?_
    refine blockI (c := z36_c13) rfl ?_
    refine seqI (c := z36_c14) rfl ?_
    refine regI hl (Eq.mpr (z36_g27_e _ (fun i => l.getD i undef) _) h) ?_
    clear h hl
    intro l H hl h
    refine thenN ?_
    refine seqI (c := z36_c16) rfl ?_
    refine regI hl (Eq.mpr (z36_g28_e _ (fun i => l.getD i undef) _) h) ?_
    clear h hl
    intro l H hl h
    refine thenN ?_
    refine condI (c := z36_c18) rfl h ?_ ?_
    · clear h; intro h
      refine regI hl (Eq.mpr (z36_g29_e _ (fun i => l.getD i undef) _) h) ?_
      clear h hl
      intro l H hl h
      refine blkN ?_
      refine thenN ?_
      exact h
    · clear h; intro h
      refine regI hl (Eq.mpr (z36_g30_e _ (fun i => l.getD i undef) _) h) ?_
      clear h hl
      intro l H hl h
      refine blkN ?_
      refine thenN ?_
      exact h
  · clear h; intro h
    refine exitI (c := z36_c12) rfl ?_
    refine thenX ?_
    refine thenX ?_
    refine blkX ?_
    refine thenN ?_
    refine seqI (c := z36_c21) rfl ?_
    refine regI hl (Eq.mpr (z36_g31_e _ (fun i => l.getD i undef) _) h) ?_
    clear h hl
    intro l H hl h
    refine thenN ?_
    refine retI rfl ?_
    exact h
def z36_l36 (x1 x5 x6 : Value) (R : Value → Heap → Prop) (H : Heap) : Prop :=
  ∃ (I : Value → Value → Heap → Prop) (μ : Value → Value → Heap → Nat), I x5 x6 H ∧ ∀ (y5 : Value) (y6 : Value) (H : Heap), I y5 y6 H → z36_s25 x1 y5 y6 (fun z1 z5 z6 H' => z1 = x1 ∧ (I z5 z6 H' ∧ μ z5 z6 H' < μ y5 y6 H)) R H
def sort_Search (x0 x1 : Value) (R : Value → Heap → Prop) (H : Heap) : Prop :=
  z36_g23 (fun x0 x1 H => z36_g24 (fun x1 x5 x6 H => z36_l36 x1 x5 x6 R H) x0 x1 H) x0 x1 H
theorem z36_i (R : Value → Heap → Prop) (x0 x1 : Value) (H : Heap) (h : sort_Search x0 x1 R H) : wpE tab P z36_pi z36_c1 (retQ tab z36_rs R) [x0, x1, undef, undef, undef, undef, undef, undef, undef, undef, undef, undef, undef, undef, undef, undef, undef, undef, undef, undef, undef, undef, undef, undef, undef, undef] H := by
  obtain ⟨l, hl, el⟩ : ∃ l : List Value, l.length = 26 ∧ l = [x0, x1, undef, undef, undef, undef, undef, undef, undef, undef, undef, undef, undef, undef, undef, undef, undef, undef, undef, undef, undef, undef, undef, undef, undef, undef] := ⟨_, rfl, rfl⟩
  rw [← el]
  have h : (fun (x0 x1 : Value) => z36_g23 (fun x0 x1 H => z36_g24 (fun x1 x5 x6 H => z36_l36 x1 x5 x6 R H) x0 x1 H) x0 x1 H) (l.getD 0 undef) (l.getD 1 undef) := by rw [el]; exact h
  clear el
  refine seqI (c := z36_c1) rfl ?_
  refine regI hl (Eq.mpr (z36_g23_e _ (fun i => l.getD i undef) _) h) ?_
  clear h hl
  intro l H hl h
  refine thenN ?_
  refine seqI (c := z36_c3) rfl ?_
  refine regI hl (Eq.mpr (z36_g24_e _ (fun i => l.getD i undef) _) h) ?_
  clear h hl
  intro l H hl h
  refine thenN ?_
  refine seqI (c := z36_c5) rfl ?_
  refine blockI (c := z36_c6) rfl ?_
  obtain ⟨I, μ, h0, hr⟩ := h
  refine loopI (c := z36_c7) rfl (fun l' H' => l'.getD 1 undef = l.getD 1 undef ∧ I (l'.getD 5 undef) (l'.getD 6 undef) H') (fun l' H' => μ (l'.getD 5 undef) (l'.getD 6 undef) H') hl ⟨rfl, h0⟩ ?_
  rintro l1 H1 hl1 ⟨e1, hI⟩
  have hb := hr (l1.getD 5 undef) (l1.getD 6 undef) H1 hI
  rw [← e1] at hb
  refine wpE_mono _ l1 H1 hl1 ?_ (z36_s25_i _ R l1 H1 hl1 hb)
  intro e l2 H2 hl2 hq
  cases e with
  | normal => exact fun _ => (by obtain ⟨d1, g1, g2⟩ := hq; exact ⟨⟨d1.trans e1, g1⟩, g2⟩)
  | _ => exact hq
theorem z36_ok : okB z36_pi z36_c1 = true := by kernel_rfl
theorem z36_ev0 (x0 x1 : Value) (R : Value → Heap → Prop) (H : Heap) (h : sort_Search x0 x1 R H) : EvL P N.sort_Search #[x0, x1] H R :=
  EvF_intro (args := [x0, x1]) (k := 24) (rs := z36_rs) tab_ok mixed Try.func36 (show Try.f36.body = some z36_c1 by kernel_rfl) Try.call36 Try.ntmps36 (by kernel_rfl) (okCode_of _ z36_ok) rfl (z36_i R x0 x1 H h)
theorem z36_ev (x0 x1 : Value) (R : Value → Heap → Prop) (H : Heap) (h : sort_Search x0 x1 R H) : EvF P N.sort_Search #[x0, x1] H R := .inl (z36_ev0 x0 x1 R H h)
/- 37: (*sounder/span.Set).Add$1 -/
def z37_rs : List ResultVar := [.tmp 4]
noncomputable def z37_c2 : Code := subC (bodyC Try.f37) [0]
noncomputable def z37_c4 : Code := subC (bodyC Try.f37) [1, 0]
noncomputable def z37_c3 : Code := .seq z37_c4 Code.ret
noncomputable def z37_c1 : Code := .seq z37_c2 z37_c3
def z37_pi (i : Nat) : Pl := match i with
  | 1 => (ones [0, 1, 2, 3, 4, 5, 6, 7, 8, 9, 10, 11] .nil)
  | _ => .nil
def z37_g5 (S : Value → Value → Value → Heap → Prop) (x0 x1 x2 : Value) (H : Heap) : Prop :=
  S x0 x1 x2 H
theorem z37_g5_e (S : Value → Value → Value → Heap → Prop) (x : Nat → Value) (H : Heap) : wpE tab P z37_pi z37_c2 (nQ fun l H => S (l.getD 0 undef) (l.getD 1 undef) (l.getD 2 undef) H) ((List.range 16).map x) H = z37_g5 S (x 0) (x 1) (x 2) H := by kernel_rfl
def z37_g6 (S : Value → Heap → Prop) (x0 x1 x2 : Value) (H : Heap) : Prop :=
  bnd (ldE false 1 x1 H) fun v5 =>
  bnd (nilV v5) fun v6 =>
  bnd (faV 1 v6) fun v7 =>
  bnd (ldE false 1 v7 H) fun v8 =>
  bnd (ixSV 2 v8 x0) fun v10 =>
  bnd (faV 0 v10) fun v11 =>
  bnd (ldE false 1 v11 H) fun v12 =>
  bnd (ldE false 1 x2 H) fun v13 =>
  bnd (binV .int .add v13 (.int .i64 1)) fun v14 =>
  bnd (binV .int .gtr v12 v14) fun v15 =>
  S v15 H
theorem z37_g6_e (S : Value → Heap → Prop) (x : Nat → Value) (H : Heap) : wpE tab P z37_pi z37_c4 (nQ fun l H => S (l.getD 4 undef) H) ((List.range 16).map x) H = z37_g6 S (x 0) (x 1) (x 2) H := by kernel_rfl
def span_Set_Add_1 (x0 x1 x2 : Value) (R : Value → Heap → Prop) (H : Heap) : Prop :=
  z37_g5 (fun x0 x1 x2 H => z37_g6 (fun x4 H => R x4 H) x0 x1 x2 H) x0 x1 x2 H
theorem z37_i (R : Value → Heap → Prop) (x0 x1 x2 : Value) (H : Heap) (h : span_Set_Add_1 x0 x1 x2 R H) : wpE tab P z37_pi z37_c1 (retQ tab z37_rs R) [x0, x1, x2, undef, undef, undef, undef, undef, undef, undef, undef, undef, undef, undef, undef, undef] H := by
  obtain ⟨l, hl, el⟩ : ∃ l : List Value, l.length = 16 ∧ l = [x0, x1, x2, undef, undef, undef, undef, undef, undef, undef, undef, undef, undef, undef, undef, undef] := ⟨_, rfl, rfl⟩
  rw [← el]
  have h : (fun (x0 x1 x2 : Value) => z37_g5 (fun x0 x1 x2 H => z37_g6 (fun x4 H => R x4 H) x0 x1 x2 H) x0 x1 x2 H) (l.getD 0 undef) (l.getD 1 undef) (l.getD 2 undef) := by rw [el]; exact h
  clear el
  refine seqI (c := z37_c1) rfl ?_
  refine regI hl (Eq.mpr (z37_g5_e _ (fun i => l.getD i undef) _) h) ?_
  clear h hl
  intro l H hl h
  refine thenN ?_
  refine seqI (c := z37_c3) rfl ?_
  refine regI hl (Eq.mpr (z37_g6_e _ (fun i => l.getD i undef) _) h) ?_
  clear h hl
  intro l H hl h
  refine thenN ?_
  refine retI rfl ?_
  exact h
theorem z37_ok : okB z37_pi z37_c1 = true := by kernel_rfl
theorem z37_ev0 (x0 x1 x2 : Value) (R : Value → Heap → Prop) (H : Heap) (h : span_Set_Add_1 x0 x1 x2 R H) : EvL P N.span_Set_Add_1 #[x0, x1, x2] H R :=
  EvF_intro (args := [x0, x1, x2]) (k := 13) (rs := z37_rs) tab_ok mixed Try.func37 (show Try.f37.body = some z37_c1 by kernel_rfl) Try.call37 Try.ntmps37 (by kernel_rfl) (okCode_of _ z37_ok) rfl (z37_i R x0 x1 x2 H h)
theorem z37_ev (x0 x1 x2 : Value) (R : Value → Heap → Prop) (H : Heap) (h : span_Set_Add_1 x0 x1 x2 R H) : EvF P N.span_Set_Add_1 #[x0, x1, x2] H R := .inl (z37_ev0 x0 x1 x2 R H h)
end Go.Hc
