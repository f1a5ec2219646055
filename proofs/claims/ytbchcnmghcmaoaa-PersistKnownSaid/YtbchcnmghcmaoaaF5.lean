/- Functions, printed by gen.py. -/
import Derived.Test.YtbchcnmghcmaoaaT
set_option linter.unusedSimpArgs false
set_option linter.unusedVariables false
set_option maxRecDepth 100000
namespace Go.Hc
open Go Go.Proofs
/- 61: slices.Insert[[]sounder/api.Range,sounder/api.Range] -/
def z61_rs : List ResultVar := [.tmp 6]
noncomputable def z61_c2 : Code := subC (bodyC Try.f61) [0]
noncomputable def z61_c4 : Code := subC (bodyC Try.f61) [1, 0]
noncomputable def z61_c6 : Code := subC (bodyC Try.f61) [1, 1, 0]
noncomputable def z61_c9 : Code := subC (bodyC Try.f61) [1, 1, 1, 0, 0]
noncomputable def z61_c12 : Code := subC (bodyC Try.f61) [1, 1, 1, 0, 1, 0, 0]
noncomputable def z61_c11 : Code := .seq z61_c12 Code.ret
noncomputable def z61_c10 : Code := .cond (.tmp 16) z61_c11 Code.skip
noncomputable def z61_c8 : Code := .seq z61_c9 z61_c10
noncomputable def z61_c14 : Code := subC (bodyC Try.f61) [1, 1, 1, 1, 0]
noncomputable def z61_c17 : Code := subC (bodyC Try.f61) [1, 1, 1, 1, 1, 0, 0]
noncomputable def z61_c20 : Code := subC (bodyC Try.f61) [1, 1, 1, 1, 1, 0, 1, 0, 0]
noncomputable def z61_c19 : Code := .seq z61_c20 Code.ret
noncomputable def z61_c18 : Code := .cond (.tmp 22) z61_c19 Code.skip
noncomputable def z61_c16 : Code := .seq z61_c17 z61_c18
noncomputable def z61_c23 : Code := subC (bodyC Try.f61) [1, 1, 1, 1, 1, 1, 0, 0]
noncomputable def z61_c26 : Code := subC (bodyC Try.f61) [1, 1, 1, 1, 1, 1, 0, 1, 0, 0]
noncomputable def z61_c28 : Code := subC (bodyC Try.f61) [1, 1, 1, 1, 1, 1, 0, 1, 0, 1, 0]
noncomputable def z61_c30 : Code := subC (bodyC Try.f61) [1, 1, 1, 1, 1, 1, 0, 1, 0, 1, 1, 0]
noncomputable def z61_c32 : Code := subC (bodyC Try.f61) [1, 1, 1, 1, 1, 1, 0, 1, 0, 1, 1, 1, 0]
noncomputable def z61_c31 : Code := .seq z61_c32 Code.ret
noncomputable def z61_c29 : Code := .seq z61_c30 z61_c31
noncomputable def z61_c27 : Code := .seq z61_c28 z61_c29
noncomputable def z61_c25 : Code := .seq z61_c26 z61_c27
noncomputable def z61_c24 : Code := .cond (.tmp 31) z61_c25 Code.skip
noncomputable def z61_c22 : Code := .seq z61_c23 z61_c24
noncomputable def z61_c34 : Code := subC (bodyC Try.f61) [1, 1, 1, 1, 1, 1, 1, 0]
noncomputable def z61_c37 : Code := subC (bodyC Try.f61) [1, 1, 1, 1, 1, 1, 1, 1, 0, 0]
noncomputable def z61_c40 : Code := subC (bodyC Try.f61) [1, 1, 1, 1, 1, 1, 1, 1, 0, 1, 0, 0]
noncomputable def z61_c42 : Code := subC (bodyC Try.f61) [1, 1, 1, 1, 1, 1, 1, 1, 0, 1, 0, 1, 0]
noncomputable def z61_c44 : Code := subC (bodyC Try.f61) [1, 1, 1, 1, 1, 1, 1, 1, 0, 1, 0, 1, 1, 0]
noncomputable def z61_c43 : Code := .seq z61_c44 Code.ret
noncomputable def z61_c41 : Code := .seq z61_c42 z61_c43
noncomputable def z61_c39 : Code := .seq z61_c40 z61_c41
noncomputable def z61_c38 : Code := .cond (.tmp 68) z61_c39 Code.skip
noncomputable def z61_c36 : Code := .seq z61_c37 z61_c38
noncomputable def z61_c46 : Code := subC (bodyC Try.f61) [1, 1, 1, 1, 1, 1, 1, 1, 1, 0]
noncomputable def z61_c48 : Code := subC (bodyC Try.f61) [1, 1, 1, 1, 1, 1, 1, 1, 1, 1, 0]
noncomputable def z61_c50 : Code := subC (bodyC Try.f61) [1, 1, 1, 1, 1, 1, 1, 1, 1, 1, 1, 0]
noncomputable def z61_c49 : Code := .seq z61_c50 Code.ret
noncomputable def z61_c47 : Code := .seq z61_c48 z61_c49
noncomputable def z61_c45 : Code := .seq z61_c46 z61_c47
noncomputable def z61_c35 : Code := .seq z61_c36 z61_c45
noncomputable def z61_c33 : Code := .seq z61_c34 z61_c35
noncomputable def z61_c21 : Code := .seq z61_c22 z61_c33
noncomputable def z61_c15 : Code := .seq z61_c16 z61_c21
noncomputable def z61_c13 : Code := .seq z61_c14 z61_c15
noncomputable def z61_c7 : Code := .seq z61_c8 z61_c13
noncomputable def z61_c5 : Code := .seq z61_c6 z61_c7
noncomputable def z61_c3 : Code := .seq z61_c4 z61_c5
noncomputable def z61_c1 : Code := .seq z61_c2 z61_c3
def z61_pi (i : Nat) : Pl := match i with
  | 11 => (ones [0, 1, 2, 3, 4, 5, 6, 7, 8] .nil)
  | 15 => (ones [0, 1, 2, 3, 4, 5, 6, 7, 8] .nil)
  | _ => .nil
def z61_g51 (S : Value → Value → Value → Heap → Prop) (x0 x1 x2 : Value) (H : Heap) : Prop :=
  S x0 x1 x2 H
theorem z61_g51_e (S : Value → Value → Value → Heap → Prop) (x : Nat → Value) (H : Heap) : wpE tab P z61_pi z61_c2 (nQ fun l H => S (l.getD 0 undef) (l.getD 1 undef) (l.getD 2 undef) H) ((List.range 95).map x) H = z61_g51 S (x 0) (x 1) (x 2) H := by kernel_rfl
def z61_g52 (S : Value → Value → Value → Heap → Prop) (x0 x1 x2 : Value) (H : Heap) : Prop :=
  bnd (sliceV 2 x0 (some x1) none) fun _ =>
  S x0 x1 x2 H
theorem z61_g52_e (S : Value → Value → Value → Heap → Prop) (x : Nat → Value) (H : Heap) : wpE tab P z61_pi z61_c4 (nQ fun l H => S (l.getD 0 undef) (l.getD 1 undef) (l.getD 2 undef) H) ((List.range 95).map x) H = z61_g52 S (x 0) (x 1) (x 2) H := by kernel_rfl
def z61_g53 (S : Value → Value → Value → Value → Heap → Prop) (x0 x1 x2 : Value) (H : Heap) : Prop :=
  bnd (lenV x2) fun v14 =>
  S x0 x1 x2 v14 H
theorem z61_g53_e (S : Value → Value → Value → Value → Heap → Prop) (x : Nat → Value) (H : Heap) : wpE tab P z61_pi z61_c6 (nQ fun l H => S (l.getD 0 undef) (l.getD 1 undef) (l.getD 2 undef) (l.getD 7 undef) H) ((List.range 95).map x) H = z61_g53 S (x 0) (x 1) (x 2) H := by kernel_rfl
def z61_g54 (S : Value → Value → Value → Value → Value → Heap → Prop) (x0 x1 x2 x7 : Value) (H : Heap) : Prop :=
  bnd (binV .int .eql x7 (.int .i64 0)) fun v16 =>
  S x0 x1 x2 x7 v16 H
theorem z61_g54_e (S : Value → Value → Value → Value → Value → Heap → Prop) (x : Nat → Value) (H : Heap) : wpE tab P z61_pi z61_c9 (nQ fun l H => S (l.getD 0 undef) (l.getD 1 undef) (l.getD 2 undef) (l.getD 7 undef) (l.getD 16 undef) H) ((List.range 95).map x) H = z61_g54 S (x 0) (x 1) (x 2) (x 7) H := by kernel_rfl
def z61_g55 (S : Value → Heap → Prop) (x0 : Value) (H : Heap) : Prop :=
  S x0 H
theorem z61_g55_e (S : Value → Heap → Prop) (x : Nat → Value) (H : Heap) : wpE tab P z61_pi z61_c12 (nQ fun l H => S (l.getD 6 undef) H) ((List.range 95).map x) H = z61_g55 S (x 0) H := by kernel_rfl
def z61_g56 (S : Value → Value → Value → Value → Value → Heap → Prop) (x0 x1 x2 x7 : Value) (H : Heap) : Prop :=
  bnd (lenV x0) fun v19 =>
  S x0 x1 x2 x7 v19 H
theorem z61_g56_e (S : Value → Value → Value → Value → Value → Heap → Prop) (x : Nat → Value) (H : Heap) : wpE tab P z61_pi z61_c14 (nQ fun l H => S (l.getD 0 undef) (l.getD 1 undef) (l.getD 2 undef) (l.getD 7 undef) (l.getD 8 undef) H) ((List.range 95).map x) H = z61_g56 S (x 0) (x 1) (x 2) (x 7) H := by kernel_rfl
def z61_g57 (S : Value → Value → Value → Value → Value → Value → Heap → Prop) (x0 x1 x2 x7 x8 : Value) (H : Heap) : Prop :=
  bnd (binV .int .eql x1 x8) fun v22 =>
  S x0 x1 x2 x7 x8 v22 H
theorem z61_g57_e (S : Value → Value → Value → Value → Value → Value → Heap → Prop) (x : Nat → Value) (H : Heap) : wpE tab P z61_pi z61_c17 (nQ fun l H => S (l.getD 0 undef) (l.getD 1 undef) (l.getD 2 undef) (l.getD 7 undef) (l.getD 8 undef) (l.getD 22 undef) H) ((List.range 95).map x) H = z61_g57 S (x 0) (x 1) (x 2) (x 7) (x 8) H := by kernel_rfl
def z61_g58 (S : Value → Heap → Prop) (x0 x2 : Value) (H : Heap) : Prop :=
  appE 45 #[(.int .i64 0), (.int .i64 0)] 2 16 x0 x2 H fun v25 H1 =>
  S v25 H1
theorem z61_g58_e (S : Value → Heap → Prop) (x : Nat → Value) (H : Heap) : wpE tab P z61_pi z61_c20 (nQ fun l H => S (l.getD 6 undef) H) ((List.range 95).map x) H = z61_g58 S (x 0) (x 2) H := by kernel_rfl
def z61_g59 (S : Value → Value → Value → Value → Value → Value → Heap → Prop) (x0 x1 x2 x7 x8 : Value) (H : Heap) : Prop :=
  bnd (binV .int .add x8 x7) fun v28 =>
  bnd (capV x0) fun v30 =>
  bnd (binV .int .gtr v28 v30) fun v31 =>
  S x0 x1 x2 x7 x8 v31 H
theorem z61_g59_e (S : Value → Value → Value → Value → Value → Value → Heap → Prop) (x : Nat → Value) (H : Heap) : wpE tab P z61_pi z61_c23 (nQ fun l H => S (l.getD 0 undef) (l.getD 1 undef) (l.getD 2 undef) (l.getD 7 undef) (l.getD 8 undef) (l.getD 31 undef) H) ((List.range 95).map x) H = z61_g59 S (x 0) (x 1) (x 2) (x 7) (x 8) H := by kernel_rfl
def z61_g60 (S : Value → Value → Value → Value → Value → Heap → Prop) (x0 x1 x2 x7 x8 : Value) (H : Heap) : Prop :=
  bnd (sliceV 2 x0 none (some x1)) fun v34 =>
  bnd (binV .int .add x8 x7) fun v37 =>
  bnd (binV .int .sub v37 x1) fun v39 =>
  appZE 45 #[(.int .i64 0), (.int .i64 0)] 2 16 v34 v39 H fun v40 H1 =>
  S x0 x1 x2 x7 v40 H1
theorem z61_g60_e (S : Value → Value → Value → Value → Value → Heap → Prop) (x : Nat → Value) (H : Heap) : wpE tab P z61_pi z61_c26 (nQ fun l H => S (l.getD 0 undef) (l.getD 1 undef) (l.getD 2 undef) (l.getD 7 undef) (l.getD 9 undef) H) ((List.range 95).map x) H = z61_g60 S (x 0) (x 1) (x 2) (x 7) (x 8) H := by kernel_rfl
def z61_g61 (S : Value → Value → Value → Value → Heap → Prop) (x0 x1 x2 x7 x9 : Value) (H : Heap) : Prop :=
  bnd (sliceV 2 x9 (some x1) none) fun v43 =>
  cpyE 2 v43 x2 H fun _ H1 =>
  S x0 x1 x7 x9 H1
theorem z61_g61_e (S : Value → Value → Value → Value → Heap → Prop) (x : Nat → Value) (H : Heap) : wpE tab P z61_pi z61_c28 (nQ fun l H => S (l.getD 0 undef) (l.getD 1 undef) (l.getD 7 undef) (l.getD 9 undef) H) ((List.range 95).map x) H = z61_g61 S (x 0) (x 1) (x 2) (x 7) (x 9) H := by kernel_rfl
def z61_g62 (S : Value → Heap → Prop) (x0 x1 x7 x9 : Value) (H : Heap) : Prop :=
  bnd (binV .int .add x1 x7) fun v49 =>
  bnd (sliceV 2 x9 (some v49) none) fun v50 =>
  bnd (sliceV 2 x0 (some x1) none) fun v53 =>
  cpyE 2 v50 v53 H fun _ H1 =>
  S x9 H1
theorem z61_g62_e (S : Value → Heap → Prop) (x : Nat → Value) (H : Heap) : wpE tab P z61_pi z61_c30 (nQ fun l H => S (l.getD 9 undef) H) ((List.range 95).map x) H = z61_g62 S (x 0) (x 1) (x 7) (x 9) H := by kernel_rfl
def z61_g63 (S : Value → Heap → Prop) (x9 : Value) (H : Heap) : Prop :=
  S x9 H
theorem z61_g63_e (S : Value → Heap → Prop) (x : Nat → Value) (H : Heap) : wpE tab P z61_pi z61_c32 (nQ fun l H => S (l.getD 6 undef) H) ((List.range 95).map x) H = z61_g63 S (x 9) H := by kernel_rfl
def z61_g64 (S : Value → Value → Value → Value → Value → Heap → Prop) (x0 x1 x2 x7 x8 : Value) (H : Heap) : Prop :=
  bnd (binV .int .add x8 x7) fun v59 =>
  bnd (sliceV 2 x0 none (some v59)) fun v60 =>
  S v60 x1 x2 x7 x8 H
theorem z61_g64_e (S : Value → Value → Value → Value → Value → Heap → Prop) (x : Nat → Value) (H : Heap) : wpE tab P z61_pi z61_c34 (nQ fun l H => S (l.getD 0 undef) (l.getD 1 undef) (l.getD 2 undef) (l.getD 7 undef) (l.getD 8 undef) H) ((List.range 95).map x) H = z61_g64 S (x 0) (x 1) (x 2) (x 7) (x 8) H := by kernel_rfl
def z61_g65 (S : Value → Value → Value → Value → Value → Value → Heap → Prop) (x0 x1 x2 x7 x8 : Value) (H : Heap) : Prop :=
  bnd (binV .int .add x1 x7) fun v65 =>
  bnd (sliceV 2 x0 (some v65) none) fun v66 =>
  EvF P N.slices_overlaps_Range #[x2, v66] H fun v67 H1 =>
  bnd (unV .not v67) fun v68 =>
  S x0 x1 x2 x7 x8 v68 H1
theorem z61_g65_e (S : Value → Value → Value → Value → Value → Value → Heap → Prop) (x : Nat → Value) (H : Heap) : wpE tab P z61_pi z61_c37 (nQ fun l H => S (l.getD 0 undef) (l.getD 1 undef) (l.getD 2 undef) (l.getD 7 undef) (l.getD 8 undef) (l.getD 68 undef) H) ((List.range 95).map x) H = z61_g65 S (x 0) (x 1) (x 2) (x 7) (x 8) H := by kernel_rfl
def z61_g66 (S : Value → Value → Value → Heap → Prop) (x0 x1 x2 x7 : Value) (H : Heap) : Prop :=
  bnd (binV .int .add x1 x7) fun v72 =>
  bnd (sliceV 2 x0 (some v72) none) fun v73 =>
  bnd (sliceV 2 x0 (some x1) none) fun v76 =>
  cpyE 2 v73 v76 H fun _ H1 =>
  S x0 x1 x2 H1
theorem z61_g66_e (S : Value → Value → Value → Heap → Prop) (x : Nat → Value) (H : Heap) : wpE tab P z61_pi z61_c40 (nQ fun l H => S (l.getD 0 undef) (l.getD 1 undef) (l.getD 2 undef) H) ((List.range 95).map x) H = z61_g66 S (x 0) (x 1) (x 2) (x 7) H := by kernel_rfl
def z61_g67 (S : Value → Heap → Prop) (x0 x1 x2 : Value) (H : Heap) : Prop :=
  bnd (sliceV 2 x0 (some x1) none) fun v80 =>
  cpyE 2 v80 x2 H fun _ H1 =>
  S x0 H1
theorem z61_g67_e (S : Value → Heap → Prop) (x : Nat → Value) (H : Heap) : wpE tab P z61_pi z61_c42 (nQ fun l H => S (l.getD 0 undef) H) ((List.range 95).map x) H = z61_g67 S (x 0) (x 1) (x 2) H := by kernel_rfl
def z61_g68 (S : Value → Heap → Prop) (x0 : Value) (H : Heap) : Prop :=
  S x0 H
theorem z61_g68_e (S : Value → Heap → Prop) (x : Nat → Value) (H : Heap) : wpE tab P z61_pi z61_c44 (nQ fun l H => S (l.getD 6 undef) H) ((List.range 95).map x) H = z61_g68 S (x 0) H := by kernel_rfl
def z61_g69 (S : Value → Value → Value → Heap → Prop) (x0 x1 x2 x7 x8 : Value) (H : Heap) : Prop :=
  bnd (sliceV 2 x0 (some x8) none) fun v86 =>
  cpyE 2 v86 x2 H fun _ H1 =>
  S x0 x1 x7 H1
theorem z61_g69_e (S : Value → Value → Value → Heap → Prop) (x : Nat → Value) (H : Heap) : wpE tab P z61_pi z61_c46 (nQ fun l H => S (l.getD 0 undef) (l.getD 1 undef) (l.getD 7 undef) H) ((List.range 95).map x) H = z61_g69 S (x 0) (x 1) (x 2) (x 7) (x 8) H := by kernel_rfl
def z61_g70 (S : Value → Heap → Prop) (x0 x1 x7 : Value) (H : Heap) : Prop :=
  bnd (sliceV 2 x0 (some x1) none) fun v91 =>
  EvF P N.slices_rotateRight_Range #[v91, x7] H fun _ H1 =>
  S x0 H1
theorem z61_g70_e (S : Value → Heap → Prop) (x : Nat → Value) (H : Heap) : wpE tab P z61_pi z61_c48 (nQ fun l H => S (l.getD 0 undef) H) ((List.range 95).map x) H = z61_g70 S (x 0) (x 1) (x 7) H := by kernel_rfl
def z61_g71 (S : Value → Heap → Prop) (x0 : Value) (H : Heap) : Prop :=
  S x0 H
theorem z61_g71_e (S : Value → Heap → Prop) (x : Nat → Value) (H : Heap) : wpE tab P z61_pi z61_c50 (nQ fun l H => S (l.getD 6 undef) H) ((List.range 95).map x) H = z61_g71 S (x 0) H := by kernel_rfl
def slices_Insert_Range (x0 x1 x2 : Value) (R : Value → Heap → Prop) (H : Heap) : Prop :=
  z61_g51 (fun x0 x1 x2 H => z61_g52 (fun x0 x1 x2 H => z61_g53 (fun x0 x1 x2 x7 H => z61_g54 (fun x0 x1 x2 x7 x16 H => brV x16
  (z61_g55 (fun x6 H => R x6 H) x0 H)
  (z61_g56 (fun x0 x1 x2 x7 x8 H => z61_g57 (fun x0 x1 x2 x7 x8 x22 H => brV x22
  (z61_g58 (fun x6 H => R x6 H) x0 x2 H)
  (z61_g59 (fun x0 x1 x2 x7 x8 x31 H => brV x31
  (z61_g60 (fun x0 x1 x2 x7 x9 H => z61_g61 (fun x0 x1 x7 x9 H => z61_g62 (fun x9 H => z61_g63 (fun x6 H => R x6 H) x9 H) x0 x1 x7 x9 H) x0 x1 x2 x7 x9 H) x0 x1 x2 x7 x8 H)
  (z61_g64 (fun x0 x1 x2 x7 x8 H => z61_g65 (fun x0 x1 x2 x7 x8 x68 H => brV x68
  (z61_g66 (fun x0 x1 x2 H => z61_g67 (fun x0 H => z61_g68 (fun x6 H => R x6 H) x0 H) x0 x1 x2 H) x0 x1 x2 x7 H)
  (z61_g69 (fun x0 x1 x7 H => z61_g70 (fun x0 H => z61_g71 (fun x6 H => R x6 H) x0 H) x0 x1 x7 H) x0 x1 x2 x7 x8 H)) x0 x1 x2 x7 x8 H) x0 x1 x2 x7 x8 H)) x0 x1 x2 x7 x8 H)) x0 x1 x2 x7 x8 H) x0 x1 x2 x7 H)) x0 x1 x2 x7 H) x0 x1 x2 H) x0 x1 x2 H) x0 x1 x2 H
theorem z61_i (R : Value → Heap → Prop) (x0 x1 x2 : Value) (H : Heap) (h : slices_Insert_Range x0 x1 x2 R H) : wpE tab P z61_pi z61_c1 (retQ tab z61_rs R) [x0, x1, x2, undef, undef, undef, undef, undef, undef, undef, undef, undef, undef, undef, undef, undef, undef, undef, undef, undef, undef, undef, undef, undef, undef, undef, undef, undef, undef, undef, undef, undef, undef, undef, undef, undef, undef, undef, undef, undef, undef, undef, undef, undef, undef, undef, undef, undef, undef, undef, undef, undef, undef, undef, undef, undef, undef, undef, undef, undef, undef, undef, undef, undef, undef, undef, undef, undef, undef, undef, undef, undef, undef, undef, undef, undef, undef, undef, undef, undef, undef, undef, undef, undef, undef, undef, undef, undef, undef, undef, undef, undef, undef, undef, undef] H := by
  obtain ⟨l, hl, el⟩ : ∃ l : List Value, l.length = 95 ∧ l = [x0, x1, x2, undef, undef, undef, undef, undef, undef, undef, undef, undef, undef, undef, undef, undef, undef, undef, undef, undef, undef, undef, undef, undef, undef, undef, undef, undef, undef, undef, undef, undef, undef, undef, undef, undef, undef, undef, undef, undef, undef, undef, undef, undef, undef, undef, undef, undef, undef, undef, undef, undef, undef, undef, undef, undef, undef, undef, undef, undef, undef, undef, undef, undef, undef, undef, undef, undef, undef, undef, undef, undef, undef, undef, undef, undef, undef, undef, undef, undef, undef, undef, undef, undef, undef, undef, undef, undef, undef, undef, undef, undef, undef, undef, undef] := ⟨_, rfl, rfl⟩
  rw [← el]
  have h : (fun (x0 x1 x2 : Value) => z61_g51 (fun x0 x1 x2 H => z61_g52 (fun x0 x1 x2 H => z61_g53 (fun x0 x1 x2 x7 H => z61_g54 (fun x0 x1 x2 x7 x16 H => brV x16
(z61_g55 (fun x6 H => R x6 H) x0 H)
(z61_g56 (fun x0 x1 x2 x7 x8 H => z61_g57 (fun x0 x1 x2 x7 x8 x22 H => brV x22
(z61_g58 (fun x6 H => R x6 H) x0 x2 H)
(z61_g59 (fun x0 x1 x2 x7 x8 x31 H => brV x31
(z61_g60 (fun x0 x1 x2 x7 x9 H => z61_g61 (fun x0 x1 x7 x9 H => z61_g62 (fun x9 H => z61_g63 (fun x6 H => R x6 H) x9 H) x0 x1 x7 x9 H) x0 x1 x2 x7 x9 H) x0 x1 x2 x7 x8 H)
(z61_g64 (fun x0 x1 x2 x7 x8 H => z61_g65 (fun x0 x1 x2 x7 x8 x68 H => brV x68
(z61_g66 (fun x0 x1 x2 H => z61_g67 (fun x0 H => z61_g68 (fun x6 H => R x6 H) x0 H) x0 x1 x2 H) x0 x1 x2 x7 H)
(z61_g69 (fun x0 x1 x7 H => z61_g70 (fun x0 H => z61_g71 (fun x6 H => R x6 H) x0 H) x0 x1 x7 H) x0 x1 x2 x7 x8 H)) x0 x1 x2 x7 x8 H) x0 x1 x2 x7 x8 H)) x0 x1 x2 x7 x8 H)) x0 x1 x2 x7 x8 H) x0 x1 x2 x7 H)) x0 x1 x2 x7 H) x0 x1 x2 H) x0 x1 x2 H) x0 x1 x2 H) (l.getD 0 undef) (l.getD 1 undef) (l.getD 2 undef) := by rw [el]; exact h
  clear el
  refine seqI (c := z61_c1) rfl ?_
  refine regI hl (Eq.mpr (z61_g51_e _ (fun i => l.getD i undef) _) h) ?_
  clear h hl
  intro l H hl h
  refine thenN ?_
  refine seqI (c := z61_c3) rfl ?_
  refine regI hl (Eq.mpr (z61_g52_e _ (fun i => l.getD i undef) _) h) ?_
  clear h hl
  intro l H hl h
  refine thenN ?_
  refine seqI (c := z61_c5) rfl ?_
  refine regI hl (Eq.mpr (z61_g53_e _ (fun i => l.getD i undef) _) h) ?_
  clear h hl
  intro l H hl h
  refine thenN ?_
  refine seqI (c := z61_c7) rfl ?_
  refine seqI (c := z61_c8) rfl ?_
  refine regI hl (Eq.mpr (z61_g54_e _ (fun i => l.getD i undef) _) h) ?_
  clear h hl
  intro l H hl h
  refine thenN ?_
  refine condI (c := z61_c10) rfl h ?_ ?_
  · clear h; intro h
    refine seqI (c := z61_c11) rfl ?_
    refine regI hl (Eq.mpr (z61_g55_e _ (fun i => l.getD i undef) _) h) ?_
    clear h hl
    intro l H hl h
    refine thenN ?_
    refine retI rfl ?_
    refine thenR ?_
    exact h
  · clear h; intro h
    refine skipI rfl ?_
    refine thenN ?_
    refine seqI (c := z61_c13) rfl ?_
    refine regI hl (Eq.mpr (z61_g56_e _ (fun i => l.getD i undef) _) h) ?_
    clear h hl
    intro l H hl h
    refine thenN ?_
    refine seqI (c := z61_c15) rfl ?_
    refine seqI (c := z61_c16) rfl ?_
    refine regI hl (Eq.mpr (z61_g57_e _ (fun i => l.getD i undef) _) h) ?_
    clear h hl
    intro l H hl h
    refine thenN ?_
    refine condI (c := z61_c18) rfl h ?_ ?_
    · clear h; intro h
      refine seqI (c := z61_c19) rfl ?_
      refine regI hl (Eq.mpr (z61_g58_e _ (fun i => l.getD i undef) _) h) ?_
      clear h hl
      intro l H hl h
      refine thenN ?_
      refine retI rfl ?_
      refine thenR ?_
      exact h
    · clear h; intro h
      refine skipI rfl ?_
      refine thenN ?_
      refine seqI (c := z61_c21) rfl ?_
      refine seqI (c := z61_c22) rfl ?_
      refine regI hl (Eq.mpr (z61_g59_e _ (fun i => l.getD i undef) _) h) ?_
      clear h hl
      intro l H hl h
      refine thenN ?_
      refine condI (c := z61_c24) rfl h ?_ ?_
      · clear h; intro h
        refine seqI (c := z61_c25) rfl ?_
        refine regI hl (Eq.mpr (z61_g60_e _ (fun i => l.getD i undef) _) h) ?_
        clear h hl
        intro l H hl h
        refine thenN ?_
        refine seqI (c := z61_c27) rfl ?_
        refine regI hl (Eq.mpr (z61_g61_e _ (fun i => l.getD i undef) _) h) ?_
        clear h hl
        intro l H hl h
        refine thenN ?_
        refine seqI (c := z61_c29) rfl ?_
        refine regI hl (Eq.mpr (z61_g62_e _ (fun i => l.getD i undef) _) h) ?_
        clear h hl
        intro l H hl h
        refine thenN ?_
        refine seqI (c := z61_c31) rfl ?_
        refine regI hl (Eq.mpr (z61_g63_e _ (fun i => l.getD i undef) _) h) ?_
        clear h hl
        intro l H hl h
        refine thenN ?_
        refine retI rfl ?_
        refine thenR ?_
        exact h
      · clear h; intro h
        refine skipI rfl ?_
        refine thenN ?_
        refine seqI (c := z61_c33) rfl ?_
        refine regI hl (Eq.mpr (z61_g64_e _ (fun i => l.getD i undef) _) h) ?_
        clear h hl
        intro l H hl h
        refine thenN ?_
        refine seqI (c := z61_c35) rfl ?_
        refine seqI (c := z61_c36) rfl ?_
        refine regI hl (Eq.mpr (z61_g65_e _ (fun i => l.getD i undef) _) h) ?_
        clear h hl
        intro l H hl h
        refine thenN ?_
        refine condI (c := z61_c38) rfl h ?_ ?_
        · clear h; intro h
          refine seqI (c := z61_c39) rfl ?_
          refine regI hl (Eq.mpr (z61_g66_e _ (fun i => l.getD i undef) _) h) ?_
          clear h hl
          intro l H hl h
          refine thenN ?_
          refine seqI (c := z61_c41) rfl ?_
          refine regI hl (Eq.mpr (z61_g67_e _ (fun i => l.getD i undef) _) h) ?_
          clear h hl
          intro l H hl h
          refine thenN ?_
          refine seqI (c := z61_c43) rfl ?_
          refine regI hl (Eq.mpr (z61_g68_e _ (fun i => l.getD i undef) _) h) ?_
          clear h hl
          intro l H hl h
          refine thenN ?_
          refine retI rfl ?_
          refine thenR ?_
          exact h
        · clear h; intro h
          refine skipI rfl ?_
          refine thenN ?_
          refine seqI (c := z61_c45) rfl ?_
          refine regI hl (Eq.mpr (z61_g69_e _ (fun i => l.getD i undef) _) h) ?_
          clear h hl
          intro l H hl h
          refine thenN ?_
          refine seqI (c := z61_c47) rfl ?_
          refine regI hl (Eq.mpr (z61_g70_e _ (fun i => l.getD i undef) _) h) ?_
          clear h hl
          intro l H hl h
          refine thenN ?_
          refine seqI (c := z61_c49) rfl ?_
          refine regI hl (Eq.mpr (z61_g71_e _ (fun i => l.getD i undef) _) h) ?_
          clear h hl
          intro l H hl h
          refine thenN ?_
          refine retI rfl ?_
          exact h
theorem z61_ok : okB z61_pi z61_c1 = true := by kernel_rfl
theorem z61_ev0 (x0 x1 x2 : Value) (R : Value → Heap → Prop) (H : Heap) (h : slices_Insert_Range x0 x1 x2 R H) : EvL P N.slices_Insert_Range #[x0, x1, x2] H R :=
  EvF_intro (args := [x0, x1, x2]) (k := 92) (rs := z61_rs) tab_ok mixed Try.func61 (show Try.f61.body = some z61_c1 by kernel_rfl) Try.call61 Try.ntmps61 (by kernel_rfl) (okCode_of _ z61_ok) rfl (z61_i R x0 x1 x2 H h)
theorem z61_ev (x0 x1 x2 : Value) (R : Value → Heap → Prop) (H : Heap) (h : slices_Insert_Range x0 x1 x2 R H) : EvF P N.slices_Insert_Range #[x0, x1, x2] H R := .inl (z61_ev0 x0 x1 x2 R H h)
/- 63: slices.rotateRight[sounder/api.Range] -/
def z63_rs : List ResultVar := []
noncomputable def z63_c1 : Code := subC (bodyC Try.f63) []
def z63_pi (_ : Nat) : Pl := .nil
def z63_g2 (S : Heap → Prop) (x0 x1 : Value) (H : Heap) : Prop :=
  bnd (lenV x0) fun v6 =>
  bnd (binV .int .sub v6 x1) fun v8 =>
  EvF P N.slices_rotateLeft_Range #[x0, v8] H fun _ H1 =>
  S H1
theorem z63_g2_e (S : Heap → Prop) (x : Nat → Value) (H : Heap) : wpE tab P z63_pi z63_c1 (nQ fun _ H => S  H) ((List.range 10).map x) H = z63_g2 S (x 0) (x 1) H := by kernel_rfl
def slices_rotateRight_Range (x0 x1 : Value) (R : Value → Heap → Prop) (H : Heap) : Prop :=
  z63_g2 (fun H => R (.tuple #[]) H) x0 x1 H
theorem z63_i (R : Value → Heap → Prop) (x0 x1 : Value) (H : Heap) (h : slices_rotateRight_Range x0 x1 R H) : wpE tab P z63_pi z63_c1 (retQ tab z63_rs R) [x0, x1, undef, undef, undef, undef, undef, undef, undef, undef] H := by
  obtain ⟨l, hl, el⟩ : ∃ l : List Value, l.length = 10 ∧ l = [x0, x1, undef, undef, undef, undef, undef, undef, undef, undef] := ⟨_, rfl, rfl⟩
  rw [← el]
  have h : (fun (x0 x1 : Value) => z63_g2 (fun H => R (.tuple #[]) H) x0 x1 H) (l.getD 0 undef) (l.getD 1 undef) := by rw [el]; exact h
  clear el
  refine regI hl (Eq.mpr (z63_g2_e _ (fun i => l.getD i undef) _) h) ?_
  clear h hl
  intro l H hl h
  exact h
theorem z63_ok : okB z63_pi z63_c1 = true := by kernel_rfl
theorem z63_ev0 (x0 x1 : Value) (R : Value → Heap → Prop) (H : Heap) (h : slices_rotateRight_Range x0 x1 R H) : EvL P N.slices_rotateRight_Range #[x0, x1] H R :=
  EvF_intro (args := [x0, x1]) (k := 8) (rs := z63_rs) tab_ok mixed Try.func63 (show Try.f63.body = some z63_c1 by kernel_rfl) Try.call63 Try.ntmps63 (by kernel_rfl) (okCode_of _ z63_ok) rfl (z63_i R x0 x1 H h)
theorem z63_ev (x0 x1 : Value) (R : Value → Heap → Prop) (H : Heap) (h : slices_rotateRight_Range x0 x1 R H) : EvF P N.slices_rotateRight_Range #[x0, x1] H R := .inl (z63_ev0 x0 x1 R H h)
/- 65: slices.IndexFunc[[]sounder/api.Packet,sounder/api.Packet] -/
def z65_rs : List ResultVar := [.tmp 4]
noncomputable def z65_c2 : Code := subC (bodyC Try.f65) [0]
noncomputable def z65_c5 : Code := subC (bodyC Try.f65) [1, 0, 0]
noncomputable def z65_c9 : Code := subC (bodyC Try.f65) [1, 0, 1, 0, 0, 0]
noncomputable def z65_c12 : Code := .exit 0
noncomputable def z65_c11 : Code := .cond (.tmp 9) Code.skip z65_c12
noncomputable def z65_c16 : Code := subC (bodyC Try.f65) [1, 0, 1, 0, 0, 1, 1, 0, 0, 0]
noncomputable def z65_c18 : Code := subC (bodyC Try.f65) [1, 0, 1, 0, 0, 1, 1, 0, 0, 1, 0]
noncomputable def z65_c21 : Code := subC (bodyC Try.f65) [1, 0, 1, 0, 0, 1, 1, 0, 0, 1, 1, 0, 0]
noncomputable def z65_c20 : Code := .seq z65_c21 Code.ret
noncomputable def z65_c19 : Code := .cond (.tmp 16) z65_c20 Code.skip
noncomputable def z65_c17 : Code := .seq z65_c18 z65_c19
noncomputable def z65_c15 : Code := .seq z65_c16 z65_c17
noncomputable def z65_c14 : Code := .block 1 z65_c15
noncomputable def z65_c22 : Code := subC (bodyC Try.f65) [1, 0, 1, 0, 0, 1, 1, 1]
noncomputable def z65_c13 : Code := .seq z65_c14 z65_c22
noncomputable def z65_c10 : Code := .seq z65_c11 z65_c13
noncomputable def z65_c8 : Code := .seq z65_c9 z65_c10
noncomputable def z65_c7 : Code := .loop z65_c8
noncomputable def z65_c6 : Code := .block 0 z65_c7
noncomputable def z65_c4 : Code := .seq z65_c5 z65_c6
noncomputable def z65_c24 : Code := subC (bodyC Try.f65) [1, 1, 0]
noncomputable def z65_c23 : Code := .seq z65_c24 Code.ret
noncomputable def z65_c3 : Code := .seq z65_c4 z65_c23
noncomputable def z65_c1 : Code := .seq z65_c2 z65_c3
def z65_pi (_ : Nat) : Pl := .nil
def z65_g25 (S : Value → Value → Heap → Prop) (x0 x1 : Value) (H : Heap) : Prop :=
  S x0 x1 H
theorem z65_g25_e (S : Value → Value → Heap → Prop) (x : Nat → Value) (H : Heap) : wpE tab P z65_pi z65_c2 (nQ fun l H => S (l.getD 0 undef) (l.getD 1 undef) H) ((List.range 19).map x) H = z65_g25 S (x 0) (x 1) H := by kernel_rfl
def z65_g26 (S : Value → Value → Value → Value → Heap → Prop) (x0 x1 : Value) (H : Heap) : Prop :=
  bnd (lenV x0) fun v7 =>
  S x0 x1 v7 (.int .i64 0) H
theorem z65_g26_e (S : Value → Value → Value → Value → Heap → Prop) (x : Nat → Value) (H : Heap) : wpE tab P z65_pi z65_c5 (nQ fun l H => S (l.getD 0 undef) (l.getD 1 undef) (l.getD 7 undef) (l.getD 8 undef) H) ((List.range 19).map x) H = z65_g26 S (x 0) (x 1) H := by kernel_rfl
def z65_g28 (S : Value → Value → Value → Value → Value → Heap → Prop) (x0 x1 x7 x8 : Value) (H : Heap) : Prop :=
  bnd (binV .int .lss x8 x7) fun v9 =>
  S x0 x1 x7 x8 v9 H
theorem z65_g28_e (S : Value → Value → Value → Value → Value → Heap → Prop) (x : Nat → Value) (H : Heap) : wpE tab P z65_pi z65_c9 (nQ fun l H => S (l.getD 0 undef) (l.getD 1 undef) (l.getD 7 undef) (l.getD 8 undef) (l.getD 9 undef) H) ((List.range 19).map x) H = z65_g28 S (x 0) (x 1) (x 7) (x 8) H := by kernel_rfl
def z65_g29 (S : Value → Value → Value → Value → Value → Heap → Prop) (x0 x1 x7 x8 : Value) (H : Heap) : Prop :=
  S x0 x1 x8 x7 x8 H
theorem z65_g29_e (S : Value → Value → Value → Value → Value → Heap → Prop) (x : Nat → Value) (H : Heap) : wpE tab P z65_pi z65_c16 (nQ fun l H => S (l.getD 0 undef) (l.getD 1 undef) (l.getD 5 undef) (l.getD 7 undef) (l.getD 8 undef) H) ((List.range 19).map x) H = z65_g29 S (x 0) (x 1) (x 7) (x 8) H := by kernel_rfl
def z65_g30 (S : Value → Value → Value → Value → Value → Value → Heap → Prop) (x0 x1 x5 x7 x8 : Value) (H : Heap) : Prop :=
  bnd (ixSV 6 x0 x5) fun v14 =>
  bnd (ldE true 6 v14 H) fun v15 =>
  callV P x1 [v15] H fun v16 H1 =>
  S x0 x1 x5 x7 x8 v16 H1
theorem z65_g30_e (S : Value → Value → Value → Value → Value → Value → Heap → Prop) (x : Nat → Value) (H : Heap) : wpE tab P z65_pi z65_c18 (nQ fun l H => S (l.getD 0 undef) (l.getD 1 undef) (l.getD 5 undef) (l.getD 7 undef) (l.getD 8 undef) (l.getD 16 undef) H) ((List.range 19).map x) H = z65_g30 S (x 0) (x 1) (x 5) (x 7) (x 8) H := by kernel_rfl
def z65_g31 (S : Value → Heap → Prop) (x5 : Value) (H : Heap) : Prop :=
  S x5 H
theorem z65_g31_e (S : Value → Heap → Prop) (x : Nat → Value) (H : Heap) : wpE tab P z65_pi z65_c21 (nQ fun l H => S (l.getD 4 undef) H) ((List.range 19).map x) H = z65_g31 S (x 5) H := by kernel_rfl
def z65_g32 (S : Value → Value → Value → Value → Heap → Prop) (x0 x1 x7 x8 : Value) (H : Heap) : Prop :=
  bnd (binV .int .add x8 (.int .i64 1)) fun v18 =>
  S x0 x1 x7 v18 H
theorem z65_g32_e (S : Value → Value → Value → Value → Heap → Prop) (x : Nat → Value) (H : Heap) : wpE tab P z65_pi z65_c22 (nQ fun l H => S (l.getD 0 undef) (l.getD 1 undef) (l.getD 7 undef) (l.getD 8 undef) H) ((List.range 19).map x) H = z65_g32 S (x 0) (x 1) (x 7) (x 8) H := by kernel_rfl
def z65_g33 (S : Value → Heap → Prop) (H : Heap) : Prop :=
  S (.int .i64 (-1)) H
theorem z65_g33_e (S : Value → Heap → Prop) (x : Nat → Value) (H : Heap) : wpE tab P z65_pi z65_c24 (nQ fun l H => S (l.getD 4 undef) H) ((List.range 19).map x) H = z65_g33 S  H := by kernel_rfl
def z65_s27 (x0 x1 x7 x8 : Value) (K1 : Value → Value → Value → Value →  Heap → Prop) (R : Value → Heap → Prop) (H : Heap) : Prop :=
  z65_g28 (fun x0 x1 x7 x8 x9 H => brV x9
  (z65_g29 (fun x0 x1 x5 x7 x8 H => z65_g30 (fun x0 x1 x5 x7 x8 x16 H => brV x16
  (z65_g31 (fun x4 H => R x4 H) x5 H)
  (z65_g32 (fun x0 x1 x7 x8 H => K1 x0 x1 x7 x8 H) x0 x1 x7 x8 H)) x0 x1 x5 x7 x8 H) x0 x1 x7 x8 H)
  (z65_g33 (fun x4 H => R x4 H) H)) x0 x1 x7 x8 H
noncomputable def z65_q34 (R : Value → Heap → Prop) : Exit → List Value → Heap → Prop := (retQ tab z65_rs R)
noncomputable def z65_q35 (R : Value → Heap → Prop) : Exit → List Value → Heap → Prop := (thenE (fun l H => wpE tab P z65_pi z65_c23 (z65_q34 R) l H) (z65_q34 R))
noncomputable def z65_q36 (R : Value → Heap → Prop) : Exit → List Value → Heap → Prop := (blkE 0 (z65_q35 R))
noncomputable def z65_q37 (K1 : Value → Value → Value → Value →  Heap → Prop) (R : Value → Heap → Prop) : Exit → List Value → Heap → Prop := (thenE (fun l H => K1 (l.getD 0 undef) (l.getD 1 undef) (l.getD 7 undef) (l.getD 8 undef) H) (z65_q36 R))
theorem z65_s27_i (K1 : Value → Value → Value → Value →  Heap → Prop) (R : Value → Heap → Prop) (l : List Value) (H : Heap) (hl : l.length = 19) (h : z65_s27 (l.getD 0 undef) (l.getD 1 undef) (l.getD 7 undef) (l.getD 8 undef) K1 R H) : wpE tab P z65_pi z65_c8 (z65_q37 K1 R) l H := by
  refine seqI (c := z65_c8) rfl ?_
  refine regI hl (Eq.mpr (z65_g28_e _ (fun i => l.getD i undef) _) h) ?_
  clear h hl
  intro l H hl h
  refine thenN ?_
  refine seqI (c := z65_c10) rfl ?_
  refine condI (c := z65_c11) rfl h ?_ ?_
  · clear h; intro h
    refine skipI rfl ?_
    refine thenN ?_
    refine seqI (c := z65_c13) rfl ?_
    refine blockI (c := z65_c14) rfl ?_
    refine seqI (c := z65_c15) rfl ?_
    refine regI hl (Eq.mpr (z65_g29_e _ (fun i => l.getD i undef) _) h) ?_
    clear h hl
    intro l H hl h
    refine thenN ?_
    refine seqI (c := z65_c17) rfl ?_
    refine regI hl (Eq.mpr (z65_g30_e _ (fun i => l.getD i undef) _) h) ?_
    clear h hl
    intro l H hl h
    refine thenN ?_
    refine condI (c := z65_c19) rfl h ?_ ?_
    · clear h; intro h
      refine seqI (c := z65_c20) rfl ?_
      refine regI hl (Eq.mpr (z65_g31_e _ (fun i => l.getD i undef) _) h) ?_
      clear h hl
      intro l H hl h
      refine thenN ?_
      refine retI rfl ?_
      refine blkR ?_
      refine thenR ?_
      refine thenR ?_
      refine blkR ?_
      refine thenR ?_
      exact h
    · clear h; intro h
      refine skipI rfl ?_
      refine blkN ?_
      refine thenN ?_
      refine regI hl (Eq.mpr (z65_g32_e _ (fun i => l.getD i undef) _) h) ?_
      clear h hl
      intro l H hl h
      refine thenN ?_
      exact h
  · clear h; intro h
    refine exitI (c := z65_c12) rfl ?_
    refine thenX ?_
    refine thenX ?_
    refine blkX ?_
    refine thenN ?_
    refine seqI (c := z65_c23) rfl ?_
    refine regI hl (Eq.mpr (z65_g33_e _ (fun i => l.getD i undef) _) h) ?_
    clear h hl
    intro l H hl h
    refine thenN ?_
    refine retI rfl ?_
    exact h
def z65_l38 (x0 x1 x7 x8 : Value) (R : Value → Heap → Prop) (H : Heap) : Prop :=
  ∃ (I : Value → Heap → Prop) (μ : Value → Heap → Nat), I x8 H ∧ ∀ (y8 : Value) (H : Heap), I y8 H → z65_s27 x0 x1 x7 y8 (fun z0 z1 z7 z8 H' => z0 = x0 ∧ z1 = x1 ∧ z7 = x7 ∧ (I z8 H' ∧ μ z8 H' < μ y8 H)) R H
def slices_IndexFunc_Packet (x0 x1 : Value) (R : Value → Heap → Prop) (H : Heap) : Prop :=
  z65_g25 (fun x0 x1 H => z65_g26 (fun x0 x1 x7 x8 H => z65_l38 x0 x1 x7 x8 R H) x0 x1 H) x0 x1 H
theorem z65_i (R : Value → Heap → Prop) (x0 x1 : Value) (H : Heap) (h : slices_IndexFunc_Packet x0 x1 R H) : wpE tab P z65_pi z65_c1 (retQ tab z65_rs R) [x0, x1, undef, undef, undef, undef, undef, undef, undef, undef, undef, undef, undef, undef, undef, undef, undef, undef, undef] H := by
  obtain ⟨l, hl, el⟩ : ∃ l : List Value, l.length = 19 ∧ l = [x0, x1, undef, undef, undef, undef, undef, undef, undef, undef, undef, undef, undef, undef, undef, undef, undef, undef, undef] := ⟨_, rfl, rfl⟩
  rw [← el]
  have h : (fun (x0 x1 : Value) => z65_g25 (fun x0 x1 H => z65_g26 (fun x0 x1 x7 x8 H => z65_l38 x0 x1 x7 x8 R H) x0 x1 H) x0 x1 H) (l.getD 0 undef) (l.getD 1 undef) := by rw [el]; exact h
  clear el
  refine seqI (c := z65_c1) rfl ?_
  refine regI hl (Eq.mpr (z65_g25_e _ (fun i => l.getD i undef) _) h) ?_
  clear h hl
  intro l H hl h
  refine thenN ?_
  refine seqI (c := z65_c3) rfl ?_
  refine seqI (c := z65_c4) rfl ?_
  refine regI hl (Eq.mpr (z65_g26_e _ (fun i => l.getD i undef) _) h) ?_
  clear h hl
  intro l H hl h
  refine thenN ?_
  refine blockI (c := z65_c6) rfl ?_
  obtain ⟨I, μ, h0, hr⟩ := h
  refine loopI (c := z65_c7) rfl (fun l' H' => l'.getD 0 undef = l.getD 0 undef ∧ l'.getD 1 undef = l.getD 1 undef ∧ l'.getD 7 undef = l.getD 7 undef ∧ I (l'.getD 8 undef) H') (fun l' H' => μ (l'.getD 8 undef) H') hl ⟨rfl, rfl, rfl, h0⟩ ?_
  rintro l1 H1 hl1 ⟨e0, e1, e7, hI⟩
  have hb := hr (l1.getD 8 undef) H1 hI
  rw [← e0, ← e1, ← e7] at hb
  refine wpE_mono _ l1 H1 hl1 ?_ (z65_s27_i _ R l1 H1 hl1 hb)
  intro e l2 H2 hl2 hq
  cases e with
  | normal => exact fun _ => (by obtain ⟨d0, d1, d7, g1, g2⟩ := hq; exact ⟨⟨d0.trans e0, d1.trans e1, d7.trans e7, g1⟩, g2⟩)
  | _ => exact hq
theorem z65_ok : okB z65_pi z65_c1 = true := by kernel_rfl
theorem z65_ev0 (x0 x1 : Value) (R : Value → Heap → Prop) (H : Heap) (h : slices_IndexFunc_Packet x0 x1 R H) : EvL P N.slices_IndexFunc_Packet #[x0, x1] H R :=
  EvF_intro (args := [x0, x1]) (k := 17) (rs := z65_rs) tab_ok mixed Try.func65 (show Try.f65.body = some z65_c1 by kernel_rfl) Try.call65 Try.ntmps65 (by kernel_rfl) (okCode_of _ z65_ok) rfl (z65_i R x0 x1 H h)
theorem z65_ev (x0 x1 : Value) (R : Value → Heap → Prop) (H : Heap) (h : slices_IndexFunc_Packet x0 x1 R H) : EvF P N.slices_IndexFunc_Packet #[x0, x1] H R := .inl (z65_ev0 x0 x1 R H h)
/- 66: sounder/sat.clamp[int] -/
def z66_rs : List ResultVar := [.tmp 6]
noncomputable def z66_c2 : Code := subC (bodyC Try.f66) [0]
noncomputable def z66_c4 : Code := subC (bodyC Try.f66) [1, 0]
noncomputable def z66_c3 : Code := .seq z66_c4 Code.ret
noncomputable def z66_c1 : Code := .seq z66_c2 z66_c3
def z66_pi (_ : Nat) : Pl := .nil
def z66_g5 (S : Value → Value → Value → Heap → Prop) (x0 x1 x2 : Value) (H : Heap) : Prop :=
  S x0 x1 x2 H
theorem z66_g5_e (S : Value → Value → Value → Heap → Prop) (x : Nat → Value) (H : Heap) : wpE tab P z66_pi z66_c2 (nQ fun l H => S (l.getD 0 undef) (l.getD 1 undef) (l.getD 2 undef) H) ((List.range 12).map x) H = z66_g5 S (x 0) (x 1) (x 2) H := by kernel_rfl
def z66_g6 (S : Value → Heap → Prop) (x0 x1 x2 : Value) (H : Heap) : Prop :=
  bnd (foldV min2V x0 [x2]) fun v10 =>
  bnd (foldV max2V x1 [v10]) fun v11 =>
  S v11 H
theorem z66_g6_e (S : Value → Heap → Prop) (x : Nat → Value) (H : Heap) : wpE tab P z66_pi z66_c4 (nQ fun l H => S (l.getD 6 undef) H) ((List.range 12).map x) H = z66_g6 S (x 0) (x 1) (x 2) H := by kernel_rfl
def sat_clamp_int (x0 x1 x2 : Value) (R : Value → Heap → Prop) (H : Heap) : Prop :=
  z66_g5 (fun x0 x1 x2 H => z66_g6 (fun x6 H => R x6 H) x0 x1 x2 H) x0 x1 x2 H
theorem z66_i (R : Value → Heap → Prop) (x0 x1 x2 : Value) (H : Heap) (h : sat_clamp_int x0 x1 x2 R H) : wpE tab P z66_pi z66_c1 (retQ tab z66_rs R) [x0, x1, x2, undef, undef, undef, undef, undef, undef, undef, undef, undef] H := by
  obtain ⟨l, hl, el⟩ : ∃ l : List Value, l.length = 12 ∧ l = [x0, x1, x2, undef, undef, undef, undef, undef, undef, undef, undef, undef] := ⟨_, rfl, rfl⟩
  rw [← el]
  have h : (fun (x0 x1 x2 : Value) => z66_g5 (fun x0 x1 x2 H => z66_g6 (fun x6 H => R x6 H) x0 x1 x2 H) x0 x1 x2 H) (l.getD 0 undef) (l.getD 1 undef) (l.getD 2 undef) := by rw [el]; exact h
  clear el
  refine seqI (c := z66_c1) rfl ?_
  refine regI hl (Eq.mpr (z66_g5_e _ (fun i => l.getD i undef) _) h) ?_
  clear h hl
  intro l H hl h
  refine thenN ?_
  refine seqI (c := z66_c3) rfl ?_
  refine regI hl (Eq.mpr (z66_g6_e _ (fun i => l.getD i undef) _) h) ?_
  clear h hl
  intro l H hl h
  refine thenN ?_
  refine retI rfl ?_
  exact h
theorem z66_ok : okB z66_pi z66_c1 = true := by kernel_rfl
theorem z66_ev0 (x0 x1 x2 : Value) (R : Value → Heap → Prop) (H : Heap) (h : sat_clamp_int x0 x1 x2 R H) : EvL P N.sat_clamp_int #[x0, x1, x2] H R :=
  EvF_intro (args := [x0, x1, x2]) (k := 9) (rs := z66_rs) tab_ok mixed Try.func66 (show Try.f66.body = some z66_c1 by kernel_rfl) Try.call66 Try.ntmps66 (by kernel_rfl) (okCode_of _ z66_ok) rfl (z66_i R x0 x1 x2 H h)
theorem z66_ev (x0 x1 x2 : Value) (R : Value → Heap → Prop) (H : Heap) (h : sat_clamp_int x0 x1 x2 R H) : EvF P N.sat_clamp_int #[x0, x1, x2] H R := .inl (z66_ev0 x0 x1 x2 R H h)
/- 67: slices.IndexFunc[[]sounder/api.Range,sounder/api.Range] -/
def z67_rs : List ResultVar := [.tmp 4]
noncomputable def z67_c2 : Code := subC (bodyC Try.f67) [0]
noncomputable def z67_c5 : Code := subC (bodyC Try.f67) [1, 0, 0]
noncomputable def z67_c9 : Code := subC (bodyC Try.f67) [1, 0, 1, 0, 0, 0]
noncomputable def z67_c12 : Code := .exit 0
noncomputable def z67_c11 : Code := .cond (.tmp 9) Code.skip z67_c12
noncomputable def z67_c16 : Code := subC (bodyC Try.f67) [1, 0, 1, 0, 0, 1, 1, 0, 0, 0]
noncomputable def z67_c18 : Code := subC (bodyC Try.f67) [1, 0, 1, 0, 0, 1, 1, 0, 0, 1, 0]
noncomputable def z67_c21 : Code := subC (bodyC Try.f67) [1, 0, 1, 0, 0, 1, 1, 0, 0, 1, 1, 0, 0]
noncomputable def z67_c20 : Code := .seq z67_c21 Code.ret
noncomputable def z67_c19 : Code := .cond (.tmp 16) z67_c20 Code.skip
noncomputable def z67_c17 : Code := .seq z67_c18 z67_c19
noncomputable def z67_c15 : Code := .seq z67_c16 z67_c17
noncomputable def z67_c14 : Code := .block 1 z67_c15
noncomputable def z67_c22 : Code := subC (bodyC Try.f67) [1, 0, 1, 0, 0, 1, 1, 1]
noncomputable def z67_c13 : Code := .seq z67_c14 z67_c22
noncomputable def z67_c10 : Code := .seq z67_c11 z67_c13
noncomputable def z67_c8 : Code := .seq z67_c9 z67_c10
noncomputable def z67_c7 : Code := .loop z67_c8
noncomputable def z67_c6 : Code := .block 0 z67_c7
noncomputable def z67_c4 : Code := .seq z67_c5 z67_c6
noncomputable def z67_c24 : Code := subC (bodyC Try.f67) [1, 1, 0]
noncomputable def z67_c23 : Code := .seq z67_c24 Code.ret
noncomputable def z67_c3 : Code := .seq z67_c4 z67_c23
noncomputable def z67_c1 : Code := .seq z67_c2 z67_c3
def z67_pi (_ : Nat) : Pl := .nil
def z67_g25 (S : Value → Value → Heap → Prop) (x0 x1 : Value) (H : Heap) : Prop :=
  S x0 x1 H
theorem z67_g25_e (S : Value → Value → Heap → Prop) (x : Nat → Value) (H : Heap) : wpE tab P z67_pi z67_c2 (nQ fun l H => S (l.getD 0 undef) (l.getD 1 undef) H) ((List.range 19).map x) H = z67_g25 S (x 0) (x 1) H := by kernel_rfl
def z67_g26 (S : Value → Value → Value → Value → Heap → Prop) (x0 x1 : Value) (H : Heap) : Prop :=
  bnd (lenV x0) fun v7 =>
  S x0 x1 v7 (.int .i64 0) H
theorem z67_g26_e (S : Value → Value → Value → Value → Heap → Prop) (x : Nat → Value) (H : Heap) : wpE tab P z67_pi z67_c5 (nQ fun l H => S (l.getD 0 undef) (l.getD 1 undef) (l.getD 7 undef) (l.getD 8 undef) H) ((List.range 19).map x) H = z67_g26 S (x 0) (x 1) H := by kernel_rfl
def z67_g28 (S : Value → Value → Value → Value → Value → Heap → Prop) (x0 x1 x7 x8 : Value) (H : Heap) : Prop :=
  bnd (binV .int .lss x8 x7) fun v9 =>
  S x0 x1 x7 x8 v9 H
theorem z67_g28_e (S : Value → Value → Value → Value → Value → Heap → Prop) (x : Nat → Value) (H : Heap) : wpE tab P z67_pi z67_c9 (nQ fun l H => S (l.getD 0 undef) (l.getD 1 undef) (l.getD 7 undef) (l.getD 8 undef) (l.getD 9 undef) H) ((List.range 19).map x) H = z67_g28 S (x 0) (x 1) (x 7) (x 8) H := by kernel_rfl
def z67_g29 (S : Value → Value → Value → Value → Value → Heap → Prop) (x0 x1 x7 x8 : Value) (H : Heap) : Prop :=
  S x0 x1 x8 x7 x8 H
theorem z67_g29_e (S : Value → Value → Value → Value → Value → Heap → Prop) (x : Nat → Value) (H : Heap) : wpE tab P z67_pi z67_c16 (nQ fun l H => S (l.getD 0 undef) (l.getD 1 undef) (l.getD 5 undef) (l.getD 7 undef) (l.getD 8 undef) H) ((List.range 19).map x) H = z67_g29 S (x 0) (x 1) (x 7) (x 8) H := by kernel_rfl
def z67_g30 (S : Value → Value → Value → Value → Value → Value → Heap → Prop) (x0 x1 x5 x7 x8 : Value) (H : Heap) : Prop :=
  bnd (ixSV 2 x0 x5) fun v14 =>
  bnd (ldE true 2 v14 H) fun v15 =>
  callV P x1 [v15] H fun v16 H1 =>
  S x0 x1 x5 x7 x8 v16 H1
theorem z67_g30_e (S : Value → Value → Value → Value → Value → Value → Heap → Prop) (x : Nat → Value) (H : Heap) : wpE tab P z67_pi z67_c18 (nQ fun l H => S (l.getD 0 undef) (l.getD 1 undef) (l.getD 5 undef) (l.getD 7 undef) (l.getD 8 undef) (l.getD 16 undef) H) ((List.range 19).map x) H = z67_g30 S (x 0) (x 1) (x 5) (x 7) (x 8) H := by kernel_rfl
def z67_g31 (S : Value → Heap → Prop) (x5 : Value) (H : Heap) : Prop :=
  S x5 H
theorem z67_g31_e (S : Value → Heap → Prop) (x : Nat → Value) (H : Heap) : wpE tab P z67_pi z67_c21 (nQ fun l H => S (l.getD 4 undef) H) ((List.range 19).map x) H = z67_g31 S (x 5) H := by kernel_rfl
def z67_g32 (S : Value → Value → Value → Value → Heap → Prop) (x0 x1 x7 x8 : Value) (H : Heap) : Prop :=
  bnd (binV .int .add x8 (.int .i64 1)) fun v18 =>
  S x0 x1 x7 v18 H
theorem z67_g32_e (S : Value → Value → Value → Value → Heap → Prop) (x : Nat → Value) (H : Heap) : wpE tab P z67_pi z67_c22 (nQ fun l H => S (l.getD 0 undef) (l.getD 1 undef) (l.getD 7 undef) (l.getD 8 undef) H) ((List.range 19).map x) H = z67_g32 S (x 0) (x 1) (x 7) (x 8) H := by kernel_rfl
def z67_g33 (S : Value → Heap → Prop) (H : Heap) : Prop :=
  S (.int .i64 (-1)) H
theorem z67_g33_e (S : Value → Heap → Prop) (x : Nat → Value) (H : Heap) : wpE tab P z67_pi z67_c24 (nQ fun l H => S (l.getD 4 undef) H) ((List.range 19).map x) H = z67_g33 S  H := by kernel_rfl
def z67_s27 (x0 x1 x7 x8 : Value) (K1 : Value → Value → Value → Value →  Heap → Prop) (R : Value → Heap → Prop) (H : Heap) : Prop :=
  z67_g28 (fun x0 x1 x7 x8 x9 H => brV x9
  (z67_g29 (fun x0 x1 x5 x7 x8 H => z67_g30 (fun x0 x1 x5 x7 x8 x16 H => brV x16
  (z67_g31 (fun x4 H => R x4 H) x5 H)
  (z67_g32 (fun x0 x1 x7 x8 H => K1 x0 x1 x7 x8 H) x0 x1 x7 x8 H)) x0 x1 x5 x7 x8 H) x0 x1 x7 x8 H)
  (z67_g33 (fun x4 H => R x4 H) H)) x0 x1 x7 x8 H
noncomputable def z67_q34 (R : Value → Heap → Prop) : Exit → List Value → Heap → Prop := (retQ tab z67_rs R)
noncomputable def z67_q35 (R : Value → Heap → Prop) : Exit → List Value → Heap → Prop := (thenE (fun l H => wpE tab P z67_pi z67_c23 (z67_q34 R) l H) (z67_q34 R))
noncomputable def z67_q36 (R : Value → Heap → Prop) : Exit → List Value → Heap → Prop := (blkE 0 (z67_q35 R))
noncomputable def z67_q37 (K1 : Value → Value → Value → Value →  Heap → Prop) (R : Value → Heap → Prop) : Exit → List Value → Heap → Prop := (thenE (fun l H => K1 (l.getD 0 undef) (l.getD 1 undef) (l.getD 7 undef) (l.getD 8 undef) H) (z67_q36 R))
theorem z67_s27_i (K1 : Value → Value → Value → Value →  Heap → Prop) (R : Value → Heap → Prop) (l : List Value) (H : Heap) (hl : l.length = 19) (h : z67_s27 (l.getD 0 undef) (l.getD 1 undef) (l.getD 7 undef) (l.getD 8 undef) K1 R H) : wpE tab P z67_pi z67_c8 (z67_q37 K1 R) l H := by
  refine seqI (c := z67_c8) rfl ?_
  refine regI hl (Eq.mpr (z67_g28_e _ (fun i => l.getD i undef) _) h) ?_
  clear h hl
  intro l H hl h
  refine thenN ?_
  refine seqI (c := z67_c10) rfl ?_
  refine condI (c := z67_c11) rfl h ?_ ?_
  · clear h; intro h
    refine skipI rfl ?_
    refine thenN ?_
    refine seqI (c := z67_c13) rfl ?_
    refine blockI (c := z67_c14) rfl ?_
    refine seqI (c := z67_c15) rfl ?_
    refine regI hl (Eq.mpr (z67_g29_e _ (fun i => l.getD i undef) _) h) ?_
    clear h hl
    intro l H hl h
    refine thenN ?_
    refine seqI (c := z67_c17) rfl ?_
    refine regI hl (Eq.mpr (z67_g30_e _ (fun i => l.getD i undef) _) h) ?_
    clear h hl
    intro l H hl h
    refine thenN ?_
    refine condI (c := z67_c19) rfl h ?_ ?_
    · clear h; intro h
      refine seqI (c := z67_c20) rfl ?_
      refine regI hl (Eq.mpr (z67_g31_e _ (fun i => l.getD i undef) _) h) ?_
      clear h hl
      intro l H hl h
      refine thenN ?_
      refine retI rfl ?_
      refine blkR ?_
      refine thenR ?_
      refine thenR ?_
      refine blkR ?_
      refine thenR ?_
      exact h
    · clear h; intro h
      refine skipI rfl ?_
      refine blkN ?_
      refine thenN ?_
      refine regI hl (Eq.mpr (z67_g32_e _ (fun i => l.getD i undef) _) h) ?_
      clear h hl
      intro l H hl h
      refine thenN ?_
      exact h
  · clear h; intro h
    refine exitI (c := z67_c12) rfl ?_
    refine thenX ?_
    refine thenX ?_
    refine blkX ?_
    refine thenN ?_
    refine seqI (c := z67_c23) rfl ?_
    refine regI hl (Eq.mpr (z67_g33_e _ (fun i => l.getD i undef) _) h) ?_
    clear h hl
    intro l H hl h
    refine thenN ?_
    refine retI rfl ?_
    exact h
def z67_l38 (x0 x1 x7 x8 : Value) (R : Value → Heap → Prop) (H : Heap) : Prop :=
  ∃ (I : Value → Heap → Prop) (μ : Value → Heap → Nat), I x8 H ∧ ∀ (y8 : Value) (H : Heap), I y8 H → z67_s27 x0 x1 x7 y8 (fun z0 z1 z7 z8 H' => z0 = x0 ∧ z1 = x1 ∧ z7 = x7 ∧ (I z8 H' ∧ μ z8 H' < μ y8 H)) R H
def slices_IndexFunc_Range (x0 x1 : Value) (R : Value → Heap → Prop) (H : Heap) : Prop :=
  z67_g25 (fun x0 x1 H => z67_g26 (fun x0 x1 x7 x8 H => z67_l38 x0 x1 x7 x8 R H) x0 x1 H) x0 x1 H
theorem z67_i (R : Value → Heap → Prop) (x0 x1 : Value) (H : Heap) (h : slices_IndexFunc_Range x0 x1 R H) : wpE tab P z67_pi z67_c1 (retQ tab z67_rs R) [x0, x1, undef, undef, undef, undef, undef, undef, undef, undef, undef, undef, undef, undef, undef, undef, undef, undef, undef] H := by
  obtain ⟨l, hl, el⟩ : ∃ l : List Value, l.length = 19 ∧ l = [x0, x1, undef, undef, undef, undef, undef, undef, undef, undef, undef, undef, undef, undef, undef, undef, undef, undef, undef] := ⟨_, rfl, rfl⟩
  rw [← el]
  have h : (fun (x0 x1 : Value) => z67_g25 (fun x0 x1 H => z67_g26 (fun x0 x1 x7 x8 H => z67_l38 x0 x1 x7 x8 R H) x0 x1 H) x0 x1 H) (l.getD 0 undef) (l.getD 1 undef) := by rw [el]; exact h
  clear el
  refine seqI (c := z67_c1) rfl ?_
  refine regI hl (Eq.mpr (z67_g25_e _ (fun i => l.getD i undef) _) h) ?_
  clear h hl
  intro l H hl h
  refine thenN ?_
  refine seqI (c := z67_c3) rfl ?_
  refine seqI (c := z67_c4) rfl ?_
  refine regI hl (Eq.mpr (z67_g26_e _ (fun i => l.getD i undef) _) h) ?_
  clear h hl
  intro l H hl h
  refine thenN ?_
  refine blockI (c := z67_c6) rfl ?_
  obtain ⟨I, μ, h0, hr⟩ := h
  refine loopI (c := z67_c7) rfl (fun l' H' => l'.getD 0 undef = l.getD 0 undef ∧ l'.getD 1 undef = l.getD 1 undef ∧ l'.getD 7 undef = l.getD 7 undef ∧ I (l'.getD 8 undef) H') (fun l' H' => μ (l'.getD 8 undef) H') hl ⟨rfl, rfl, rfl, h0⟩ ?_
  rintro l1 H1 hl1 ⟨e0, e1, e7, hI⟩
  have hb := hr (l1.getD 8 undef) H1 hI
  rw [← e0, ← e1, ← e7] at hb
  refine wpE_mono _ l1 H1 hl1 ?_ (z67_s27_i _ R l1 H1 hl1 hb)
  intro e l2 H2 hl2 hq
  cases e with
  | normal => exact fun _ => (by obtain ⟨d0, d1, d7, g1, g2⟩ := hq; exact ⟨⟨d0.trans e0, d1.trans e1, d7.trans e7, g1⟩, g2⟩)
  | _ => exact hq
theorem z67_ok : okB z67_pi z67_c1 = true := by kernel_rfl
theorem z67_ev0 (x0 x1 : Value) (R : Value → Heap → Prop) (H : Heap) (h : slices_IndexFunc_Range x0 x1 R H) : EvL P N.slices_IndexFunc_Range #[x0, x1] H R :=
  EvF_intro (args := [x0, x1]) (k := 17) (rs := z67_rs) tab_ok mixed Try.func67 (show Try.f67.body = some z67_c1 by kernel_rfl) Try.call67 Try.ntmps67 (by kernel_rfl) (okCode_of _ z67_ok) rfl (z67_i R x0 x1 H h)
theorem z67_ev (x0 x1 : Value) (R : Value → Heap → Prop) (H : Heap) (h : slices_IndexFunc_Range x0 x1 R H) : EvF P N.slices_IndexFunc_Range #[x0, x1] H R := .inl (z67_ev0 x0 x1 R H h)
/- 68: slices.Collect[sounder/api.Range] -/
def z68_rs : List ResultVar := [.tmp 2]
noncomputable def z68_c2 : Code := subC (bodyC Try.f68) [0]
noncomputable def z68_c4 : Code := subC (bodyC Try.f68) [1, 0]
noncomputable def z68_c3 : Code := .seq z68_c4 Code.ret
noncomputable def z68_c1 : Code := .seq z68_c2 z68_c3
def z68_pi (_ : Nat) : Pl := .nil
def z68_g5 (S : Value → Heap → Prop) (x0 : Value) (H : Heap) : Prop :=
  S x0 H
theorem z68_g5_e (S : Value → Heap → Prop) (x : Nat → Value) (H : Heap) : wpE tab P z68_pi z68_c2 (nQ fun l H => S (l.getD 0 undef) H) ((List.range 5).map x) H = z68_g5 S (x 0) H := by kernel_rfl
def z68_g6 (S : Value → Heap → Prop) (x0 : Value) (H : Heap) : Prop :=
  EvF P N.slices_AppendSeq_Range #[(.slice none 0 0), x0] H fun v4 H1 =>
  S v4 H1
theorem z68_g6_e (S : Value → Heap → Prop) (x : Nat → Value) (H : Heap) : wpE tab P z68_pi z68_c4 (nQ fun l H => S (l.getD 2 undef) H) ((List.range 5).map x) H = z68_g6 S (x 0) H := by kernel_rfl
def slices_Collect_Range (x0 : Value) (R : Value → Heap → Prop) (H : Heap) : Prop :=
  z68_g5 (fun x0 H => z68_g6 (fun x2 H => R x2 H) x0 H) x0 H
theorem z68_i (R : Value → Heap → Prop) (x0 : Value) (H : Heap) (h : slices_Collect_Range x0 R H) : wpE tab P z68_pi z68_c1 (retQ tab z68_rs R) [x0, undef, undef, undef, undef] H := by
  obtain ⟨l, hl, el⟩ : ∃ l : List Value, l.length = 5 ∧ l = [x0, undef, undef, undef, undef] := ⟨_, rfl, rfl⟩
  rw [← el]
  have h : (fun (x0 : Value) => z68_g5 (fun x0 H => z68_g6 (fun x2 H => R x2 H) x0 H) x0 H) (l.getD 0 undef) := by rw [el]; exact h
  clear el
  refine seqI (c := z68_c1) rfl ?_
  refine regI hl (Eq.mpr (z68_g5_e _ (fun i => l.getD i undef) _) h) ?_
  clear h hl
  intro l H hl h
  refine thenN ?_
  refine seqI (c := z68_c3) rfl ?_
  refine regI hl (Eq.mpr (z68_g6_e _ (fun i => l.getD i undef) _) h) ?_
  clear h hl
  intro l H hl h
  refine thenN ?_
  refine retI rfl ?_
  exact h
theorem z68_ok : okB z68_pi z68_c1 = true := by kernel_rfl
theorem z68_ev0 (x0 : Value) (R : Value → Heap → Prop) (H : Heap) (h : slices_Collect_Range x0 R H) : EvL P N.slices_Collect_Range #[x0] H R :=
  EvF_intro (args := [x0]) (k := 4) (rs := z68_rs) tab_ok mixed Try.func68 (show Try.f68.body = some z68_c1 by kernel_rfl) Try.call68 Try.ntmps68 (by kernel_rfl) (okCode_of _ z68_ok) rfl (z68_i R x0 H h)
theorem z68_ev (x0 : Value) (R : Value → Heap → Prop) (H : Heap) (h : slices_Collect_Range x0 R H) : EvF P N.slices_Collect_Range #[x0] H R := .inl (z68_ev0 x0 R H h)
/- 69: (*sounder/span.Set).falling -/
def z69_rs : List ResultVar := [.tmp 2]
noncomputable def z69_c2 : Code := subC (bodyC Try.f69) [0]
noncomputable def z69_c4 : Code := subC (bodyC Try.f69) [1, 0]
noncomputable def z69_c3 : Code := .seq z69_c4 Code.ret
noncomputable def z69_c1 : Code := .seq z69_c2 z69_c3
def z69_pi (_ : Nat) : Pl := .nil
def z69_g5 (S : Value → Heap → Prop) (x0 : Value) (H : Heap) : Prop :=
  newE 28 (Value.cells x0) H fun v1 H1 =>
  S v1 H1
theorem z69_g5_e (S : Value → Heap → Prop) (x : Nat → Value) (H : Heap) : wpE tab P z69_pi z69_c2 (nQ fun l H => S (l.getD 1 undef) H) ((List.range 4).map x) H = z69_g5 S (x 0) H := by kernel_rfl
def z69_g6 (S : Value → Heap → Prop) (x1 : Value) (H : Heap) : Prop :=
  S (.func (.func N.span_Set_falling_1) #[] #[x1]) H
theorem z69_g6_e (S : Value → Heap → Prop) (x : Nat → Value) (H : Heap) : wpE tab P z69_pi z69_c4 (nQ fun l H => S (l.getD 2 undef) H) ((List.range 4).map x) H = z69_g6 S (x 1) H := by kernel_rfl
def span_Set_falling (x0 : Value) (R : Value → Heap → Prop) (H : Heap) : Prop :=
  z69_g5 (fun x1 H => z69_g6 (fun x2 H => R x2 H) x1 H) x0 H
theorem z69_i (R : Value → Heap → Prop) (x0 : Value) (H : Heap) (h : span_Set_falling x0 R H) : wpE tab P z69_pi z69_c1 (retQ tab z69_rs R) [x0, undef, undef, undef] H := by
  obtain ⟨l, hl, el⟩ : ∃ l : List Value, l.length = 4 ∧ l = [x0, undef, undef, undef] := ⟨_, rfl, rfl⟩
  rw [← el]
  have h : (fun (x0 : Value) => z69_g5 (fun x1 H => z69_g6 (fun x2 H => R x2 H) x1 H) x0 H) (l.getD 0 undef) := by rw [el]; exact h
  clear el
  refine seqI (c := z69_c1) rfl ?_
  refine regI hl (Eq.mpr (z69_g5_e _ (fun i => l.getD i undef) _) h) ?_
  clear h hl
  intro l H hl h
  refine thenN ?_
  refine seqI (c := z69_c3) rfl ?_
  refine regI hl (Eq.mpr (z69_g6_e _ (fun i => l.getD i undef) _) h) ?_
  clear h hl
  intro l H hl h
  refine thenN ?_
  refine retI rfl ?_
  exact h
theorem z69_ok : okB z69_pi z69_c1 = true := by kernel_rfl
theorem z69_ev0 (x0 : Value) (R : Value → Heap → Prop) (H : Heap) (h : span_Set_falling x0 R H) : EvL P N.span_Set_falling #[x0] H R :=
  EvF_intro (args := [x0]) (k := 3) (rs := z69_rs) tab_ok mixed Try.func69 (show Try.f69.body = some z69_c1 by kernel_rfl) Try.call69 Try.ntmps69 (by kernel_rfl) (okCode_of _ z69_ok) rfl (z69_i R x0 H h)
theorem z69_ev (x0 : Value) (R : Value → Heap → Prop) (H : Heap) (h : span_Set_falling x0 R H) : EvF P N.span_Set_falling #[x0] H R := .inl (z69_ev0 x0 R H h)
/- 70: sounder/sounderref04.is -/
def z70_rs : List ResultVar := [.tmp 2]
noncomputable def z70_c2 : Code := subC (bodyC Try.f70) [0]
noncomputable def z70_c4 : Code := subC (bodyC Try.f70) [1, 0]
noncomputable def z70_c3 : Code := .seq z70_c4 Code.ret
noncomputable def z70_c1 : Code := .seq z70_c2 z70_c3
def z70_pi (_ : Nat) : Pl := .nil
def z70_g5 (S : Value → Heap → Prop) (x0 : Value) (H : Heap) : Prop :=
  S x0 H
theorem z70_g5_e (S : Value → Heap → Prop) (x : Nat → Value) (H : Heap) : wpE tab P z70_pi z70_c2 (nQ fun l H => S (l.getD 0 undef) H) ((List.range 9).map x) H = z70_g5 S (x 0) H := by kernel_rfl
def z70_g6 (S : Value → Heap → Prop) (x0 : Value) (H : Heap) : Prop :=
  bnd (binV .int .geq x0 (.int .i64 0)) fun v4 =>
  brV v4
  (bnd (binV .int .leq x0 (.int .i64 9007199254740991)) fun v7 =>
  S v7 H)
  (S (.bool false) H)
theorem z70_g6_e (S : Value → Heap → Prop) (x : Nat → Value) (H : Heap) : wpE tab P z70_pi z70_c4 (nQ fun l H => S (l.getD 2 undef) H) ((List.range 9).map x) H = z70_g6 S (x 0) H := by kernel_rfl
def sounderref04_is (x0 : Value) (R : Value → Heap → Prop) (H : Heap) : Prop :=
  z70_g5 (fun x0 H => z70_g6 (fun x2 H => R x2 H) x0 H) x0 H
theorem z70_i (R : Value → Heap → Prop) (x0 : Value) (H : Heap) (h : sounderref04_is x0 R H) : wpE tab P z70_pi z70_c1 (retQ tab z70_rs R) [x0, undef, undef, undef, undef, undef, undef, undef, undef] H := by
  obtain ⟨l, hl, el⟩ : ∃ l : List Value, l.length = 9 ∧ l = [x0, undef, undef, undef, undef, undef, undef, undef, undef] := ⟨_, rfl, rfl⟩
  rw [← el]
  have h : (fun (x0 : Value) => z70_g5 (fun x0 H => z70_g6 (fun x2 H => R x2 H) x0 H) x0 H) (l.getD 0 undef) := by rw [el]; exact h
  clear el
  refine seqI (c := z70_c1) rfl ?_
  refine regI hl (Eq.mpr (z70_g5_e _ (fun i => l.getD i undef) _) h) ?_
  clear h hl
  intro l H hl h
  refine thenN ?_
  refine seqI (c := z70_c3) rfl ?_
  refine regI hl (Eq.mpr (z70_g6_e _ (fun i => l.getD i undef) _) h) ?_
  clear h hl
  intro l H hl h
  refine thenN ?_
  refine retI rfl ?_
  exact h
theorem z70_ok : okB z70_pi z70_c1 = true := by kernel_rfl
theorem z70_ev0 (x0 : Value) (R : Value → Heap → Prop) (H : Heap) (h : sounderref04_is x0 R H) : EvL P N.sounderref04_is #[x0] H R :=
  EvF_intro (args := [x0]) (k := 8) (rs := z70_rs) tab_ok mixed Try.func70 (show Try.f70.body = some z70_c1 by kernel_rfl) Try.call70 Try.ntmps70 (by kernel_rfl) (okCode_of _ z70_ok) rfl (z70_i R x0 H h)
theorem z70_ev (x0 : Value) (R : Value → Heap → Prop) (H : Heap) (h : sounderref04_is x0 R H) : EvF P N.sounderref04_is #[x0] H R := .inl (z70_ev0 x0 R H h)
/- 71: sounder/sounderref04.added -/
def z71_rs : List ResultVar := [.tmp 4]
noncomputable def z71_c2 : Code := subC (bodyC Try.f71) [0]
noncomputable def z71_c4 : Code := subC (bodyC Try.f71) [1, 0]
noncomputable def z71_c6 : Code := subC (bodyC Try.f71) [1, 1, 0]
noncomputable def z71_c9 : Code := subC (bodyC Try.f71) [1, 1, 1, 0, 0]
noncomputable def z71_c14 : Code := subC (bodyC Try.f71) [1, 1, 1, 0, 1, 0, 0, 0, 0]
noncomputable def z71_c16 : Code := .exit 0
noncomputable def z71_c15 : Code := .cond (.tmp 11) Code.skip z71_c16
noncomputable def z71_c13 : Code := .seq z71_c14 z71_c15
noncomputable def z71_c21 : Code := subC (bodyC Try.f71) [1, 1, 1, 0, 1, 0, 0, 1, 0, 0, 0, 0]
noncomputable def z71_c23 : Code := subC (bodyC Try.f71) [1, 1, 1, 0, 1, 0, 0, 1, 0, 0, 0, 1, 0]
noncomputable def z71_c25 : Code := subC (bodyC Try.f71) [1, 1, 1, 0, 1, 0, 0, 1, 0, 0, 0, 1, 1, 0]
noncomputable def z71_c29 : Code := subC (bodyC Try.f71) [1, 1, 1, 0, 1, 0, 0, 1, 0, 0, 0, 1, 1, 1, 0, 0, 0]
noncomputable def z71_c32 : Code := subC (bodyC Try.f71) [1, 1, 1, 0, 1, 0, 0, 1, 0, 0, 0, 1, 1, 1, 0, 0, 1, 0, 0]
noncomputable def z71_c33 : Code := subC (bodyC Try.f71) [1, 1, 1, 0, 1, 0, 0, 1, 0, 0, 0, 1, 1, 1, 0, 0, 1, 0, 1]
noncomputable def z71_c31 : Code := .seq z71_c32 z71_c33
noncomputable def z71_c30 : Code := .cond (.tmp 59) z71_c31 Code.skip
noncomputable def z71_c28 : Code := .seq z71_c29 z71_c30
noncomputable def z71_c34 : Code := subC (bodyC Try.f71) [1, 1, 1, 0, 1, 0, 0, 1, 0, 0, 0, 1, 1, 1, 0, 1]
noncomputable def z71_c27 : Code := .seq z71_c28 z71_c34
noncomputable def z71_c35 : Code := subC (bodyC Try.f71) [1, 1, 1, 0, 1, 0, 0, 1, 0, 0, 0, 1, 1, 1, 1]
noncomputable def z71_c26 : Code := .cond (.tmp 48) z71_c27 z71_c35
noncomputable def z71_c24 : Code := .seq z71_c25 z71_c26
noncomputable def z71_c22 : Code := .cond (.tmp 31) z71_c23 z71_c24
noncomputable def z71_c20 : Code := .seq z71_c21 z71_c22
noncomputable def z71_c19 : Code := .block 2 z71_c20
noncomputable def z71_c18 : Code := .block 1 z71_c19
noncomputable def z71_c36 : Code := subC (bodyC Try.f71) [1, 1, 1, 0, 1, 0, 0, 1, 1]
noncomputable def z71_c17 : Code := .seq z71_c18 z71_c36
noncomputable def z71_c12 : Code := .seq z71_c13 z71_c17
noncomputable def z71_c11 : Code := .loop z71_c12
noncomputable def z71_c10 : Code := .block 0 z71_c11
noncomputable def z71_c8 : Code := .seq z71_c9 z71_c10
noncomputable def z71_c39 : Code := subC (bodyC Try.f71) [1, 1, 1, 1, 0, 0]
noncomputable def z71_c41 : Code := subC (bodyC Try.f71) [1, 1, 1, 1, 0, 1, 0]
noncomputable def z71_c40 : Code := .cond (.tmp 72) z71_c41 Code.skip
noncomputable def z71_c38 : Code := .seq z71_c39 z71_c40
noncomputable def z71_c43 : Code := subC (bodyC Try.f71) [1, 1, 1, 1, 1, 0]
noncomputable def z71_c42 : Code := .seq z71_c43 Code.ret
noncomputable def z71_c37 : Code := .seq z71_c38 z71_c42
noncomputable def z71_c7 : Code := .seq z71_c8 z71_c37
noncomputable def z71_c5 : Code := .seq z71_c6 z71_c7
noncomputable def z71_c3 : Code := .seq z71_c4 z71_c5
noncomputable def z71_c1 : Code := .seq z71_c2 z71_c3
def z71_pi (i : Nat) : Pl := match i with
  | 6 => (ones [0, 1, 2, 3, 4, 5, 6, 7, 8, 9, 10, 11, 12, 13, 14, 15, 16, 17] .nil)
  | 7 => (ones [0, 1, 2, 3, 4, 5, 6, 7, 8, 9] .nil)
  | 9 => (ones [0, 1, 2, 3, 4, 5, 6, 7, 8, 9] .nil)
  | _ => .nil
def z71_g44 (S : Value → Value → Heap → Prop) (x0 x1 : Value) (H : Heap) : Prop :=
  newE 45 (Value.cells x1) H fun v3 H1 =>
  S x0 v3 H1
theorem z71_g44_e (S : Value → Value → Heap → Prop) (x : Nat → Value) (H : Heap) : wpE tab P z71_pi z71_c2 (nQ fun l H => S (l.getD 0 undef) (l.getD 3 undef) H) ((List.range 78).map x) H = z71_g44 S (x 0) (x 1) H := by kernel_rfl
def z71_g45 (S : Value → Value → Value → Heap → Prop) (x0 x3 : Value) (H : Heap) : Prop :=
  S x0 x3 (.slice none 0 0) H
theorem z71_g45_e (S : Value → Value → Value → Heap → Prop) (x : Nat → Value) (H : Heap) : wpE tab P z71_pi z71_c4 (nQ fun l H => S (l.getD 0 undef) (l.getD 3 undef) (l.getD 5 undef) H) ((List.range 78).map x) H = z71_g45 S (x 0) (x 3) H := by kernel_rfl
def z71_g46 (S : Value → Value → Value → Value → Heap → Prop) (x0 x3 x5 : Value) (H : Heap) : Prop :=
  S x0 x3 x5 (.bool false) H
theorem z71_g46_e (S : Value → Value → Value → Value → Heap → Prop) (x : Nat → Value) (H : Heap) : wpE tab P z71_pi z71_c6 (nQ fun l H => S (l.getD 0 undef) (l.getD 3 undef) (l.getD 5 undef) (l.getD 6 undef) H) ((List.range 78).map x) H = z71_g46 S (x 0) (x 3) (x 5) H := by kernel_rfl
def z71_g47 (S : Value → Value → Value → Value → Value → Heap → Prop) (x0 x3 x5 x6 : Value) (H : Heap) : Prop :=
  S x0 x3 x5 x6 (.int .i64 0) H
theorem z71_g47_e (S : Value → Value → Value → Value → Value → Heap → Prop) (x : Nat → Value) (H : Heap) : wpE tab P z71_pi z71_c9 (nQ fun l H => S (l.getD 0 undef) (l.getD 3 undef) (l.getD 5 undef) (l.getD 6 undef) (l.getD 7 undef) H) ((List.range 78).map x) H = z71_g47 S (x 0) (x 3) (x 5) (x 6) H := by kernel_rfl
def z71_g49 (S : Value → Value → Value → Value → Value → Value → Heap → Prop) (x0 x3 x5 x6 x7 : Value) (H : Heap) : Prop :=
  bnd (lenV x0) fun v10 =>
  bnd (binV .int .lss x7 v10) fun v11 =>
  S x0 x3 x5 x6 x7 v11 H
theorem z71_g49_e (S : Value → Value → Value → Value → Value → Value → Heap → Prop) (x : Nat → Value) (H : Heap) : wpE tab P z71_pi z71_c14 (nQ fun l H => S (l.getD 0 undef) (l.getD 3 undef) (l.getD 5 undef) (l.getD 6 undef) (l.getD 7 undef) (l.getD 11 undef) H) ((List.range 78).map x) H = z71_g49 S (x 0) (x 3) (x 5) (x 6) (x 7) H := by kernel_rfl
def z71_g51 (S : Value → Value → Value → Value → Value → Heap → Prop) (x0 x3 x5 x6 x7 : Value) (H : Heap) : Prop :=
  bnd (binV .int .add x7 (.int .i64 1)) fun v13 =>
  S x0 x3 x5 x6 v13 H
theorem z71_g51_e (S : Value → Value → Value → Value → Value → Heap → Prop) (x : Nat → Value) (H : Heap) : wpE tab P z71_pi z71_c36 (nQ fun l H => S (l.getD 0 undef) (l.getD 3 undef) (l.getD 5 undef) (l.getD 6 undef) (l.getD 7 undef) H) ((List.range 78).map x) H = z71_g51 S (x 0) (x 3) (x 5) (x 6) (x 7) H := by kernel_rfl
def z71_s50 (x0 x3 x5 x6 x7 : Value) (K1 : Value → Value → Value → Value → Value →  Heap → Prop) (_R : Value → Heap → Prop) (H : Heap) : Prop :=
  z71_g51 (fun x0 x3 x5 x6 x7 H => K1 x0 x3 x5 x6 x7 H) x0 x3 x5 x6 x7 H
noncomputable def z71_q52 (R : Value → Heap → Prop) : Exit → List Value → Heap → Prop := (retQ tab z71_rs R)
noncomputable def z71_q53 (R : Value → Heap → Prop) : Exit → List Value → Heap → Prop := (thenE (fun l H => wpE tab P z71_pi z71_c37 (z71_q52 R) l H) (z71_q52 R))
noncomputable def z71_q54 (R : Value → Heap → Prop) : Exit → List Value → Heap → Prop := (blkE 0 (z71_q53 R))
noncomputable def z71_q55 (K1 : Value → Value → Value → Value → Value →  Heap → Prop) (R : Value → Heap → Prop) : Exit → List Value → Heap → Prop := (thenE (fun l H => K1 (l.getD 0 undef) (l.getD 3 undef) (l.getD 5 undef) (l.getD 6 undef) (l.getD 7 undef) H) (z71_q54 R))
theorem z71_s50_i (K1 : Value → Value → Value → Value → Value →  Heap → Prop) (R : Value → Heap → Prop) (l : List Value) (H : Heap) (hl : l.length = 78) (h : z71_s50 (l.getD 0 undef) (l.getD 3 undef) (l.getD 5 undef) (l.getD 6 undef) (l.getD 7 undef) K1 R H) : wpE tab P z71_pi z71_c36 (z71_q55 K1 R) l H := by
  refine regI hl (Eq.mpr (z71_g51_e _ (fun i => l.getD i undef) _) h) ?_
  clear h hl
  intro l H hl h
  refine thenN ?_
  exact h
def z71_g56 (S : Value → Value → Value → Value → Value → Value → Heap → Prop) (x0 x3 x5 x6 x7 : Value) (H : Heap) : Prop :=
  bnd (ixSV 2 x0 x7) fun v34 =>
  bnd (faV 0 v34) fun v35 =>
  bnd (ldE false 1 v35 H) fun v36 =>
  bnd (faV 1 x3) fun v37 =>
  bnd (ldE false 1 v37 H) fun v38 =>
  bnd (binV .int .add v38 (.int .i64 1)) fun v39 =>
  bnd (binV .int .gtr v36 v39) fun v40 =>
  S x0 x3 x5 x6 x7 v40 H
theorem z71_g56_e (S : Value → Value → Value → Value → Value → Value → Heap → Prop) (x : Nat → Value) (H : Heap) : wpE tab P z71_pi z71_c21 (nQ fun l H => S (l.getD 0 undef) (l.getD 3 undef) (l.getD 5 undef) (l.getD 6 undef) (l.getD 7 undef) (l.getD 31 undef) H) ((List.range 78).map x) H = z71_g56 S (x 0) (x 3) (x 5) (x 6) (x 7) H := by kernel_rfl
def z71_g57 (S : Value → Value → Value → Value → Value → Heap → Prop) (x0 x3 x5 x6 x7 : Value) (H : Heap) : Prop :=
  bnd (ixSV 2 x0 x7) fun v44 =>
  bnd (ldE true 2 v44 H) fun v45 =>
  bslE 45 #[(.int .i64 0), (.int .i64 0)] 2 1 [(0, v45)] H fun v46 H1 =>
  appE 45 #[(.int .i64 0), (.int .i64 0)] 2 16 x5 v46 H1 fun v47 H2 =>
  S x0 x3 v47 x6 x7 H2
theorem z71_g57_e (S : Value → Value → Value → Value → Value → Heap → Prop) (x : Nat → Value) (H : Heap) : wpE tab P z71_pi z71_c23 (nQ fun l H => S (l.getD 0 undef) (l.getD 3 undef) (l.getD 5 undef) (l.getD 6 undef) (l.getD 7 undef) H) ((List.range 78).map x) H = z71_g57 S (x 0) (x 3) (x 5) (x 6) (x 7) H := by kernel_rfl
def z71_g58 (S : Value → Value → Value → Value → Value → Value → Heap → Prop) (x0 x3 x5 x6 x7 : Value) (H : Heap) : Prop :=
  bnd (ixSV 2 x0 x7) fun v51 =>
  bnd (faV 1 v51) fun v52 =>
  bnd (ldE false 1 v52 H) fun v53 =>
  bnd (faV 0 x3) fun v54 =>
  bnd (ldE false 1 v54 H) fun v55 =>
  bnd (binV .int .sub v55 (.int .i64 1)) fun v56 =>
  bnd (binV .int .lss v53 v56) fun v57 =>
  S x0 x3 x5 x6 x7 v57 H
theorem z71_g58_e (S : Value → Value → Value → Value → Value → Value → Heap → Prop) (x : Nat → Value) (H : Heap) : wpE tab P z71_pi z71_c25 (nQ fun l H => S (l.getD 0 undef) (l.getD 3 undef) (l.getD 5 undef) (l.getD 6 undef) (l.getD 7 undef) (l.getD 48 undef) H) ((List.range 78).map x) H = z71_g58 S (x 0) (x 3) (x 5) (x 6) (x 7) H := by kernel_rfl
def z71_g60 (S : Value → Value → Value → Value → Value → Heap → Prop) (x0 x3 x5 x6 x7 : Value) (H : Heap) : Prop :=
  bnd (ixSV 2 x0 x7) fun v67 =>
  bnd (ldE true 2 v67 H) fun v68 =>
  bslE 45 #[(.int .i64 0), (.int .i64 0)] 2 1 [(0, v68)] H fun v69 H1 =>
  appE 45 #[(.int .i64 0), (.int .i64 0)] 2 16 x5 v69 H1 fun v70 H2 =>
  S x0 x3 v70 x6 x7 H2
theorem z71_g60_e (S : Value → Value → Value → Value → Value → Heap → Prop) (x : Nat → Value) (H : Heap) : wpE tab P z71_pi z71_c34 (nQ fun l H => S (l.getD 0 undef) (l.getD 3 undef) (l.getD 5 undef) (l.getD 6 undef) (l.getD 7 undef) H) ((List.range 78).map x) H = z71_g60 S (x 0) (x 3) (x 5) (x 6) (x 7) H := by kernel_rfl
def z71_s59 (x0 x3 x5 x6 x7 : Value) (K1 : Value → Value → Value → Value → Value →  Heap → Prop) (R : Value → Heap → Prop) (H : Heap) : Prop :=
  z71_g60 (fun x0 x3 x5 x6 x7 H => z71_s50 x0 x3 x5 x6 x7 K1 R H) x0 x3 x5 x6 x7 H
noncomputable def z71_q61 (K1 : Value → Value → Value → Value → Value →  Heap → Prop) (R : Value → Heap → Prop) : Exit → List Value → Heap → Prop := (thenE (fun l H => wpE tab P z71_pi z71_c36 (z71_q55 K1 R) l H) (z71_q55 K1 R))
noncomputable def z71_q62 (K1 : Value → Value → Value → Value → Value →  Heap → Prop) (R : Value → Heap → Prop) : Exit → List Value → Heap → Prop := (blkE 1 (z71_q61 K1 R))
noncomputable def z71_q63 (K1 : Value → Value → Value → Value → Value →  Heap → Prop) (R : Value → Heap → Prop) : Exit → List Value → Heap → Prop := (blkE 2 (z71_q62 K1 R))
theorem z71_s59_i (K1 : Value → Value → Value → Value → Value →  Heap → Prop) (R : Value → Heap → Prop) (l : List Value) (H : Heap) (hl : l.length = 78) (h : z71_s59 (l.getD 0 undef) (l.getD 3 undef) (l.getD 5 undef) (l.getD 6 undef) (l.getD 7 undef) K1 R H) : wpE tab P z71_pi z71_c34 (z71_q63 K1 R) l H := by
  refine regI hl (Eq.mpr (z71_g60_e _ (fun i => l.getD i undef) _) h) ?_
  clear h hl
  intro l H hl h
  refine blkN ?_
  refine blkN ?_
  refine thenN ?_
  exact z71_s50_i K1 R l H hl h
def z71_g64 (S : Value → Value → Value → Value → Value → Value → Heap → Prop) (x0 x3 x5 x6 x7 : Value) (H : Heap) : Prop :=
  bnd (unV .not x6) fun v59 =>
  S x0 x3 x5 x6 x7 v59 H
theorem z71_g64_e (S : Value → Value → Value → Value → Value → Value → Heap → Prop) (x : Nat → Value) (H : Heap) : wpE tab P z71_pi z71_c29 (nQ fun l H => S (l.getD 0 undef) (l.getD 3 undef) (l.getD 5 undef) (l.getD 6 undef) (l.getD 7 undef) (l.getD 59 undef) H) ((List.range 78).map x) H = z71_g64 S (x 0) (x 3) (x 5) (x 6) (x 7) H := by kernel_rfl
def z71_g65 (S : Value → Value → Value → Value → Heap → Prop) (x0 x3 x5 x7 : Value) (H : Heap) : Prop :=
  bnd (ldE true 2 x3 H) fun v61 =>
  bslE 45 #[(.int .i64 0), (.int .i64 0)] 2 1 [(0, v61)] H fun v62 H1 =>
  appE 45 #[(.int .i64 0), (.int .i64 0)] 2 16 x5 v62 H1 fun v63 H2 =>
  S x0 x3 v63 x7 H2
theorem z71_g65_e (S : Value → Value → Value → Value → Heap → Prop) (x : Nat → Value) (H : Heap) : wpE tab P z71_pi z71_c32 (nQ fun l H => S (l.getD 0 undef) (l.getD 3 undef) (l.getD 5 undef) (l.getD 7 undef) H) ((List.range 78).map x) H = z71_g65 S (x 0) (x 3) (x 5) (x 7) H := by kernel_rfl
def z71_g66 (S : Value → Value → Value → Value → Value → Heap → Prop) (x0 x3 x5 x7 : Value) (H : Heap) : Prop :=
  S x0 x3 x5 (.bool true) x7 H
theorem z71_g66_e (S : Value → Value → Value → Value → Value → Heap → Prop) (x : Nat → Value) (H : Heap) : wpE tab P z71_pi z71_c33 (nQ fun l H => S (l.getD 0 undef) (l.getD 3 undef) (l.getD 5 undef) (l.getD 6 undef) (l.getD 7 undef) H) ((List.range 78).map x) H = z71_g66 S (x 0) (x 3) (x 5) (x 7) H := by kernel_rfl
def z71_g67 (S : Value → Value → Value → Value → Value → Heap → Prop) (x0 x3 x5 x6 x7 : Value) (H : Heap) : Prop :=
  bnd (faV 0 x3) fun v14 =>
  bnd (ldE false 1 v14 H) fun v15 =>
  bnd (ixSV 2 x0 x7) fun v18 =>
  bnd (faV 0 v18) fun v19 =>
  bnd (ldE false 1 v19 H) fun v20 =>
  bnd (foldV min2V v15 [v20]) fun v21 =>
  bnd (faV 1 x3) fun v22 =>
  bnd (ldE false 1 v22 H) fun v23 =>
  bnd (ixSV 2 x0 x7) fun v26 =>
  bnd (faV 1 v26) fun v27 =>
  bnd (ldE false 1 v27 H) fun v28 =>
  bnd (foldV max2V v23 [v28]) fun v29 =>
  bnd (buildV #[(.int .i64 0), (.int .i64 0)] (places [(0, 1), (1, 1)]) [(0, v21), (1, v29)]) fun v30 =>
  bnd (stE 2 x3 v30 H) fun H1 =>
  S x0 x3 x5 x6 x7 H1
theorem z71_g67_e (S : Value → Value → Value → Value → Value → Heap → Prop) (x : Nat → Value) (H : Heap) : wpE tab P z71_pi z71_c35 (nQ fun l H => S (l.getD 0 undef) (l.getD 3 undef) (l.getD 5 undef) (l.getD 6 undef) (l.getD 7 undef) H) ((List.range 78).map x) H = z71_g67 S (x 0) (x 3) (x 5) (x 6) (x 7) H := by kernel_rfl
def z71_g69 (S : Value → Heap → Prop) (x5 : Value) (H : Heap) : Prop :=
  S x5 H
theorem z71_g69_e (S : Value → Heap → Prop) (x : Nat → Value) (H : Heap) : wpE tab P z71_pi z71_c43 (nQ fun l H => S (l.getD 4 undef) H) ((List.range 78).map x) H = z71_g69 S (x 5) H := by kernel_rfl
def z71_s68 (x5 : Value) (R : Value → Heap → Prop) (H : Heap) : Prop :=
  z71_g69 (fun x4 H => R x4 H) x5 H
theorem z71_s68_i (R : Value → Heap → Prop) (l : List Value) (H : Heap) (hl : l.length = 78) (h : z71_s68 (l.getD 5 undef) R H) : wpE tab P z71_pi z71_c42 (z71_q52 R) l H := by
  refine seqI (c := z71_c42) rfl ?_
  refine regI hl (Eq.mpr (z71_g69_e _ (fun i => l.getD i undef) _) h) ?_
  clear h hl
  intro l H hl h
  refine thenN ?_
  refine retI rfl ?_
  exact h
def z71_g70 (S : Value → Value → Value → Heap → Prop) (x3 x5 x6 : Value) (H : Heap) : Prop :=
  bnd (unV .not x6) fun v72 =>
  S x3 x5 v72 H
theorem z71_g70_e (S : Value → Value → Value → Heap → Prop) (x : Nat → Value) (H : Heap) : wpE tab P z71_pi z71_c39 (nQ fun l H => S (l.getD 3 undef) (l.getD 5 undef) (l.getD 72 undef) H) ((List.range 78).map x) H = z71_g70 S (x 3) (x 5) (x 6) H := by kernel_rfl
def z71_g71 (S : Value → Heap → Prop) (x3 x5 : Value) (H : Heap) : Prop :=
  bnd (ldE true 2 x3 H) fun v74 =>
  bslE 45 #[(.int .i64 0), (.int .i64 0)] 2 1 [(0, v74)] H fun v75 H1 =>
  appE 45 #[(.int .i64 0), (.int .i64 0)] 2 16 x5 v75 H1 fun v76 H2 =>
  S v76 H2
theorem z71_g71_e (S : Value → Heap → Prop) (x : Nat → Value) (H : Heap) : wpE tab P z71_pi z71_c41 (nQ fun l H => S (l.getD 5 undef) H) ((List.range 78).map x) H = z71_g71 S (x 3) (x 5) H := by kernel_rfl
def z71_s48 (x0 x3 x5 x6 x7 : Value) (K1 : Value → Value → Value → Value → Value →  Heap → Prop) (R : Value → Heap → Prop) (H : Heap) : Prop :=
  z71_g49 (fun x0 x3 x5 x6 x7 x11 H => brV x11
  (z71_g56 (fun x0 x3 x5 x6 x7 x31 H => brV x31
  (z71_g57 (fun x0 x3 x5 x6 x7 H => z71_s50 x0 x3 x5 x6 x7 K1 R H) x0 x3 x5 x6 x7 H)
  (z71_g58 (fun x0 x3 x5 x6 x7 x48 H => brV x48
  (z71_g64 (fun x0 x3 x5 x6 x7 x59 H => brV x59
  (z71_g65 (fun x0 x3 x5 x7 H => z71_g66 (fun x0 x3 x5 x6 x7 H => z71_s59 x0 x3 x5 x6 x7 K1 R H) x0 x3 x5 x7 H) x0 x3 x5 x7 H)
  (z71_s59 x0 x3 x5 x6 x7 K1 R H)) x0 x3 x5 x6 x7 H)
  (z71_g67 (fun x0 x3 x5 x6 x7 H => z71_s50 x0 x3 x5 x6 x7 K1 R H) x0 x3 x5 x6 x7 H)) x0 x3 x5 x6 x7 H)) x0 x3 x5 x6 x7 H)
  (z71_g70 (fun x3 x5 x72 H => brV x72
  (z71_g71 (fun x5 H => z71_s68 x5 R H) x3 x5 H)
  (z71_s68 x5 R H)) x3 x5 x6 H)) x0 x3 x5 x6 x7 H
theorem z71_s48_i (K1 : Value → Value → Value → Value → Value →  Heap → Prop) (R : Value → Heap → Prop) (l : List Value) (H : Heap) (hl : l.length = 78) (h : z71_s48 (l.getD 0 undef) (l.getD 3 undef) (l.getD 5 undef) (l.getD 6 undef) (l.getD 7 undef) K1 R H) : wpE tab P z71_pi z71_c12 (z71_q55 K1 R) l H := by
  refine seqI (c := z71_c12) rfl ?_
  refine seqI (c := z71_c13) rfl ?_
  refine regI hl (Eq.mpr (z71_g49_e _ (fun i => l.getD i undef) _) h) ?_
  clear h hl
  intro l H hl h
  refine thenN ?_
  refine condI (c := z71_c15) rfl h ?_ ?_
  · clear h; intro h
    refine skipI rfl ?_
    refine thenN ?_
    refine seqI (c := z71_c17) rfl ?_
    refine blockI (c := z71_c18) rfl ?_
    refine blockI (c := z71_c19) rfl ?_
    refine seqI (c := z71_c20) rfl ?_
    refine regI hl (Eq.mpr (z71_g56_e _ (fun i => l.getD i undef) _) h) ?_
    clear h hl
    intro l H hl h
    refine thenN ?_
    refine condI (c := z71_c22) rfl h ?_ ?_
    · clear h; intro h
      refine regI hl (Eq.mpr (z71_g57_e _ (fun i => l.getD i undef) _) h) ?_
      clear h hl
      intro l H hl h
      refine blkN ?_
      refine blkN ?_
      refine thenN ?_
      exact z71_s50_i K1 R l H hl h
    · clear h; intro h
      refine seqI (c := z71_c24) rfl ?_
      refine regI hl (Eq.mpr (z71_g58_e _ (fun i => l.getD i undef) _) h) ?_
      clear h hl
      intro l H hl h
      refine thenN ?_
      refine condI (c := z71_c26) rfl h ?_ ?_
      · clear h; intro h
        refine seqI (c := z71_c27) rfl ?_
        refine seqI (c := z71_c28) rfl ?_
        refine regI hl (Eq.mpr (z71_g64_e _ (fun i => l.getD i undef) _) h) ?_
        clear h hl
        intro l H hl h
        refine thenN ?_
        refine condI (c := z71_c30) rfl h ?_ ?_
        · clear h; intro h
          refine seqI (c := z71_c31) rfl ?_
          refine regI hl (Eq.mpr (z71_g65_e _ (fun i => l.getD i undef) _) h) ?_
          clear h hl
          intro l H hl h
          refine thenN ?_
          refine regI hl (Eq.mpr (z71_g66_e _ (fun i => l.getD i undef) _) h) ?_
          clear h hl
          intro l H hl h
          refine thenN ?_
          exact z71_s59_i K1 R l H hl h
        · clear h; intro h
          refine skipI rfl ?_
          refine thenN ?_
          exact z71_s59_i K1 R l H hl h
      · clear h; intro h
        refine regI hl (Eq.mpr (z71_g67_e _ (fun i => l.getD i undef) _) h) ?_
        clear h hl
        intro l H hl h
        refine blkN ?_
        refine blkN ?_
        refine thenN ?_
        exact z71_s50_i K1 R l H hl h
  · clear h; intro h
    refine exitI (c := z71_c16) rfl ?_
    refine thenX ?_
    refine thenX ?_
    refine blkX ?_
    refine thenN ?_
    refine seqI (c := z71_c37) rfl ?_
    refine seqI (c := z71_c38) rfl ?_
    refine regI hl (Eq.mpr (z71_g70_e _ (fun i => l.getD i undef) _) h) ?_
    clear h hl
    intro l H hl h
    refine thenN ?_
    refine condI (c := z71_c40) rfl h ?_ ?_
    · clear h; intro h
      refine regI hl (Eq.mpr (z71_g71_e _ (fun i => l.getD i undef) _) h) ?_
      clear h hl
      intro l H hl h
      refine thenN ?_
      exact z71_s68_i R l H hl h
    · clear h; intro h
      refine skipI rfl ?_
      refine thenN ?_
      exact z71_s68_i R l H hl h
def z71_l72 (x0 x3 x5 x6 x7 : Value) (R : Value → Heap → Prop) (H : Heap) : Prop :=
  ∃ (I : Value → Value → Value → Heap → Prop) (μ : Value → Value → Value → Heap → Nat), I x5 x6 x7 H ∧ ∀ (y5 : Value) (y6 : Value) (y7 : Value) (H : Heap), I y5 y6 y7 H → z71_s48 x0 x3 y5 y6 y7 (fun z0 z3 z5 z6 z7 H' => z0 = x0 ∧ z3 = x3 ∧ (I z5 z6 z7 H' ∧ μ z5 z6 z7 H' < μ y5 y6 y7 H)) R H
def sounderref04_added (x0 x1 : Value) (R : Value → Heap → Prop) (H : Heap) : Prop :=
  z71_g44 (fun x0 x3 H => z71_g45 (fun x0 x3 x5 H => z71_g46 (fun x0 x3 x5 x6 H => z71_g47 (fun x0 x3 x5 x6 x7 H => z71_l72 x0 x3 x5 x6 x7 R H) x0 x3 x5 x6 H) x0 x3 x5 H) x0 x3 H) x0 x1 H
theorem z71_i (R : Value → Heap → Prop) (x0 x1 : Value) (H : Heap) (h : sounderref04_added x0 x1 R H) : wpE tab P z71_pi z71_c1 (retQ tab z71_rs R) [x0, x1, undef, undef, undef, undef, undef, undef, undef, undef, undef, undef, undef, undef, undef, undef, undef, undef, undef, undef, undef, undef, undef, undef, undef, undef, undef, undef, undef, undef, undef, undef, undef, undef, undef, undef, undef, undef, undef, undef, undef, undef, undef, undef, undef, undef, undef, undef, undef, undef, undef, undef, undef, undef, undef, undef, undef, undef, undef, undef, undef, undef, undef, undef, undef, undef, undef, undef, undef, undef, undef, undef, undef, undef, undef, undef, undef, undef] H := by
  obtain ⟨l, hl, el⟩ : ∃ l : List Value, l.length = 78 ∧ l = [x0, x1, undef, undef, undef, undef, undef, undef, undef, undef, undef, undef, undef, undef, undef, undef, undef, undef, undef, undef, undef, undef, undef, undef, undef, undef, undef, undef, undef, undef, undef, undef, undef, undef, undef, undef, undef, undef, undef, undef, undef, undef, undef, undef, undef, undef, undef, undef, undef, undef, undef, undef, undef, undef, undef, undef, undef, undef, undef, undef, undef, undef, undef, undef, undef, undef, undef, undef, undef, undef, undef, undef, undef, undef, undef, undef, undef, undef] := ⟨_, rfl, rfl⟩
  rw [← el]
  have h : (fun (x0 x1 : Value) => z71_g44 (fun x0 x3 H => z71_g45 (fun x0 x3 x5 H => z71_g46 (fun x0 x3 x5 x6 H => z71_g47 (fun x0 x3 x5 x6 x7 H => z71_l72 x0 x3 x5 x6 x7 R H) x0 x3 x5 x6 H) x0 x3 x5 H) x0 x3 H) x0 x1 H) (l.getD 0 undef) (l.getD 1 undef) := by rw [el]; exact h
  clear el
  refine seqI (c := z71_c1) rfl ?_
  refine regI hl (Eq.mpr (z71_g44_e _ (fun i => l.getD i undef) _) h) ?_
  clear h hl
  intro l H hl h
  refine thenN ?_
  refine seqI (c := z71_c3) rfl ?_
  refine regI hl (Eq.mpr (z71_g45_e _ (fun i => l.getD i undef) _) h) ?_
  clear h hl
  intro l H hl h
  refine thenN ?_
  refine seqI (c := z71_c5) rfl ?_
  refine regI hl (Eq.mpr (z71_g46_e _ (fun i => l.getD i undef) _) h) ?_
  clear h hl
  intro l H hl h
  refine thenN ?_
  refine seqI (c := z71_c7) rfl ?_
  refine seqI (c := z71_c8) rfl ?_
  refine regI hl (Eq.mpr (z71_g47_e _ (fun i => l.getD i undef) _) h) ?_
  clear h hl
  intro l H hl h
  refine thenN ?_
  refine blockI (c := z71_c10) rfl ?_
  obtain ⟨I, μ, h0, hr⟩ := h
  refine loopI (c := z71_c11) rfl (fun l' H' => l'.getD 0 undef = l.getD 0 undef ∧ l'.getD 3 undef = l.getD 3 undef ∧ I (l'.getD 5 undef) (l'.getD 6 undef) (l'.getD 7 undef) H') (fun l' H' => μ (l'.getD 5 undef) (l'.getD 6 undef) (l'.getD 7 undef) H') hl ⟨rfl, rfl, h0⟩ ?_
  rintro l1 H1 hl1 ⟨e0, e3, hI⟩
  have hb := hr (l1.getD 5 undef) (l1.getD 6 undef) (l1.getD 7 undef) H1 hI
  rw [← e0, ← e3] at hb
  refine wpE_mono _ l1 H1 hl1 ?_ (z71_s48_i _ R l1 H1 hl1 hb)
  intro e l2 H2 hl2 hq
  cases e with
  | normal => exact fun _ => (by obtain ⟨d0, d3, g1, g2⟩ := hq; exact ⟨⟨d0.trans e0, d3.trans e3, g1⟩, g2⟩)
  | _ => exact hq
theorem z71_ok : okB z71_pi z71_c1 = true := by kernel_rfl
theorem z71_ev0 (x0 x1 : Value) (R : Value → Heap → Prop) (H : Heap) (h : sounderref04_added x0 x1 R H) : EvL P N.sounderref04_added #[x0, x1] H R :=
  EvF_intro (args := [x0, x1]) (k := 76) (rs := z71_rs) tab_ok mixed Try.func71 (show Try.f71.body = some z71_c1 by kernel_rfl) Try.call71 Try.ntmps71 (by kernel_rfl) (okCode_of _ z71_ok) rfl (z71_i R x0 x1 H h)
theorem z71_ev (x0 x1 : Value) (R : Value → Heap → Prop) (H : Heap) (h : sounderref04_added x0 x1 R H) : EvF P N.sounderref04_added #[x0, x1] H R := .inl (z71_ev0 x0 x1 R H h)
/- 72: sounder/sounderref09.time -/
def z72_rs : List ResultVar := [.tmp 2]
noncomputable def z72_c2 : Code := subC (bodyC Try.f72) [0]
noncomputable def z72_c4 : Code := subC (bodyC Try.f72) [1, 0]
noncomputable def z72_c3 : Code := .seq z72_c4 Code.ret
noncomputable def z72_c1 : Code := .seq z72_c2 z72_c3
def z72_pi (_ : Nat) : Pl := .nil
def z72_g5 (S : Value → Heap → Prop) (x0 : Value) (H : Heap) : Prop :=
  S x0 H
theorem z72_g5_e (S : Value → Heap → Prop) (x : Nat → Value) (H : Heap) : wpE tab P z72_pi z72_c2 (nQ fun l H => S (l.getD 0 undef) H) ((List.range 9).map x) H = z72_g5 S (x 0) H := by kernel_rfl
def z72_g6 (S : Value → Heap → Prop) (x0 : Value) (H : Heap) : Prop :=
  bnd (binV .int .geq x0 (.int .i64 0)) fun v4 =>
  brV v4
  (bnd (binV .int .leq x0 (.int .i64 9007199254740991)) fun v7 =>
  S v7 H)
  (S (.bool false) H)
theorem z72_g6_e (S : Value → Heap → Prop) (x : Nat → Value) (H : Heap) : wpE tab P z72_pi z72_c4 (nQ fun l H => S (l.getD 2 undef) H) ((List.range 9).map x) H = z72_g6 S (x 0) H := by kernel_rfl
def sounderref09_time (x0 : Value) (R : Value → Heap → Prop) (H : Heap) : Prop :=
  z72_g5 (fun x0 H => z72_g6 (fun x2 H => R x2 H) x0 H) x0 H
theorem z72_i (R : Value → Heap → Prop) (x0 : Value) (H : Heap) (h : sounderref09_time x0 R H) : wpE tab P z72_pi z72_c1 (retQ tab z72_rs R) [x0, undef, undef, undef, undef, undef, undef, undef, undef] H := by
  obtain ⟨l, hl, el⟩ : ∃ l : List Value, l.length = 9 ∧ l = [x0, undef, undef, undef, undef, undef, undef, undef, undef] := ⟨_, rfl, rfl⟩
  rw [← el]
  have h : (fun (x0 : Value) => z72_g5 (fun x0 H => z72_g6 (fun x2 H => R x2 H) x0 H) x0 H) (l.getD 0 undef) := by rw [el]; exact h
  clear el
  refine seqI (c := z72_c1) rfl ?_
  refine regI hl (Eq.mpr (z72_g5_e _ (fun i => l.getD i undef) _) h) ?_
  clear h hl
  intro l H hl h
  refine thenN ?_
  refine seqI (c := z72_c3) rfl ?_
  refine regI hl (Eq.mpr (z72_g6_e _ (fun i => l.getD i undef) _) h) ?_
  clear h hl
  intro l H hl h
  refine thenN ?_
  refine retI rfl ?_
  exact h
theorem z72_ok : okB z72_pi z72_c1 = true := by kernel_rfl
theorem z72_ev0 (x0 : Value) (R : Value → Heap → Prop) (H : Heap) (h : sounderref09_time x0 R H) : EvL P N.sounderref09_time #[x0] H R :=
  EvF_intro (args := [x0]) (k := 8) (rs := z72_rs) tab_ok mixed Try.func72 (show Try.f72.body = some z72_c1 by kernel_rfl) Try.call72 Try.ntmps72 (by kernel_rfl) (okCode_of _ z72_ok) rfl (z72_i R x0 H h)
theorem z72_ev (x0 : Value) (R : Value → Heap → Prop) (H : Heap) (h : sounderref09_time x0 R H) : EvF P N.sounderref09_time #[x0] H R := .inl (z72_ev0 x0 R H h)
/- 73: sounder/sounderref10.between -/
def z73_rs : List ResultVar := [.tmp 6]
noncomputable def z73_c2 : Code := subC (bodyC Try.f73) [0]
noncomputable def z73_c5 : Code := subC (bodyC Try.f73) [1, 0, 0]
noncomputable def z73_c8 : Code := subC (bodyC Try.f73) [1, 0, 1, 0, 0]
noncomputable def z73_c7 : Code := .seq z73_c8 Code.ret
noncomputable def z73_c6 : Code := .cond (.tmp 9) z73_c7 Code.skip
noncomputable def z73_c4 : Code := .seq z73_c5 z73_c6
noncomputable def z73_c11 : Code := subC (bodyC Try.f73) [1, 1, 0, 0]
noncomputable def z73_c16 : Code := subC (bodyC Try.f73) [1, 1, 0, 1, 0, 0, 0, 0]
noncomputable def z73_c18 : Code := .exit 0
noncomputable def z73_c17 : Code := .cond (.tmp 16) Code.skip z73_c18
noncomputable def z73_c15 : Code := .seq z73_c16 z73_c17
noncomputable def z73_c22 : Code := subC (bodyC Try.f73) [1, 1, 0, 1, 0, 0, 1, 0, 0, 0]
noncomputable def z73_c25 : Code := subC (bodyC Try.f73) [1, 1, 0, 1, 0, 0, 1, 0, 0, 1, 0, 0]
noncomputable def z73_c24 : Code := .seq z73_c25 Code.ret
noncomputable def z73_c23 : Code := .cond (.tmp 41) z73_c24 Code.skip
noncomputable def z73_c21 : Code := .seq z73_c22 z73_c23
noncomputable def z73_c20 : Code := .block 1 z73_c21
noncomputable def z73_c26 : Code := subC (bodyC Try.f73) [1, 1, 0, 1, 0, 0, 1, 1]
noncomputable def z73_c19 : Code := .seq z73_c20 z73_c26
noncomputable def z73_c14 : Code := .seq z73_c15 z73_c19
noncomputable def z73_c13 : Code := .loop z73_c14
noncomputable def z73_c12 : Code := .block 0 z73_c13
noncomputable def z73_c10 : Code := .seq z73_c11 z73_c12
noncomputable def z73_c28 : Code := subC (bodyC Try.f73) [1, 1, 1, 0]
noncomputable def z73_c27 : Code := .seq z73_c28 Code.ret
noncomputable def z73_c9 : Code := .seq z73_c10 z73_c27
noncomputable def z73_c3 : Code := .seq z73_c4 z73_c9
noncomputable def z73_c1 : Code := .seq z73_c2 z73_c3
def z73_pi (i : Nat) : Pl := match i with
  | 6 => (ones [0, 1, 2, 3, 4, 5, 6, 7, 8, 9, 10, 11, 12, 13, 14, 15, 16, 17, 18, 19, 20, 21, 22] .nil)
  | _ => .nil
def z73_g29 (S : Value → Value → Value → Heap → Prop) (x0 x1 x2 : Value) (H : Heap) : Prop :=
  S x0 x1 x2 H
theorem z73_g29_e (S : Value → Value → Value → Heap → Prop) (x : Nat → Value) (H : Heap) : wpE tab P z73_pi z73_c2 (nQ fun l H => S (l.getD 0 undef) (l.getD 1 undef) (l.getD 2 undef) H) ((List.range 42).map x) H = z73_g29 S (x 0) (x 1) (x 2) H := by kernel_rfl
def z73_g30 (S : Value → Value → Value → Value → Heap → Prop) (x0 x1 x2 : Value) (H : Heap) : Prop :=
  bnd (binV .ptr .eql x0 (.pointer none)) fun v9 =>
  S x0 x1 x2 v9 H
theorem z73_g30_e (S : Value → Value → Value → Value → Heap → Prop) (x : Nat → Value) (H : Heap) : wpE tab P z73_pi z73_c5 (nQ fun l H => S (l.getD 0 undef) (l.getD 1 undef) (l.getD 2 undef) (l.getD 9 undef) H) ((List.range 42).map x) H = z73_g30 S (x 0) (x 1) (x 2) H := by kernel_rfl
def z73_g31 (S : Value → Heap → Prop) (H : Heap) : Prop :=
  S (.bool false) H
theorem z73_g31_e (S : Value → Heap → Prop) (x : Nat → Value) (H : Heap) : wpE tab P z73_pi z73_c8 (nQ fun l H => S (l.getD 6 undef) H) ((List.range 42).map x) H = z73_g31 S  H := by kernel_rfl
def z73_g32 (S : Value → Value → Value → Value → Heap → Prop) (x0 x1 x2 : Value) (H : Heap) : Prop :=
  S x0 x1 x2 (.int .i64 0) H
theorem z73_g32_e (S : Value → Value → Value → Value → Heap → Prop) (x : Nat → Value) (H : Heap) : wpE tab P z73_pi z73_c11 (nQ fun l H => S (l.getD 0 undef) (l.getD 1 undef) (l.getD 2 undef) (l.getD 7 undef) H) ((List.range 42).map x) H = z73_g32 S (x 0) (x 1) (x 2) H := by kernel_rfl
def z73_g34 (S : Value → Value → Value → Value → Value → Heap → Prop) (x0 x1 x2 x7 : Value) (H : Heap) : Prop :=
  bnd (nilV x0) fun v12 =>
  bnd (faV 1 v12) fun v13 =>
  bnd (ldE false 1 v13 H) fun v14 =>
  bnd (lenV v14) fun v15 =>
  bnd (binV .int .lss x7 v15) fun v16 =>
  S x0 x1 x2 x7 v16 H
theorem z73_g34_e (S : Value → Value → Value → Value → Value → Heap → Prop) (x : Nat → Value) (H : Heap) : wpE tab P z73_pi z73_c16 (nQ fun l H => S (l.getD 0 undef) (l.getD 1 undef) (l.getD 2 undef) (l.getD 7 undef) (l.getD 16 undef) H) ((List.range 42).map x) H = z73_g34 S (x 0) (x 1) (x 2) (x 7) H := by kernel_rfl
def z73_g35 (S : Value → Value → Value → Value → Value → Heap → Prop) (x0 x1 x2 x7 : Value) (H : Heap) : Prop :=
  bnd (nilV x0) fun v20 =>
  bnd (faV 1 v20) fun v21 =>
  bnd (ldE false 1 v21 H) fun v22 =>
  bnd (ixSV 2 v22 x7) fun v24 =>
  bnd (faV 0 v24) fun v25 =>
  bnd (ldE false 1 v25 H) fun v26 =>
  bnd (binV .int .add x1 (.int .i64 1)) fun v28 =>
  bnd (foldV max2V v26 [v28]) fun v29 =>
  bnd (nilV x0) fun v31 =>
  bnd (faV 1 v31) fun v32 =>
  bnd (ldE false 1 v32 H) fun v33 =>
  bnd (ixSV 2 v33 x7) fun v35 =>
  bnd (faV 1 v35) fun v36 =>
  bnd (ldE false 1 v36 H) fun v37 =>
  bnd (binV .int .sub x2 (.int .i64 1)) fun v39 =>
  bnd (foldV min2V v37 [v39]) fun v40 =>
  bnd (binV .int .leq v29 v40) fun v41 =>
  S x0 x1 x2 x7 v41 H
theorem z73_g35_e (S : Value → Value → Value → Value → Value → Heap → Prop) (x : Nat → Value) (H : Heap) : wpE tab P z73_pi z73_c22 (nQ fun l H => S (l.getD 0 undef) (l.getD 1 undef) (l.getD 2 undef) (l.getD 7 undef) (l.getD 41 undef) H) ((List.range 42).map x) H = z73_g35 S (x 0) (x 1) (x 2) (x 7) H := by kernel_rfl
def z73_g36 (S : Value → Heap → Prop) (H : Heap) : Prop :=
  S (.bool true) H
theorem z73_g36_e (S : Value → Heap → Prop) (x : Nat → Value) (H : Heap) : wpE tab P z73_pi z73_c25 (nQ fun l H => S (l.getD 6 undef) H) ((List.range 42).map x) H = z73_g36 S  H := by kernel_rfl
def z73_g37 (S : Value → Value → Value → Value → Heap → Prop) (x0 x1 x2 x7 : Value) (H : Heap) : Prop :=
  bnd (binV .int .add x7 (.int .i64 1)) fun v18 =>
  S x0 x1 x2 v18 H
theorem z73_g37_e (S : Value → Value → Value → Value → Heap → Prop) (x : Nat → Value) (H : Heap) : wpE tab P z73_pi z73_c26 (nQ fun l H => S (l.getD 0 undef) (l.getD 1 undef) (l.getD 2 undef) (l.getD 7 undef) H) ((List.range 42).map x) H = z73_g37 S (x 0) (x 1) (x 2) (x 7) H := by kernel_rfl
def z73_g38 (S : Value → Heap → Prop) (H : Heap) : Prop :=
  S (.bool false) H
theorem z73_g38_e (S : Value → Heap → Prop) (x : Nat → Value) (H : Heap) : wpE tab P z73_pi z73_c28 (nQ fun l H => S (l.getD 6 undef) H) ((List.range 42).map x) H = z73_g38 S  H := by kernel_rfl
def z73_s33 (x0 x1 x2 x7 : Value) (K1 : Value → Value → Value → Value →  Heap → Prop) (R : Value → Heap → Prop) (H : Heap) : Prop :=
  z73_g34 (fun x0 x1 x2 x7 x16 H => brV x16
  (z73_g35 (fun x0 x1 x2 x7 x41 H => brV x41
  (z73_g36 (fun x6 H => R x6 H) H)
  (z73_g37 (fun x0 x1 x2 x7 H => K1 x0 x1 x2 x7 H) x0 x1 x2 x7 H)) x0 x1 x2 x7 H)
  (z73_g38 (fun x6 H => R x6 H) H)) x0 x1 x2 x7 H
noncomputable def z73_q39 (R : Value → Heap → Prop) : Exit → List Value → Heap → Prop := (retQ tab z73_rs R)
noncomputable def z73_q40 (R : Value → Heap → Prop) : Exit → List Value → Heap → Prop := (thenE (fun l H => wpE tab P z73_pi z73_c27 (z73_q39 R) l H) (z73_q39 R))
noncomputable def z73_q41 (R : Value → Heap → Prop) : Exit → List Value → Heap → Prop := (blkE 0 (z73_q40 R))
noncomputable def z73_q42 (K1 : Value → Value → Value → Value →  Heap → Prop) (R : Value → Heap → Prop) : Exit → List Value → Heap → Prop := (thenE (fun l H => K1 (l.getD 0 undef) (l.getD 1 undef) (l.getD 2 undef) (l.getD 7 undef) H) (z73_q41 R))
theorem z73_s33_i (K1 : Value → Value → Value → Value →  Heap → Prop) (R : Value → Heap → Prop) (l : List Value) (H : Heap) (hl : l.length = 42) (h : z73_s33 (l.getD 0 undef) (l.getD 1 undef) (l.getD 2 undef) (l.getD 7 undef) K1 R H) : wpE tab P z73_pi z73_c14 (z73_q42 K1 R) l H := by
  refine seqI (c := z73_c14) rfl ?_
  refine seqI (c := z73_c15) rfl ?_
  refine regI hl (Eq.mpr (z73_g34_e _ (fun i => l.getD i undef) _) h) ?_
  clear h hl
  intro l H hl h
  refine thenN ?_
  refine condI (c := z73_c17) rfl h ?_ ?_
  · clear h; intro h
    refine skipI rfl ?_
    refine thenN ?_
    refine seqI (c := z73_c19) rfl ?_
    refine blockI (c := z73_c20) rfl ?_
    refine seqI (c := z73_c21) rfl ?_
    refine regI hl (Eq.mpr (z73_g35_e _ (fun i => l.getD i undef) _) h) ?_
    clear h hl
    intro l H hl h
    refine thenN ?_
    refine condI (c := z73_c23) rfl h ?_ ?_
    · clear h; intro h
      refine seqI (c := z73_c24) rfl ?_
      refine regI hl (Eq.mpr (z73_g36_e _ (fun i => l.getD i undef) _) h) ?_
      clear h hl
      intro l H hl h
      refine thenN ?_
      refine retI rfl ?_
      refine blkR ?_
      refine thenR ?_
      refine thenR ?_
      refine blkR ?_
      refine thenR ?_
      exact h
    · clear h; intro h
      refine skipI rfl ?_
      refine blkN ?_
      refine thenN ?_
      refine regI hl (Eq.mpr (z73_g37_e _ (fun i => l.getD i undef) _) h) ?_
      clear h hl
      intro l H hl h
      refine thenN ?_
      exact h
  · clear h; intro h
    refine exitI (c := z73_c18) rfl ?_
    refine thenX ?_
    refine thenX ?_
    refine blkX ?_
    refine thenN ?_
    refine seqI (c := z73_c27) rfl ?_
    refine regI hl (Eq.mpr (z73_g38_e _ (fun i => l.getD i undef) _) h) ?_
    clear h hl
    intro l H hl h
    refine thenN ?_
    refine retI rfl ?_
    exact h
def z73_l43 (x0 x1 x2 x7 : Value) (R : Value → Heap → Prop) (H : Heap) : Prop :=
  ∃ (I : Value → Heap → Prop) (μ : Value → Heap → Nat), I x7 H ∧ ∀ (y7 : Value) (H : Heap), I y7 H → z73_s33 x0 x1 x2 y7 (fun z0 z1 z2 z7 H' => z0 = x0 ∧ z1 = x1 ∧ z2 = x2 ∧ (I z7 H' ∧ μ z7 H' < μ y7 H)) R H
def sounderref10_between (x0 x1 x2 : Value) (R : Value → Heap → Prop) (H : Heap) : Prop :=
  z73_g29 (fun x0 x1 x2 H => z73_g30 (fun x0 x1 x2 x9 H => brV x9
  (z73_g31 (fun x6 H => R x6 H) H)
  (z73_g32 (fun x0 x1 x2 x7 H => z73_l43 x0 x1 x2 x7 R H) x0 x1 x2 H)) x0 x1 x2 H) x0 x1 x2 H
theorem z73_i (R : Value → Heap → Prop) (x0 x1 x2 : Value) (H : Heap) (h : sounderref10_between x0 x1 x2 R H) : wpE tab P z73_pi z73_c1 (retQ tab z73_rs R) [x0, x1, x2, undef, undef, undef, undef, undef, undef, undef, undef, undef, undef, undef, undef, undef, undef, undef, undef, undef, undef, undef, undef, undef, undef, undef, undef, undef, undef, undef, undef, undef, undef, undef, undef, undef, undef, undef, undef, undef, undef, undef] H := by
  obtain ⟨l, hl, el⟩ : ∃ l : List Value, l.length = 42 ∧ l = [x0, x1, x2, undef, undef, undef, undef, undef, undef, undef, undef, undef, undef, undef, undef, undef, undef, undef, undef, undef, undef, undef, undef, undef, undef, undef, undef, undef, undef, undef, undef, undef, undef, undef, undef, undef, undef, undef, undef, undef, undef, undef] := ⟨_, rfl, rfl⟩
  rw [← el]
  have h : (fun (x0 x1 x2 : Value) => z73_g29 (fun x0 x1 x2 H => z73_g30 (fun x0 x1 x2 x9 H => brV x9
(z73_g31 (fun x6 H => R x6 H) H)
(z73_g32 (fun x0 x1 x2 x7 H => z73_l43 x0 x1 x2 x7 R H) x0 x1 x2 H)) x0 x1 x2 H) x0 x1 x2 H) (l.getD 0 undef) (l.getD 1 undef) (l.getD 2 undef) := by rw [el]; exact h
  clear el
  refine seqI (c := z73_c1) rfl ?_
  refine regI hl (Eq.mpr (z73_g29_e _ (fun i => l.getD i undef) _) h) ?_
  clear h hl
  intro l H hl h
  refine thenN ?_
  refine seqI (c := z73_c3) rfl ?_
  refine seqI (c := z73_c4) rfl ?_
  refine regI hl (Eq.mpr (z73_g30_e _ (fun i => l.getD i undef) _) h) ?_
  clear h hl
  intro l H hl h
  refine thenN ?_
  refine condI (c := z73_c6) rfl h ?_ ?_
  · clear h; intro h
    refine seqI (c := z73_c7) rfl ?_
    refine regI hl (Eq.mpr (z73_g31_e _ (fun i => l.getD i undef) _) h) ?_
    clear h hl
    intro l H hl h
    refine thenN ?_
    refine retI rfl ?_
    refine thenR ?_
    exact h
  · clear h; intro h
    refine skipI rfl ?_
    refine thenN ?_
    refine seqI (c := z73_c9) rfl ?_
    refine seqI (c := z73_c10) rfl ?_
    refine regI hl (Eq.mpr (z73_g32_e _ (fun i => l.getD i undef) _) h) ?_
    clear h hl
    intro l H hl h
    refine thenN ?_
    refine blockI (c := z73_c12) rfl ?_
    obtain ⟨I, μ, h0, hr⟩ := h
    refine loopI (c := z73_c13) rfl (fun l' H' => l'.getD 0 undef = l.getD 0 undef ∧ l'.getD 1 undef = l.getD 1 undef ∧ l'.getD 2 undef = l.getD 2 undef ∧ I (l'.getD 7 undef) H') (fun l' H' => μ (l'.getD 7 undef) H') hl ⟨rfl, rfl, rfl, h0⟩ ?_
    rintro l1 H1 hl1 ⟨e0, e1, e2, hI⟩
    have hb := hr (l1.getD 7 undef) H1 hI
    rw [← e0, ← e1, ← e2] at hb
    refine wpE_mono _ l1 H1 hl1 ?_ (z73_s33_i _ R l1 H1 hl1 hb)
    intro e l2 H2 hl2 hq
    cases e with
    | normal => exact fun _ => (by obtain ⟨d0, d1, d2, g1, g2⟩ := hq; exact ⟨⟨d0.trans e0, d1.trans e1, d2.trans e2, g1⟩, g2⟩)
    | _ => exact hq
theorem z73_ok : okB z73_pi z73_c1 = true := by kernel_rfl
theorem z73_ev0 (x0 x1 x2 : Value) (R : Value → Heap → Prop) (H : Heap) (h : sounderref10_between x0 x1 x2 R H) : EvL P N.sounderref10_between #[x0, x1, x2] H R :=
  EvF_intro (args := [x0, x1, x2]) (k := 39) (rs := z73_rs) tab_ok mixed Try.func73 (show Try.f73.body = some z73_c1 by kernel_rfl) Try.call73 Try.ntmps73 (by kernel_rfl) (okCode_of _ z73_ok) rfl (z73_i R x0 x1 x2 H h)
theorem z73_ev (x0 x1 x2 : Value) (R : Value → Heap → Prop) (H : Heap) (h : sounderref10_between x0 x1 x2 R H) : EvF P N.sounderref10_between #[x0, x1, x2] H R := .inl (z73_ev0 x0 x1 x2 R H h)
end Go.Hc
