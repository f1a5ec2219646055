/- Functions, printed by gen.py. -/
import Derived.Test.YtbchcnmghcmaoaaT
set_option linter.unusedSimpArgs false
set_option linter.unusedVariables false
set_option maxRecDepth 100000
namespace Go.Hc
open Go Go.Proofs
/- 5: sounder/sounderlaw10.PersistKnown -/
def z5_rs : List ResultVar := [.tmp 0]
noncomputable def z5_c2 : Code := subC (bodyC Try.f5) [0]
noncomputable def z5_c4 : Code := subC (bodyC Try.f5) [1, 0]
noncomputable def z5_c7 : Code := subC (bodyC Try.f5) [1, 1, 0, 0]
noncomputable def z5_c12 : Code := subC (bodyC Try.f5) [1, 1, 0, 1, 0, 0, 0, 0]
noncomputable def z5_c14 : Code := .exit 0
noncomputable def z5_c13 : Code := .cond (.tmp 14) Code.skip z5_c14
noncomputable def z5_c11 : Code := .seq z5_c12 z5_c13
noncomputable def z5_c18 : Code := subC (bodyC Try.f5) [1, 1, 0, 1, 0, 0, 1, 0, 0, 0]
noncomputable def z5_c20 : Code := subC (bodyC Try.f5) [1, 1, 0, 1, 0, 0, 1, 0, 0, 1, 0]
noncomputable def z5_c25 : Code := subC (bodyC Try.f5) [1, 1, 0, 1, 0, 0, 1, 0, 0, 1, 1, 0, 0, 0, 0]
noncomputable def z5_c27 : Code := .exit 2
noncomputable def z5_c26 : Code := .cond (.tmp 25) Code.skip z5_c27
noncomputable def z5_c24 : Code := .seq z5_c25 z5_c26
noncomputable def z5_c31 : Code := subC (bodyC Try.f5) [1, 1, 0, 1, 0, 0, 1, 0, 0, 1, 1, 0, 0, 1, 0, 0, 0]
noncomputable def z5_c33 : Code := subC (bodyC Try.f5) [1, 1, 0, 1, 0, 0, 1, 0, 0, 1, 1, 0, 0, 1, 0, 0, 1, 0]
noncomputable def z5_c35 : Code := subC (bodyC Try.f5) [1, 1, 0, 1, 0, 0, 1, 0, 0, 1, 1, 0, 0, 1, 0, 0, 1, 1, 0]
noncomputable def z5_c37 : Code := subC (bodyC Try.f5) [1, 1, 0, 1, 0, 0, 1, 0, 0, 1, 1, 0, 0, 1, 0, 0, 1, 1, 1, 0]
noncomputable def z5_c39 : Code := subC (bodyC Try.f5) [1, 1, 0, 1, 0, 0, 1, 0, 0, 1, 1, 0, 0, 1, 0, 0, 1, 1, 1, 1, 0]
noncomputable def z5_c41 : Code := subC (bodyC Try.f5) [1, 1, 0, 1, 0, 0, 1, 0, 0, 1, 1, 0, 0, 1, 0, 0, 1, 1, 1, 1, 1, 0]
noncomputable def z5_c44 : Code := subC (bodyC Try.f5) [1, 1, 0, 1, 0, 0, 1, 0, 0, 1, 1, 0, 0, 1, 0, 0, 1, 1, 1, 1, 1, 1, 0, 0]
noncomputable def z5_c43 : Code := .seq z5_c44 Code.ret
noncomputable def z5_c42 : Code := .cond (.tmp 80) z5_c43 Code.skip
noncomputable def z5_c40 : Code := .seq z5_c41 z5_c42
noncomputable def z5_c38 : Code := .seq z5_c39 z5_c40
noncomputable def z5_c36 : Code := .seq z5_c37 z5_c38
noncomputable def z5_c34 : Code := .seq z5_c35 z5_c36
noncomputable def z5_c32 : Code := .seq z5_c33 z5_c34
noncomputable def z5_c30 : Code := .seq z5_c31 z5_c32
noncomputable def z5_c29 : Code := .block 3 z5_c30
noncomputable def z5_c45 : Code := subC (bodyC Try.f5) [1, 1, 0, 1, 0, 0, 1, 0, 0, 1, 1, 0, 0, 1, 1]
noncomputable def z5_c28 : Code := .seq z5_c29 z5_c45
noncomputable def z5_c23 : Code := .seq z5_c24 z5_c28
noncomputable def z5_c22 : Code := .loop z5_c23
noncomputable def z5_c21 : Code := .block 2 z5_c22
noncomputable def z5_c19 : Code := .seq z5_c20 z5_c21
noncomputable def z5_c17 : Code := .seq z5_c18 z5_c19
noncomputable def z5_c16 : Code := .block 1 z5_c17
noncomputable def z5_c46 : Code := subC (bodyC Try.f5) [1, 1, 0, 1, 0, 0, 1, 1]
noncomputable def z5_c15 : Code := .seq z5_c16 z5_c46
noncomputable def z5_c10 : Code := .seq z5_c11 z5_c15
noncomputable def z5_c9 : Code := .loop z5_c10
noncomputable def z5_c8 : Code := .block 0 z5_c9
noncomputable def z5_c6 : Code := .seq z5_c7 z5_c8
noncomputable def z5_c48 : Code := subC (bodyC Try.f5) [1, 1, 1, 0]
noncomputable def z5_c50 : Code := subC (bodyC Try.f5) [1, 1, 1, 1, 0]
noncomputable def z5_c52 : Code := subC (bodyC Try.f5) [1, 1, 1, 1, 1, 0]
noncomputable def z5_c54 : Code := subC (bodyC Try.f5) [1, 1, 1, 1, 1, 1, 0]
noncomputable def z5_c53 : Code := .seq z5_c54 Code.ret
noncomputable def z5_c51 : Code := .seq z5_c52 z5_c53
noncomputable def z5_c49 : Code := .seq z5_c50 z5_c51
noncomputable def z5_c47 : Code := .seq z5_c48 z5_c49
noncomputable def z5_c5 : Code := .seq z5_c6 z5_c47
noncomputable def z5_c3 : Code := .seq z5_c4 z5_c5
noncomputable def z5_c1 : Code := .seq z5_c2 z5_c3
def z5_pi (i : Nat) : Pl := match i with
  | 14 => (ones [0, 1, 3, 2, 4, 5, 6, 7, 8, 9, 10, 11, 12, 14, 15, 16, 17, 18, 19, 20, 21, 22, 24] (.two 13 (ones [23, 25, 26, 27] .nil) 23 (ones [13, 25, 26, 27] .nil)))
  | 19 => (ones [0, 1, 2, 3, 4, 5, 6, 7, 8, 9, 10, 11, 12, 13, 14, 18, 15, 16, 17, 19, 20, 21, 22] .nil)
  | _ => .nil
def z5_g55 (S : Heap → Prop) (H : Heap) : Prop :=
  S H
theorem z5_g55_e (S : Heap → Prop) (x : Nat → Value) (H : Heap) : wpE tab P z5_pi z5_c2 (nQ fun _ H => S  H) ((List.range 121).map x) H = z5_g55 S  H := by kernel_rfl
def z5_g56 (S : Value → Heap → Prop) (H : Heap) : Prop :=
  bslE 3 #[(.int .i64 0)] 1 8 [(0, (.int .i64 (-9223372036854775808))), (1, (.int .i64 (-1))), (2, (.int .i64 0)), (3, (.int .i64 1)), (4, (.int .i64 10)), (5, (.int .i64 9007199254740991)), (6, (.int .i64 9007199254740992)), (7, (.int .i64 9223372036854775807))] H fun v10 H1 =>
  S v10 H1
theorem z5_g56_e (S : Value → Heap → Prop) (x : Nat → Value) (H : Heap) : wpE tab P z5_pi z5_c4 (nQ fun l H => S (l.getD 1 undef) H) ((List.range 121).map x) H = z5_g56 S  H := by kernel_rfl
def z5_g57 (S : Value → Value → Heap → Prop) (x1 : Value) (H : Heap) : Prop :=
  S x1 (.int .i64 0) H
theorem z5_g57_e (S : Value → Value → Heap → Prop) (x : Nat → Value) (H : Heap) : wpE tab P z5_pi z5_c7 (nQ fun l H => S (l.getD 1 undef) (l.getD 2 undef) H) ((List.range 121).map x) H = z5_g57 S (x 1) H := by kernel_rfl
def z5_g59 (S : Value → Value → Value → Heap → Prop) (x1 x2 : Value) (H : Heap) : Prop :=
  bnd (lenV x1) fun v13 =>
  bnd (binV .int .lss x2 v13) fun v14 =>
  S x1 x2 v14 H
theorem z5_g59_e (S : Value → Value → Value → Heap → Prop) (x : Nat → Value) (H : Heap) : wpE tab P z5_pi z5_c12 (nQ fun l H => S (l.getD 1 undef) (l.getD 2 undef) (l.getD 14 undef) H) ((List.range 121).map x) H = z5_g59 S (x 1) (x 2) H := by kernel_rfl
def z5_g60 (S : Value → Value → Value → Heap → Prop) (x1 x2 : Value) (H : Heap) : Prop :=
  bnd (ixSV 1 x1 x2) fun v19 =>
  bnd (ldE false 1 v19 H) fun v20 =>
  bnd (buildV #[(.int .i64 0), (.int .i64 0), (.int .i64 0), (.int .i64 0), (.int .i64 0)] (places [(0, 1), (1, 1), (2, 1), (3, 1), (4, 1)]) [(0, (.int .i64 9)), (1, (.int .i64 9)), (2, (.int .i64 10)), (4, v20)]) fun v21 =>
  newE 36 #[(.int .i64 0), (.int .i64 0), (.int .i64 0), (.int .i64 0), (.int .i64 0)] H fun v3 H1 =>
  bnd (stE 5 v3 v21 H1) fun H2 =>
  S x1 x2 v3 H2
theorem z5_g60_e (S : Value → Value → Value → Heap → Prop) (x : Nat → Value) (H : Heap) : wpE tab P z5_pi z5_c18 (nQ fun l H => S (l.getD 1 undef) (l.getD 2 undef) (l.getD 3 undef) H) ((List.range 121).map x) H = z5_g60 S (x 1) (x 2) H := by kernel_rfl
def z5_g61 (S : Value → Value → Value → Value → Heap → Prop) (x1 x2 x3 : Value) (H : Heap) : Prop :=
  S x1 x2 x3 (.int .i64 0) H
theorem z5_g61_e (S : Value → Value → Value → Value → Heap → Prop) (x : Nat → Value) (H : Heap) : wpE tab P z5_pi z5_c20 (nQ fun l H => S (l.getD 1 undef) (l.getD 2 undef) (l.getD 3 undef) (l.getD 4 undef) H) ((List.range 121).map x) H = z5_g61 S (x 1) (x 2) (x 3) H := by kernel_rfl
def z5_g63 (S : Value → Value → Value → Value → Value → Heap → Prop) (x1 x2 x3 x4 : Value) (H : Heap) : Prop :=
  bnd (lenV x1) fun v24 =>
  bnd (binV .int .lss x4 v24) fun v25 =>
  S x1 x2 x3 x4 v25 H
theorem z5_g63_e (S : Value → Value → Value → Value → Value → Heap → Prop) (x : Nat → Value) (H : Heap) : wpE tab P z5_pi z5_c25 (nQ fun l H => S (l.getD 1 undef) (l.getD 2 undef) (l.getD 3 undef) (l.getD 4 undef) (l.getD 25 undef) H) ((List.range 121).map x) H = z5_g63 S (x 1) (x 2) (x 3) (x 4) H := by kernel_rfl
def z5_g64 (S : Value → Value → Value → Value → Value → Heap → Prop) (x1 x2 x3 x4 : Value) (H : Heap) : Prop :=
  EvF P N.sounderlaw10_four #[] H fun v28 H1 =>
  S x1 x2 x3 x4 v28 H1
theorem z5_g64_e (S : Value → Value → Value → Value → Value → Heap → Prop) (x : Nat → Value) (H : Heap) : wpE tab P z5_pi z5_c31 (nQ fun l H => S (l.getD 1 undef) (l.getD 2 undef) (l.getD 3 undef) (l.getD 4 undef) (l.getD 5 undef) H) ((List.range 121).map x) H = z5_g64 S (x 1) (x 2) (x 3) (x 4) H := by kernel_rfl
def z5_g65 (S : Value → Value → Value → Value → Value → Heap → Prop) (x1 x2 x3 x4 x5 : Value) (H : Heap) : Prop :=
  bnd (ixSV 1 x1 x4) fun v32 =>
  bnd (ldE false 1 v32 H) fun v33 =>
  bnd (ixSV 6 x5 (.int .i64 3)) fun v34 =>
  bnd (faV 1 v34) fun v35 =>
  bnd (stE 1 v35 v33 H) fun H1 =>
  S x1 x2 x3 x4 x5 H1
theorem z5_g65_e (S : Value → Value → Value → Value → Value → Heap → Prop) (x : Nat → Value) (H : Heap) : wpE tab P z5_pi z5_c33 (nQ fun l H => S (l.getD 1 undef) (l.getD 2 undef) (l.getD 3 undef) (l.getD 4 undef) (l.getD 5 undef) H) ((List.range 121).map x) H = z5_g65 S (x 1) (x 2) (x 3) (x 4) (x 5) H := by kernel_rfl
def z5_g66 (S : Value → Value → Value → Value → Value → Value → Heap → Prop) (x1 x2 x3 x4 x5 : Value) (H : Heap) : Prop :=
  EvF P N.sounderlaw10_four #[] H fun v36 H1 =>
  S x1 x2 x3 x4 x5 v36 H1
theorem z5_g66_e (S : Value → Value → Value → Value → Value → Value → Heap → Prop) (x : Nat → Value) (H : Heap) : wpE tab P z5_pi z5_c35 (nQ fun l H => S (l.getD 1 undef) (l.getD 2 undef) (l.getD 3 undef) (l.getD 4 undef) (l.getD 5 undef) (l.getD 6 undef) H) ((List.range 121).map x) H = z5_g66 S (x 1) (x 2) (x 3) (x 4) (x 5) H := by kernel_rfl
def z5_g67 (S : Value → Value → Value → Value → Value → Value → Heap → Prop) (x1 x2 x3 x4 x5 x6 : Value) (H : Heap) : Prop :=
  bnd (ixSV 1 x1 x4) fun v40 =>
  bnd (ldE false 1 v40 H) fun v41 =>
  bnd (ixSV 6 x6 (.int .i64 3)) fun v42 =>
  bnd (faV 0 v42) fun v43 =>
  bnd (stE 1 v43 v41 H) fun H1 =>
  S x1 x2 x3 x4 x5 x6 H1
theorem z5_g67_e (S : Value → Value → Value → Value → Value → Value → Heap → Prop) (x : Nat → Value) (H : Heap) : wpE tab P z5_pi z5_c37 (nQ fun l H => S (l.getD 1 undef) (l.getD 2 undef) (l.getD 3 undef) (l.getD 4 undef) (l.getD 5 undef) (l.getD 6 undef) H) ((List.range 121).map x) H = z5_g67 S (x 1) (x 2) (x 3) (x 4) (x 5) (x 6) H := by kernel_rfl
def z5_g68 (S : Value → Value → Value → Value → Value → Value → Heap → Prop) (x1 x2 x3 x4 x5 x6 : Value) (H : Heap) : Prop :=
  bnd (ixSV 1 x1 x2) fun v47 =>
  bnd (ldE false 1 v47 H) fun v48 =>
  bnd (foldV min2V (.int .i64 9007199254740991) [v48]) fun v49 =>
  bnd (foldV max2V (.int .i64 0) [v49]) fun v50 =>
  bnd (ixSV 6 x6 (.int .i64 0)) fun v51 =>
  bnd (faV 1 v51) fun v52 =>
  bnd (stE 1 v52 v50 H) fun H1 =>
  S x1 x2 x3 x4 x5 x6 H1
theorem z5_g68_e (S : Value → Value → Value → Value → Value → Value → Heap → Prop) (x : Nat → Value) (H : Heap) : wpE tab P z5_pi z5_c39 (nQ fun l H => S (l.getD 1 undef) (l.getD 2 undef) (l.getD 3 undef) (l.getD 4 undef) (l.getD 5 undef) (l.getD 6 undef) H) ((List.range 121).map x) H = z5_g68 S (x 1) (x 2) (x 3) (x 4) (x 5) (x 6) H := by kernel_rfl
def z5_g69 (S : Value → Value → Value → Value → Value → Heap → Prop) (x1 x2 x3 x4 x5 x6 : Value) (H : Heap) : Prop :=
  bnd (buildV #[(.int .i64 0), (.int .i64 0)] (places [(0, 1), (1, 1)]) [(0, (.int .i64 2)), (1, (.int .i64 2))]) fun v54 =>
  bnd (ldE true 5 x3 H) fun v56 =>
  bslE 45 #[(.int .i64 0), (.int .i64 0)] 2 1 [(0, v54)] H fun v55 H1 =>
  ((bnd (ldE true 5 x3 H1) fun v' => v' = v56) ∧
  EvF P N.sounderlaw10_PersistTells #[x5, v55, v56] H1 fun v57 H2 =>
  bnd (unV .not v57) fun v58 =>
  brV v58
  (((S x1 x2 x3 x4 (.bool true) H2) ∧
  (S x1 x2 x3 x4 (.bool true) H2)))
  (bnd (ldE true 5 x3 H2) fun v61 =>
  EvF P N.sounderlaw10_PersistTells #[x6, (.slice none 0 0), v61] H2 fun v62 H3 =>
  bnd (unV .not v62) fun v63 =>
  brV v63
  (((S x1 x2 x3 x4 (.bool true) H3) ∧
  (S x1 x2 x3 x4 (.bool true) H3)))
  (bnd (ixSV 1 x1 x4) fun v69 =>
  bnd (ldE false 1 v69 H3) fun v70 =>
  bnd (ixSV 1 x1 x4) fun v73 =>
  bnd (ldE false 1 v73 H3) fun v74 =>
  bnd (buildV #[(.int .i64 0), (.int .i64 0)] (places [(0, 1), (1, 1)]) [(0, v70), (1, v74)]) fun v75 =>
  bnd (ldE true 5 x3 H3) fun v77 =>
  ((EvF P N.sounderlaw10_four #[] H3 fun v66 H4 =>
  ((bnd (ldE true 5 x3 H4) fun v' => v' = v77) ∧
  ((bnd (ldE false 1 v73 H4) fun v' => v' = v74) ∧
  ((bnd (ldE false 1 v69 H4) fun v' => v' = v70) ∧
  bslE 45 #[(.int .i64 0), (.int .i64 0)] 2 1 [(0, v75)] H4 fun v76 H5 =>
  ((bnd (ldE true 5 x3 H5) fun v' => v' = v77) ∧
  ((bnd (ldE false 1 v73 H5) fun v' => v' = v74) ∧
  ((bnd (ldE false 1 v69 H5) fun v' => v' = v70) ∧
  EvF P N.sounderlaw10_PersistTells #[v66, v76, v77] H5 fun v78 H6 =>
  ((bnd (ldE false 1 v73 H6) fun v' => v' = v74) ∧
  ((bnd (ldE false 1 v69 H6) fun v' => v' = v70) ∧
  bnd (unV .not v78) fun v79 =>
  S x1 x2 x3 x4 v79 H6))))))))) ∧
  (bslE 45 #[(.int .i64 0), (.int .i64 0)] 2 1 [(0, v75)] H3 fun v76_2 H7 =>
  ((bnd (ldE true 5 x3 H7) fun v' => v' = v77) ∧
  ((bnd (ldE false 1 v73 H7) fun v' => v' = v74) ∧
  ((bnd (ldE false 1 v69 H7) fun v' => v' = v70) ∧
  EvF P N.sounderlaw10_four #[] H7 fun v66_2 H8 =>
  ((bnd (ldE true 5 x3 H8) fun v' => v' = v77) ∧
  ((bnd (ldE false 1 v73 H8) fun v' => v' = v74) ∧
  ((bnd (ldE false 1 v69 H8) fun v' => v' = v70) ∧
  EvF P N.sounderlaw10_PersistTells #[v66_2, v76_2, v77] H8 fun v78_2 H9 =>
  ((bnd (ldE false 1 v73 H9) fun v' => v' = v74) ∧
  ((bnd (ldE false 1 v69 H9) fun v' => v' = v70) ∧
  bnd (unV .not v78_2) fun v79_2 =>
  S x1 x2 x3 x4 v79_2 H9)))))))))))))
theorem z5_g69_e (S : Value → Value → Value → Value → Value → Heap → Prop) (x : Nat → Value) (H : Heap) : wpE tab P z5_pi z5_c41 (nQ fun l H => S (l.getD 1 undef) (l.getD 2 undef) (l.getD 3 undef) (l.getD 4 undef) (l.getD 80 undef) H) ((List.range 121).map x) H = z5_g69 S (x 1) (x 2) (x 3) (x 4) (x 5) (x 6) H := by kernel_rfl
def z5_g70 (S : Value → Heap → Prop) (H : Heap) : Prop :=
  S (.bool false) H
theorem z5_g70_e (S : Value → Heap → Prop) (x : Nat → Value) (H : Heap) : wpE tab P z5_pi z5_c44 (nQ fun l H => S (l.getD 0 undef) H) ((List.range 121).map x) H = z5_g70 S  H := by kernel_rfl
def z5_g71 (S : Value → Value → Value → Value → Heap → Prop) (x1 x2 x3 x4 : Value) (H : Heap) : Prop :=
  bnd (binV .int .add x4 (.int .i64 1)) fun v27 =>
  S x1 x2 x3 v27 H
theorem z5_g71_e (S : Value → Value → Value → Value → Heap → Prop) (x : Nat → Value) (H : Heap) : wpE tab P z5_pi z5_c45 (nQ fun l H => S (l.getD 1 undef) (l.getD 2 undef) (l.getD 3 undef) (l.getD 4 undef) H) ((List.range 121).map x) H = z5_g71 S (x 1) (x 2) (x 3) (x 4) H := by kernel_rfl
def z5_g72 (S : Value → Value → Heap → Prop) (x1 x2 : Value) (H : Heap) : Prop :=
  bnd (binV .int .add x2 (.int .i64 1)) fun v16 =>
  S x1 v16 H
theorem z5_g72_e (S : Value → Value → Heap → Prop) (x : Nat → Value) (H : Heap) : wpE tab P z5_pi z5_c46 (nQ fun l H => S (l.getD 1 undef) (l.getD 2 undef) H) ((List.range 121).map x) H = z5_g72 S (x 1) (x 2) H := by kernel_rfl
def z5_s62 (x1 x2 x3 x4 : Value) (K1 : Value → Value →  Heap → Prop) (K2 : Value → Value → Value → Value →  Heap → Prop) (R : Value → Heap → Prop) (H : Heap) : Prop :=
  z5_g63 (fun x1 x2 x3 x4 x25 H => brV x25
  (z5_g64 (fun x1 x2 x3 x4 x5 H => z5_g65 (fun x1 x2 x3 x4 x5 H => z5_g66 (fun x1 x2 x3 x4 x5 x6 H => z5_g67 (fun x1 x2 x3 x4 x5 x6 H => z5_g68 (fun x1 x2 x3 x4 x5 x6 H => z5_g69 (fun x1 x2 x3 x4 x80 H => brV x80
  (z5_g70 (fun x0 H => R x0 H) H)
  (z5_g71 (fun x1 x2 x3 x4 H => K2 x1 x2 x3 x4 H) x1 x2 x3 x4 H)) x1 x2 x3 x4 x5 x6 H) x1 x2 x3 x4 x5 x6 H) x1 x2 x3 x4 x5 x6 H) x1 x2 x3 x4 x5 H) x1 x2 x3 x4 x5 H) x1 x2 x3 x4 H)
  (z5_g72 (fun x1 x2 H => K1 x1 x2 H) x1 x2 H)) x1 x2 x3 x4 H
noncomputable def z5_q73 (R : Value → Heap → Prop) : Exit → List Value → Heap → Prop := (retQ tab z5_rs R)
noncomputable def z5_q74 (R : Value → Heap → Prop) : Exit → List Value → Heap → Prop := (thenE (fun l H => wpE tab P z5_pi z5_c47 (z5_q73 R) l H) (z5_q73 R))
noncomputable def z5_q75 (R : Value → Heap → Prop) : Exit → List Value → Heap → Prop := (blkE 0 (z5_q74 R))
noncomputable def z5_q76 (K1 : Value → Value →  Heap → Prop) (R : Value → Heap → Prop) : Exit → List Value → Heap → Prop := (thenE (fun l H => K1 (l.getD 1 undef) (l.getD 2 undef) H) (z5_q75 R))
noncomputable def z5_q77 (K1 : Value → Value →  Heap → Prop) (R : Value → Heap → Prop) : Exit → List Value → Heap → Prop := (thenE (fun l H => wpE tab P z5_pi z5_c46 (z5_q76 K1 R) l H) (z5_q76 K1 R))
noncomputable def z5_q78 (K1 : Value → Value →  Heap → Prop) (R : Value → Heap → Prop) : Exit → List Value → Heap → Prop := (blkE 1 (z5_q77 K1 R))
noncomputable def z5_q79 (K1 : Value → Value →  Heap → Prop) (R : Value → Heap → Prop) : Exit → List Value → Heap → Prop := (blkE 2 (z5_q78 K1 R))
noncomputable def z5_q80 (K1 : Value → Value →  Heap → Prop) (K2 : Value → Value → Value → Value →  Heap → Prop) (R : Value → Heap → Prop) : Exit → List Value → Heap → Prop := (thenE (fun l H => K2 (l.getD 1 undef) (l.getD 2 undef) (l.getD 3 undef) (l.getD 4 undef) H) (z5_q79 K1 R))
theorem z5_s62_i (K1 : Value → Value →  Heap → Prop) (K2 : Value → Value → Value → Value →  Heap → Prop) (R : Value → Heap → Prop) (l : List Value) (H : Heap) (hl : l.length = 121) (h : z5_s62 (l.getD 1 undef) (l.getD 2 undef) (l.getD 3 undef) (l.getD 4 undef) K1 K2 R H) : wpE tab P z5_pi z5_c23 (z5_q80 K1 K2 R) l H := by
  refine seqI (c := z5_c23) rfl ?_
  refine seqI (c := z5_c24) rfl ?_
  refine regI hl (Eq.mpr (z5_g63_e _ (fun i => l.getD i undef) _) h) ?_
  clear h hl
  intro l H hl h
  refine thenN ?_
  refine condI (c := z5_c26) rfl h ?_ ?_
  · clear h; intro h
    refine skipI rfl ?_
    refine thenN ?_
    refine seqI (c := z5_c28) rfl ?_
    refine blockI (c := z5_c29) rfl ?_
    refine seqI (c := z5_c30) rfl ?_
    refine regI hl (Eq.mpr (z5_g64_e _ (fun i => l.getD i undef) _) h) ?_
    clear h hl
    intro l H hl h
    refine thenN ?_
    refine seqI (c := z5_c32) rfl ?_
    refine regI hl (Eq.mpr (z5_g65_e _ (fun i => l.getD i undef) _) h) ?_
    clear h hl
    intro l H hl h
    refine thenN ?_
    refine seqI (c := z5_c34) rfl ?_
    refine regI hl (Eq.mpr (z5_g66_e _ (fun i => l.getD i undef) _) h) ?_
    clear h hl
    intro l H hl h
    refine thenN ?_
    refine seqI (c := z5_c36) rfl ?_
    refine regI hl (Eq.mpr (z5_g67_e _ (fun i => l.getD i undef) _) h) ?_
    clear h hl
    intro l H hl h
    refine thenN ?_
    refine seqI (c := z5_c38) rfl ?_
    refine regI hl (Eq.mpr (z5_g68_e _ (fun i => l.getD i undef) _) h) ?_
    clear h hl
    intro l H hl h
    refine thenN ?_
    refine seqI (c := z5_c40) rfl ?_
    refine regI hl (Eq.mpr (z5_g69_e _ (fun i => l.getD i undef) _) h) ?_
    clear h hl
    intro l H hl h
    refine thenN ?_
    refine condI (c := z5_c42) rfl h ?_ ?_
    · clear h; intro h
      refine seqI (c := z5_c43) rfl ?_
      refine regI hl (Eq.mpr (z5_g70_e _ (fun i => l.getD i undef) _) h) ?_
      clear h hl
      intro l H hl h
      refine thenN ?_
      refine retI rfl ?_
      refine blkR ?_
      refine thenR ?_
      refine thenR ?_
      refine blkR ?_
      refine blkR ?_
      refine thenR ?_
      refine thenR ?_
      refine blkR ?_
      refine thenR ?_
      exact h
    · clear h; intro h
      refine skipI rfl ?_
      refine blkN ?_
      refine thenN ?_
      refine regI hl (Eq.mpr (z5_g71_e _ (fun i => l.getD i undef) _) h) ?_
      clear h hl
      intro l H hl h
      refine thenN ?_
      exact h
  · clear h; intro h
    refine exitI (c := z5_c27) rfl ?_
    refine thenX ?_
    refine thenX ?_
    refine blkX ?_
    refine blkN ?_
    refine thenN ?_
    refine regI hl (Eq.mpr (z5_g72_e _ (fun i => l.getD i undef) _) h) ?_
    clear h hl
    intro l H hl h
    refine thenN ?_
    exact h
def z5_l81 (x1 x2 x3 x4 : Value) (K1 : Value → Value →  Heap → Prop) (R : Value → Heap → Prop) (H : Heap) : Prop :=
  ∃ (I : Value → Heap → Prop) (μ : Value → Heap → Nat), I x4 H ∧ ∀ (y4 : Value) (H : Heap), I y4 H → z5_s62 x1 x2 x3 y4 K1 (fun z1 z2 z3 z4 H' => z1 = x1 ∧ z2 = x2 ∧ z3 = x3 ∧ (I z4 H' ∧ μ z4 H' < μ y4 H)) R H
def z5_g82 (S : Value → Heap → Prop) (H : Heap) : Prop :=
  bnd (buildV #[(.int .i64 0), (.int .i64 0), (.int .i64 0), (.int .i64 0), (.int .i64 0)] (places [(0, 1), (1, 1), (2, 1), (3, 1), (4, 1)]) [(2, (.int .i64 333000000)), (3, (.int .i64 166500000)), (4, (.int .i64 (-1)))]) fun v81 =>
  newE 36 #[(.int .i64 0), (.int .i64 0), (.int .i64 0), (.int .i64 0), (.int .i64 0)] H fun v7 H1 =>
  bnd (stE 5 v7 v81 H1) fun H2 =>
  S v7 H2
theorem z5_g82_e (S : Value → Heap → Prop) (x : Nat → Value) (H : Heap) : wpE tab P z5_pi z5_c48 (nQ fun l H => S (l.getD 7 undef) H) ((List.range 121).map x) H = z5_g82 S  H := by kernel_rfl
def z5_g83 (S : Value → Value → Heap → Prop) (x7 : Value) (H : Heap) : Prop :=
  EvF P N.sounderlaw10_at #[(.int .i64 3), (.int .i64 9)] H fun v82 H1 =>
  EvF P N.sounderlaw10_at #[(.int .i64 4), (.int .i64 20)] H1 fun v83 H2 =>
  bslE 38 #[(.int .i64 0), (.int .i64 0), (.int .i64 0), (.bool false), (.bool false), (.bool false)] 6 2 [(0, v82), (1, v83)] H2 fun v84 H3 =>
  S x7 v84 H3
theorem z5_g83_e (S : Value → Value → Heap → Prop) (x : Nat → Value) (H : Heap) : wpE tab P z5_pi z5_c50 (nQ fun l H => S (l.getD 7 undef) (l.getD 8 undef) H) ((List.range 121).map x) H = z5_g83 S (x 7) H := by kernel_rfl
def z5_g84 (S : Value → Value → Heap → Prop) (x7 x8 : Value) (H : Heap) : Prop :=
  bnd (buildV #[(.int .i64 0), (.int .i64 0)] (places [(0, 1), (1, 1)]) [(0, (.int .i64 3)), (1, (.int .i64 4))]) fun v86 =>
  bslE 45 #[(.int .i64 0), (.int .i64 0)] 2 1 [(0, v86)] H fun v87 H1 =>
  EvF P N.sounderlaw10_set #[v87] H1 fun v88 H2 =>
  bnd (buildV #[(.int .i64 0), (.int .i64 0), (.int .i64 0)] (every 1) [(0, (.int .i64 11)), (1, (.int .i64 3)), (2, (.int .i64 4))]) fun v89 =>
  EvF P N.sounderlaw10_is #[x8, v88, (.int .i64 5), v89] H2 fun v90 H3 =>
  brV v90
  (bnd (buildV #[(.int .i64 0), (.int .i64 0)] (places [(0, 1), (1, 1)]) [(0, (.int .i64 0)), (1, (.int .i64 9))]) fun v93 =>
  bslE 45 #[(.int .i64 0), (.int .i64 0)] 2 1 [(0, v93)] H3 fun v94 H4 =>
  EvF P N.sounderlaw10_set #[v94] H4 fun v95 H5 =>
  bnd (buildV #[(.int .i64 0), (.int .i64 0), (.int .i64 0)] (every 1) [(0, (.int .i64 11)), (1, (.int .i64 3)), (2, (.int .i64 4))]) fun v96 =>
  EvF P N.sounderlaw10_is #[x8, v95, (.int .i64 5), v96] H5 fun v97 H6 =>
  S x7 v97 H6)
  (S x7 (.bool false) H3)
theorem z5_g84_e (S : Value → Value → Heap → Prop) (x : Nat → Value) (H : Heap) : wpE tab P z5_pi z5_c52 (nQ fun l H => S (l.getD 7 undef) (l.getD 9 undef) H) ((List.range 121).map x) H = z5_g84 S (x 7) (x 8) H := by kernel_rfl
def z5_g85 (S : Value → Heap → Prop) (x7 x9 : Value) (H : Heap) : Prop :=
  brV x9
  (EvF P N.sounderlaw10_works #[] H fun v103 H1 =>
  brV v103
  (EvF P N.sounderlaw10_none #[(.slice none 0 0), (.pointer none), (.int .i64 0)] H1 fun v106 H2 =>
  brV v106
  (EvF P N.sounderlaw10_at #[(.int .i64 5), (.int .i64 9)] H2 fun v109 H3 =>
  bslE 38 #[(.int .i64 0), (.int .i64 0), (.int .i64 0), (.bool false), (.bool false), (.bool false)] 6 1 [(0, v109)] H3 fun v110 H4 =>
  EvF P N.sounderlaw10_none #[v110, (.pointer none), (.int .i64 0)] H4 fun v111 H5 =>
  brV v111
  (bnd (ldE true 5 x7 H5) fun v117 =>
  EvF P N.sounderlaw10_at #[(.int .i64 1), (.int .i64 8)] H5 fun v114 H6 =>
  ((bnd (ldE true 5 x7 H6) fun v' => v' = v117) ∧
  EvF P N.sounderlaw10_at #[(.int .i64 2), (.int .i64 1125899906842624)] H6 fun v115 H7 =>
  ((bnd (ldE true 5 x7 H7) fun v' => v' = v117) ∧
  bslE 38 #[(.int .i64 0), (.int .i64 0), (.int .i64 0), (.bool false), (.bool false), (.bool false)] 6 2 [(0, v114), (1, v115)] H7 fun v116 H8 =>
  ((bnd (ldE true 5 x7 H8) fun v' => v' = v117) ∧
  EvF P N.persist_Is #[v116, (.pointer none), v117, (.int .i64 0)] H8 fun v118 H9 =>
  bnd (unV .not v118) fun v119 =>
  S v119 H9))))
  (S (.bool false) H5))
  (S (.bool false) H2))
  (S (.bool false) H1))
  (S (.bool false) H)
theorem z5_g85_e (S : Value → Heap → Prop) (x : Nat → Value) (H : Heap) : wpE tab P z5_pi z5_c54 (nQ fun l H => S (l.getD 0 undef) H) ((List.range 121).map x) H = z5_g85 S (x 7) (x 9) H := by kernel_rfl
def z5_s58 (x1 x2 : Value) (K1 : Value → Value →  Heap → Prop) (R : Value → Heap → Prop) (H : Heap) : Prop :=
  z5_g59 (fun x1 x2 x14 H => brV x14
  (z5_g60 (fun x1 x2 x3 H => z5_g61 (fun x1 x2 x3 x4 H => z5_l81 x1 x2 x3 x4 K1 R H) x1 x2 x3 H) x1 x2 H)
  (z5_g82 (fun x7 H => z5_g83 (fun x7 x8 H => z5_g84 (fun x7 x9 H => z5_g85 (fun x0 H => R x0 H) x7 x9 H) x7 x8 H) x7 H) H)) x1 x2 H
theorem z5_s58_i (K1 : Value → Value →  Heap → Prop) (R : Value → Heap → Prop) (l : List Value) (H : Heap) (hl : l.length = 121) (h : z5_s58 (l.getD 1 undef) (l.getD 2 undef) K1 R H) : wpE tab P z5_pi z5_c10 (z5_q76 K1 R) l H := by
  refine seqI (c := z5_c10) rfl ?_
  refine seqI (c := z5_c11) rfl ?_
  refine regI hl (Eq.mpr (z5_g59_e _ (fun i => l.getD i undef) _) h) ?_
  clear h hl
  intro l H hl h
  refine thenN ?_
  refine condI (c := z5_c13) rfl h ?_ ?_
  · clear h; intro h
    refine skipI rfl ?_
    refine thenN ?_
    refine seqI (c := z5_c15) rfl ?_
    refine blockI (c := z5_c16) rfl ?_
    refine seqI (c := z5_c17) rfl ?_
    refine regI hl (Eq.mpr (z5_g60_e _ (fun i => l.getD i undef) _) h) ?_
    clear h hl
    intro l H hl h
    refine thenN ?_
    refine seqI (c := z5_c19) rfl ?_
    refine regI hl (Eq.mpr (z5_g61_e _ (fun i => l.getD i undef) _) h) ?_
    clear h hl
    intro l H hl h
    refine thenN ?_
    refine blockI (c := z5_c21) rfl ?_
    obtain ⟨I, μ, h0, hr⟩ := h
    refine loopI (c := z5_c22) rfl (fun l' H' => l'.getD 1 undef = l.getD 1 undef ∧ l'.getD 2 undef = l.getD 2 undef ∧ l'.getD 3 undef = l.getD 3 undef ∧ I (l'.getD 4 undef) H') (fun l' H' => μ (l'.getD 4 undef) H') hl ⟨rfl, rfl, rfl, h0⟩ ?_
    rintro l1 H1 hl1 ⟨e1, e2, e3, hI⟩
    have hb := hr (l1.getD 4 undef) H1 hI
    rw [← e1, ← e2, ← e3] at hb
    refine wpE_mono _ l1 H1 hl1 ?_ (z5_s62_i K1 _ R l1 H1 hl1 hb)
    intro e l2 H2 hl2 hq
    cases e with
    | normal => exact fun _ => (by obtain ⟨d1, d2, d3, g1, g2⟩ := hq; exact ⟨⟨d1.trans e1, d2.trans e2, d3.trans e3, g1⟩, g2⟩)
    | _ => exact hq
  · clear h; intro h
    refine exitI (c := z5_c14) rfl ?_
    refine thenX ?_
    refine thenX ?_
    refine blkX ?_
    refine thenN ?_
    refine seqI (c := z5_c47) rfl ?_
    refine regI hl (Eq.mpr (z5_g82_e _ (fun i => l.getD i undef) _) h) ?_
    clear h hl
    intro l H hl h
    refine thenN ?_
    refine seqI (c := z5_c49) rfl ?_
    refine regI hl (Eq.mpr (z5_g83_e _ (fun i => l.getD i undef) _) h) ?_
    clear h hl
    intro l H hl h
    refine thenN ?_
    refine seqI (c := z5_c51) rfl ?_
    refine regI hl (Eq.mpr (z5_g84_e _ (fun i => l.getD i undef) _) h) ?_
    clear h hl
    intro l H hl h
    refine thenN ?_
    refine seqI (c := z5_c53) rfl ?_
    refine regI hl (Eq.mpr (z5_g85_e _ (fun i => l.getD i undef) _) h) ?_
    clear h hl
    intro l H hl h
    refine thenN ?_
    refine retI rfl ?_
    exact h
def z5_l86 (x1 x2 : Value) (R : Value → Heap → Prop) (H : Heap) : Prop :=
  ∃ (I : Value → Heap → Prop) (μ : Value → Heap → Nat), I x2 H ∧ ∀ (y2 : Value) (H : Heap), I y2 H → z5_s58 x1 y2 (fun z1 z2 H' => z1 = x1 ∧ (I z2 H' ∧ μ z2 H' < μ y2 H)) R H
def sounderlaw10_PersistKnown (R : Value → Heap → Prop) (H : Heap) : Prop :=
  z5_g55 (fun H => z5_g56 (fun x1 H => z5_g57 (fun x1 x2 H => z5_l86 x1 x2 R H) x1 H) H) H
theorem z5_i (R : Value → Heap → Prop) (H : Heap) (h : sounderlaw10_PersistKnown  R H) : wpE tab P z5_pi z5_c1 (retQ tab z5_rs R) [undef, undef, undef, undef, undef, undef, undef, undef, undef, undef, undef, undef, undef, undef, undef, undef, undef, undef, undef, undef, undef, undef, undef, undef, undef, undef, undef, undef, undef, undef, undef, undef, undef, undef, undef, undef, undef, undef, undef, undef, undef, undef, undef, undef, undef, undef, undef, undef, undef, undef, undef, undef, undef, undef, undef, undef, undef, undef, undef, undef, undef, undef, undef, undef, undef, undef, undef, undef, undef, undef, undef, undef, undef, undef, undef, undef, undef, undef, undef, undef, undef, undef, undef, undef, undef, undef, undef, undef, undef, undef, undef, undef, undef, undef, undef, undef, undef, undef, undef, undef, undef, undef, undef, undef, undef, undef, undef, undef, undef, undef, undef, undef, undef, undef, undef, undef, undef, undef, undef, undef, undef] H := by
  obtain ⟨l, hl, el⟩ : ∃ l : List Value, l.length = 121 ∧ l = [undef, undef, undef, undef, undef, undef, undef, undef, undef, undef, undef, undef, undef, undef, undef, undef, undef, undef, undef, undef, undef, undef, undef, undef, undef, undef, undef, undef, undef, undef, undef, undef, undef, undef, undef, undef, undef, undef, undef, undef, undef, undef, undef, undef, undef, undef, undef, undef, undef, undef, undef, undef, undef, undef, undef, undef, undef, undef, undef, undef, undef, undef, undef, undef, undef, undef, undef, undef, undef, undef, undef, undef, undef, undef, undef, undef, undef, undef, undef, undef, undef, undef, undef, undef, undef, undef, undef, undef, undef, undef, undef, undef, undef, undef, undef, undef, undef, undef, undef, undef, undef, undef, undef, undef, undef, undef, undef, undef, undef, undef, undef, undef, undef, undef, undef, undef, undef, undef, undef, undef, undef] := ⟨_, rfl, rfl⟩
  rw [← el]
  have h : z5_g55 (fun H => z5_g56 (fun x1 H => z5_g57 (fun x1 x2 H => z5_l86 x1 x2 R H) x1 H) H) H := by exact h
  clear el
  refine seqI (c := z5_c1) rfl ?_
  refine regI hl (Eq.mpr (z5_g55_e _ (fun i => l.getD i undef) _) h) ?_
  clear h hl
  intro l H hl h
  refine thenN ?_
  refine seqI (c := z5_c3) rfl ?_
  refine regI hl (Eq.mpr (z5_g56_e _ (fun i => l.getD i undef) _) h) ?_
  clear h hl
  intro l H hl h
  refine thenN ?_
  refine seqI (c := z5_c5) rfl ?_
  refine seqI (c := z5_c6) rfl ?_
  refine regI hl (Eq.mpr (z5_g57_e _ (fun i => l.getD i undef) _) h) ?_
  clear h hl
  intro l H hl h
  refine thenN ?_
  refine blockI (c := z5_c8) rfl ?_
  obtain ⟨I, μ, h0, hr⟩ := h
  refine loopI (c := z5_c9) rfl (fun l' H' => l'.getD 1 undef = l.getD 1 undef ∧ I (l'.getD 2 undef) H') (fun l' H' => μ (l'.getD 2 undef) H') hl ⟨rfl, h0⟩ ?_
  rintro l1 H1 hl1 ⟨e1, hI⟩
  have hb := hr (l1.getD 2 undef) H1 hI
  rw [← e1] at hb
  refine wpE_mono _ l1 H1 hl1 ?_ (z5_s58_i _ R l1 H1 hl1 hb)
  intro e l2 H2 hl2 hq
  cases e with
  | normal => exact fun _ => (by obtain ⟨d1, g1, g2⟩ := hq; exact ⟨⟨d1.trans e1, g1⟩, g2⟩)
  | _ => exact hq
theorem z5_ok : okB z5_pi z5_c1 = true := by kernel_rfl
theorem z5_ev0 (R : Value → Heap → Prop) (H : Heap) (h : sounderlaw10_PersistKnown  R H) : EvL P N.sounderlaw10_PersistKnown #[] H R :=
  EvF_intro (args := []) (k := 121) (rs := z5_rs) tab_ok mixed Try.func5 (show Try.f5.body = some z5_c1 by kernel_rfl) Try.call5 Try.ntmps5 (by kernel_rfl) (okCode_of _ z5_ok) rfl (z5_i R  H h)
theorem z5_ev (R : Value → Heap → Prop) (H : Heap) (h : sounderlaw10_PersistKnown  R H) : EvF P N.sounderlaw10_PersistKnown #[] H R := .inl (z5_ev0  R H h)
/- 11: sounder/persist.Period -/
def z11_rs : List ResultVar := [.cell 6 3, .cell 7 3, .cell 8 3, .cell 9 4]
noncomputable def z11_c2 : Code := subC (bodyC Try.f11) [0]
noncomputable def z11_c5 : Code := subC (bodyC Try.f11) [1, 0, 0]
noncomputable def z11_c8 : Code := subC (bodyC Try.f11) [1, 0, 1, 0, 0]
noncomputable def z11_c7 : Code := .seq z11_c8 Code.ret
noncomputable def z11_c6 : Code := .cond (.tmp 20) z11_c7 Code.skip
noncomputable def z11_c4 : Code := .seq z11_c5 z11_c6
noncomputable def z11_c10 : Code := subC (bodyC Try.f11) [1, 1, 0]
noncomputable def z11_c13 : Code := subC (bodyC Try.f11) [1, 1, 1, 0, 0]
noncomputable def z11_c17 : Code := subC (bodyC Try.f11) [1, 1, 1, 0, 1, 0, 0, 0]
noncomputable def z11_c18 : Code := subC (bodyC Try.f11) [1, 1, 1, 0, 1, 0, 0, 1]
noncomputable def z11_c16 : Code := .seq z11_c17 z11_c18
noncomputable def z11_c20 : Code := subC (bodyC Try.f11) [1, 1, 1, 0, 1, 0, 1, 0]
noncomputable def z11_c19 : Code := .block 1 z11_c20
noncomputable def z11_c15 : Code := .rangeFunc (.tmp 25) #[26, 27] z11_c16 z11_c19
noncomputable def z11_c14 : Code := .block 0 z11_c15
noncomputable def z11_c12 : Code := .seq z11_c13 z11_c14
noncomputable def z11_c22 : Code := subC (bodyC Try.f11) [1, 1, 1, 1, 0]
noncomputable def z11_c21 : Code := .seq z11_c22 Code.ret
noncomputable def z11_c11 : Code := .seq z11_c12 z11_c21
noncomputable def z11_c9 : Code := .seq z11_c10 z11_c11
noncomputable def z11_c3 : Code := .seq z11_c4 z11_c9
noncomputable def z11_c1 : Code := .seq z11_c2 z11_c3
def z11_pi (i : Nat) : Pl := match i with
  | 8 => (ones [0, 1, 2, 3, 4, 5, 6, 7] .nil)
  | _ => .nil
def z11_g23 (S : Value → Value → Value → Value → Value → Value → Value → Heap → Prop) (x0 x1 x2 : Value) (H : Heap) : Prop :=
  newE 3 #[(.int .i64 0)] H fun v6 H1 =>
  newE 3 #[(.int .i64 0)] H1 fun v7 H2 =>
  newE 3 #[(.int .i64 0)] H2 fun v8 H3 =>
  newE 4 #[(.bool false)] H3 fun v9 H4 =>
  S x0 x1 x2 v6 v7 v8 v9 H4
theorem z11_g23_e (S : Value → Value → Value → Value → Value → Value → Value → Heap → Prop) (x : Nat → Value) (H : Heap) : wpE tab P z11_pi z11_c2 (nQ fun l H => S (l.getD 0 undef) (l.getD 1 undef) (l.getD 2 undef) (l.getD 6 undef) (l.getD 7 undef) (l.getD 8 undef) (l.getD 9 undef) H) ((List.range 36).map x) H = z11_g23 S (x 0) (x 1) (x 2) H := by kernel_rfl
def z11_g24 (S : Value → Value → Value → Value → Value → Value → Value → Value → Heap → Prop) (x0 x1 x2 x6 x7 x8 x9 : Value) (H : Heap) : Prop :=
  EvF P N.loss_Check #[x0] H fun v14 H1 =>
  bnd (binV .int .neq v14 (.int .i64 0)) fun v15 =>
  brV v15
  (S x0 x1 x2 x6 x7 x8 x9 (.bool true) H1)
  (EvF P N.sat_Is #[x2] H1 fun v18 H2 =>
  bnd (unV .not v18) fun v19 =>
  S x0 x1 x2 x6 x7 x8 x9 v19 H2)
theorem z11_g24_e (S : Value → Value → Value → Value → Value → Value → Value → Value → Heap → Prop) (x : Nat → Value) (H : Heap) : wpE tab P z11_pi z11_c5 (nQ fun l H => S (l.getD 0 undef) (l.getD 1 undef) (l.getD 2 undef) (l.getD 6 undef) (l.getD 7 undef) (l.getD 8 undef) (l.getD 9 undef) (l.getD 20 undef) H) ((List.range 36).map x) H = z11_g24 S (x 0) (x 1) (x 2) (x 6) (x 7) (x 8) (x 9) H := by kernel_rfl
def z11_g25 (S : Value → Value → Value → Value → Heap → Prop) (x6 x7 x8 x9 : Value) (H : Heap) : Prop :=
  bnd (stE 1 x6 (.int .i64 0) H) fun H1 =>
  bnd (stE 1 x7 (.int .i64 0) H1) fun H2 =>
  bnd (stE 1 x8 (.int .i64 0) H2) fun H3 =>
  bnd (stE 1 x9 (.bool false) H3) fun H4 =>
  S x6 x7 x8 x9 H4
theorem z11_g25_e (S : Value → Value → Value → Value → Heap → Prop) (x : Nat → Value) (H : Heap) : wpE tab P z11_pi z11_c8 (nQ fun l H => S (l.getD 6 undef) (l.getD 7 undef) (l.getD 8 undef) (l.getD 9 undef) H) ((List.range 36).map x) H = z11_g25 S (x 6) (x 7) (x 8) (x 9) H := by kernel_rfl
def z11_g26 (S : Value → Value → Value → Value → Value → Value → Value → Value → Heap → Prop) (x0 x1 x2 x6 x7 x8 x9 : Value) (H : Heap) : Prop :=
  newE 57 #[.nilFunc] H fun v10 H1 =>
  bnd (stE 1 v10 (.func (.func N.persist_Period_1) #[] #[x9, x6, x7, x8]) H1) fun H2 =>
  S x0 x1 x2 x6 x7 x8 x9 v10 H2
theorem z11_g26_e (S : Value → Value → Value → Value → Value → Value → Value → Value → Heap → Prop) (x : Nat → Value) (H : Heap) : wpE tab P z11_pi z11_c10 (nQ fun l H => S (l.getD 0 undef) (l.getD 1 undef) (l.getD 2 undef) (l.getD 6 undef) (l.getD 7 undef) (l.getD 8 undef) (l.getD 9 undef) (l.getD 10 undef) H) ((List.range 36).map x) H = z11_g26 S (x 0) (x 1) (x 2) (x 6) (x 7) (x 8) (x 9) H := by kernel_rfl
def z11_g27 (S : Value → Value → Value → Value → Value → Value → Heap → Prop) (x0 x1 x2 x6 x7 x8 x9 x10 : Value) (H : Heap) : Prop :=
  EvF P N.persist_pairs #[x0, x1, x2] H fun v25 H1 =>
  S x6 x7 x8 x9 x10 v25 H1
theorem z11_g27_e (S : Value → Value → Value → Value → Value → Value → Heap → Prop) (x : Nat → Value) (H : Heap) : wpE tab P z11_pi z11_c13 (nQ fun l H => S (l.getD 6 undef) (l.getD 7 undef) (l.getD 8 undef) (l.getD 9 undef) (l.getD 10 undef) (l.getD 25 undef) H) ((List.range 36).map x) H = z11_g27 S (x 0) (x 1) (x 2) (x 6) (x 7) (x 8) (x 9) (x 10) H := by kernel_rfl
noncomputable def z11_L (fn : FuncId) (l : List Value) (d : Nat) : Loop := mkL fn l #[26, 27] z11_c16 z11_c19 d
def z11_g29 (S : Heap → Prop) (x10 x11 x12 : Value) (H : Heap) : Prop :=
  bnd (ldE false 1 x10 H) fun v28 =>
  bnd (ldE true 6 x11 H) fun v29 =>
  bnd (ldE true 6 x12 H) fun v30 =>
  callV P v28 [v29, v30] H fun _ H1 =>
  S H1
theorem z11_g29_e (S : Heap → Prop) (x : Nat → Value) (H : Heap) : wpE tab P z11_pi z11_c20 (nQ fun _ H => S  H) ((List.range 36).map x) H = z11_g29 S (x 10) (x 11) (x 12) H := by kernel_rfl
def z11_s28 (x10 x11 x12 : Value) (lp : Nat) (r : Loop) (R : Value → Heap → Prop) (H : Heap) : Prop :=
  z11_g29 (fun H => (H.arr[lp]? = some (.loop (busy r)) ∧ R (.bool true) (setO H lp (.loop r)))) x10 x11 x12 H
noncomputable def z11_q30 (lp : Nat) (r : Loop) (R : Value → Heap → Prop) : Exit → List Value → Heap → Prop := (nQ fun _ H2 => H2.arr[lp]? = some (.loop (busy r)) ∧ R (.bool true) (setO H2 lp (.loop r)))
theorem z11_s28_i (lp : Nat) (r : Loop) (R : Value → Heap → Prop) (l : List Value) (H : Heap) (hl : l.length = 36) (h : z11_s28 (l.getD 10 undef) (l.getD 11 undef) (l.getD 12 undef) lp r R H) : wpE tab P z11_pi z11_c19 (z11_q30 lp r R) l H := by
  refine blockI (c := z11_c19) rfl ?_
  refine regI hl (Eq.mpr (z11_g29_e _ (fun i => l.getD i undef) _) h) ?_
  clear h hl
  intro l H hl h
  refine blkN ?_
  exact h
def z11_g31 (S : Value → Value → Value → Heap → Prop) (x10 x26 x27 : Value) (H : Heap) : Prop :=
  newE 38 #[(.int .i64 0), (.int .i64 0), (.int .i64 0), (.bool false), (.bool false), (.bool false)] H fun v11 H1 =>
  bnd (stE 6 v11 x26 H1) fun H2 =>
  S x10 v11 x27 H2
theorem z11_g31_e (S : Value → Value → Value → Heap → Prop) (x : Nat → Value) (H : Heap) : wpE tab P z11_pi z11_c17 (nQ fun l H => S (l.getD 10 undef) (l.getD 11 undef) (l.getD 27 undef) H) ((List.range 36).map x) H = z11_g31 S (x 10) (x 26) (x 27) H := by kernel_rfl
def z11_g32 (S : Value → Value → Value → Heap → Prop) (x10 x11 x27 : Value) (H : Heap) : Prop :=
  newE 38 #[(.int .i64 0), (.int .i64 0), (.int .i64 0), (.bool false), (.bool false), (.bool false)] H fun v12 H1 =>
  bnd (stE 6 v12 x27 H1) fun H2 =>
  S x10 x11 v12 H2
theorem z11_g32_e (S : Value → Value → Value → Heap → Prop) (x : Nat → Value) (H : Heap) : wpE tab P z11_pi z11_c18 (nQ fun l H => S (l.getD 10 undef) (l.getD 11 undef) (l.getD 12 undef) H) ((List.range 36).map x) H = z11_g32 S (x 10) (x 11) (x 27) H := by kernel_rfl
def z11_r (lp : Nat) (r : Loop) (R : Value → Heap → Prop) (x10 x26 x27 : Value) (H : Heap) : Prop :=
  z11_g31 (fun x10 x11 x27 H => z11_g32 (fun x10 x11 x12 H => (H.arr[lp]? = some (.loop r) ∧
  z11_s28 x10 x11 x12 lp r R (setO H lp (.loop (busy r))))) x10 x11 x27 H) x10 x26 x27 H
theorem z11_ri (lp : Nat) (r : Loop) (R : Value → Heap → Prop) (l : List Value) (H : Heap) (hl : l.length = 36) (h : z11_r lp r R (l.getD 10 undef) (l.getD 26 undef) (l.getD 27 undef) H) : wpE tab P z11_pi z11_c16 (nQ fun l H => H.arr[lp]? = some (.loop r) ∧ wpE tab P z11_pi z11_c19 (nQ fun _ H2 => H2.arr[lp]? = some (.loop (busy r)) ∧ R (.bool true) (setO H2 lp (.loop r))) l (setO H lp (.loop (busy r)))) l H := by
  refine seqI (c := z11_c16) rfl ?_
  refine regI hl (Eq.mpr (z11_g31_e _ (fun i => l.getD i undef) _) h) ?_
  clear h hl
  intro l H hl h
  refine thenN ?_
  refine regI hl (Eq.mpr (z11_g32_e _ (fun i => l.getD i undef) _) h) ?_
  clear h hl
  intro l H hl h
  exact ⟨h.1, z11_s28_i lp r R l _ hl h.2⟩
theorem z11_y (fn : FuncId) (d : Nat) (l : List Value) (hl : l.length = 36) (lp : Nat) (v26 : Value) (v27 : Value) (K : Heap) (R : Value → Heap → Prop) (hK : K.arr[lp]? = some (.loop (z11_L fn l d))) (h : z11_r lp (z11_L fn l d) R (l.getD 10 undef) v26 v27 K) : EvY P lp #[v26, v27] K R := by
  refine EvY_intro (t := ((l.set 26 v26).set 27 v27)) tab_ok mixed hK rfl rfl rfl (by simp [z11_L, mkL]) ⟨okCode_of _ (show okB z11_pi z11_c16 = true by kernel_rfl), okCode_of _ (show okB z11_pi z11_c19 = true by kernel_rfl)⟩ ?_
  have e10 : ((l.set 26 v26).set 27 v27).getD 10 undef = l.getD 10 undef := by simp [hl]
  have e26 : ((l.set 26 v26).set 27 v27).getD 26 undef = v26 := by simp [hl]
  have e27 : ((l.set 26 v26).set 27 v27).getD 27 undef = v27 := by simp [hl]
  exact z11_ri lp (z11_L fn l d) R ((l.set 26 v26).set 27 v27) K (by simp [hl]) (by rw [e10, e26, e27]; exact h)
def z11_g33 (S : Value → Value → Value → Value → Heap → Prop) (x6 x7 x8 x9 : Value) (H : Heap) : Prop :=
  bnd (ldE false 1 x6 H) fun v32 =>
  bnd (ldE false 1 x7 H) fun v33 =>
  bnd (ldE false 1 x8 H) fun v34 =>
  bnd (ldE false 1 x9 H) fun v35 =>
  bnd (stE 1 x6 v32 H) fun H1 =>
  ((bnd (ldE false 1 x9 H1) fun v' => v' = v35) ∧
  ((bnd (ldE false 1 x8 H1) fun v' => v' = v34) ∧
  ((bnd (ldE false 1 x7 H1) fun v' => v' = v33) ∧
  bnd (stE 1 x7 v33 H1) fun H2 =>
  ((bnd (ldE false 1 x9 H2) fun v' => v' = v35) ∧
  ((bnd (ldE false 1 x8 H2) fun v' => v' = v34) ∧
  bnd (stE 1 x8 v34 H2) fun H3 =>
  ((bnd (ldE false 1 x9 H3) fun v' => v' = v35) ∧
  bnd (stE 1 x9 v35 H3) fun H4 =>
  S x6 x7 x8 x9 H4))))))
theorem z11_g33_e (S : Value → Value → Value → Value → Heap → Prop) (x : Nat → Value) (H : Heap) : wpE tab P z11_pi z11_c22 (nQ fun l H => S (l.getD 6 undef) (l.getD 7 undef) (l.getD 8 undef) (l.getD 9 undef) H) ((List.range 36).map x) H = z11_g33 S (x 6) (x 7) (x 8) (x 9) H := by kernel_rfl
def persist_Period (x0 x1 x2 : Value) (R : Value → Heap → Prop) (H : Heap) : Prop :=
  z11_g23 (fun x0 x1 x2 x6 x7 x8 x9 H => z11_g24 (fun x0 x1 x2 x6 x7 x8 x9 x20 H => brV x20
  (z11_g25 (fun x6 x7 x8 x9 H => bnd (ldE false 1 x6 H) fun r0 =>
  bnd (ldE false 1 x7 H) fun r1 =>
  bnd (ldE false 1 x8 H) fun r2 =>
  bnd (ldE false 1 x9 H) fun r3 =>
  R (.tuple #[r0, r1, r2, r3]) H) x6 x7 x8 x9 H)
  (z11_g26 (fun x0 x1 x2 x6 x7 x8 x9 x10 H => z11_g27 (fun x6 x7 x8 x9 x10 x25 H => (∀ (fn : FuncId) (l : List Value), l.length = 36 → l.getD 10 undef = x10 → callL P x25 [.func (.yield (H.size + 1)) #[] #[]] (pushO (pushO H (.deferred (some []))) (.loop (z11_L fn l H.size))) fun _ H2 =>
  H2.arr[H.size + 1]? = some (.loop (z11_L fn l H.size)) ∧
  (fun (m : Nat) (H : Heap) =>
  z11_g33 (fun x6 x7 x8 x9 H => (H.arr[m]? = some (.deferred (some [])) ∧ (fun H : Heap =>
  bnd (ldE false 1 x6 H) fun r0 =>
  bnd (ldE false 1 x7 H) fun r1 =>
  bnd (ldE false 1 x8 H) fun r2 =>
  bnd (ldE false 1 x9 H) fun r3 =>
  R (.tuple #[r0, r1, r2, r3]) H) (setO H m (.deferred none)))) x6 x7 x8 x9 H) H.size (setO H2 (H.size + 1) (.loop (done (z11_L fn l H.size)))))) x0 x1 x2 x6 x7 x8 x9 x10 H) x0 x1 x2 x6 x7 x8 x9 H)) x0 x1 x2 x6 x7 x8 x9 H) x0 x1 x2 H
theorem z11_i (R : Value → Heap → Prop) (x0 x1 x2 : Value) (H : Heap) (h : persist_Period x0 x1 x2 R H) : wpR tab P z11_pi z11_c1 (retQ tab z11_rs R) (retQM tab z11_rs R) [x0, x1, x2, undef, undef, undef, undef, undef, undef, undef, undef, undef, undef, undef, undef, undef, undef, undef, undef, undef, undef, undef, undef, undef, undef, undef, undef, undef, undef, undef, undef, undef, undef, undef, undef, undef] H := by
  obtain ⟨l, hl, el⟩ : ∃ l : List Value, l.length = 36 ∧ l = [x0, x1, x2, undef, undef, undef, undef, undef, undef, undef, undef, undef, undef, undef, undef, undef, undef, undef, undef, undef, undef, undef, undef, undef, undef, undef, undef, undef, undef, undef, undef, undef, undef, undef, undef, undef] := ⟨_, rfl, rfl⟩
  rw [← el]
  have h : (fun (x0 x1 x2 : Value) => z11_g23 (fun x0 x1 x2 x6 x7 x8 x9 H => z11_g24 (fun x0 x1 x2 x6 x7 x8 x9 x20 H => brV x20
(z11_g25 (fun x6 x7 x8 x9 H => bnd (ldE false 1 x6 H) fun r0 =>
bnd (ldE false 1 x7 H) fun r1 =>
bnd (ldE false 1 x8 H) fun r2 =>
bnd (ldE false 1 x9 H) fun r3 =>
R (.tuple #[r0, r1, r2, r3]) H) x6 x7 x8 x9 H)
(z11_g26 (fun x0 x1 x2 x6 x7 x8 x9 x10 H => z11_g27 (fun x6 x7 x8 x9 x10 x25 H => (∀ (fn : FuncId) (l : List Value), l.length = 36 → l.getD 10 undef = x10 → callL P x25 [.func (.yield (H.size + 1)) #[] #[]] (pushO (pushO H (.deferred (some []))) (.loop (z11_L fn l H.size))) fun _ H2 =>
H2.arr[H.size + 1]? = some (.loop (z11_L fn l H.size)) ∧
(fun (m : Nat) (H : Heap) =>
z11_g33 (fun x6 x7 x8 x9 H => (H.arr[m]? = some (.deferred (some [])) ∧ (fun H : Heap =>
bnd (ldE false 1 x6 H) fun r0 =>
bnd (ldE false 1 x7 H) fun r1 =>
bnd (ldE false 1 x8 H) fun r2 =>
bnd (ldE false 1 x9 H) fun r3 =>
R (.tuple #[r0, r1, r2, r3]) H) (setO H m (.deferred none)))) x6 x7 x8 x9 H) H.size (setO H2 (H.size + 1) (.loop (done (z11_L fn l H.size)))))) x0 x1 x2 x6 x7 x8 x9 x10 H) x0 x1 x2 x6 x7 x8 x9 H)) x0 x1 x2 x6 x7 x8 x9 H) x0 x1 x2 H) (l.getD 0 undef) (l.getD 1 undef) (l.getD 2 undef) := by rw [el]; exact h
  clear el
  refine seqR (c := z11_c1) rfl ?_
  refine wpR_of _ hl ?_
  refine regI hl (Eq.mpr (z11_g23_e _ (fun i => l.getD i undef) _) h) ?_
  clear h hl
  intro l H hl h
  refine thenN ?_
  refine seqR (c := z11_c3) rfl ?_
  refine wpR_of _ hl ?_
  refine seqI (c := z11_c4) rfl ?_
  refine regI hl (Eq.mpr (z11_g24_e _ (fun i => l.getD i undef) _) h) ?_
  clear h hl
  intro l H hl h
  refine thenN ?_
  refine condI (c := z11_c6) rfl h ?_ ?_
  · clear h; intro h
    refine seqI (c := z11_c7) rfl ?_
    refine regI hl (Eq.mpr (z11_g25_e _ (fun i => l.getD i undef) _) h) ?_
    clear h hl
    intro l H hl h
    refine thenN ?_
    refine retI rfl ?_
    refine thenR ?_
    exact h
  · clear h; intro h
    refine skipI rfl ?_
    refine thenN ?_
    refine seqR (c := z11_c9) rfl ?_
    refine wpR_of _ hl ?_
    refine regI hl (Eq.mpr (z11_g26_e _ (fun i => l.getD i undef) _) h) ?_
    clear h hl
    intro l H hl h
    refine thenN ?_
    refine seqR (c := z11_c11) rfl ?_
    refine seqR (c := z11_c12) rfl ?_
    refine wpR_of _ hl ?_
    refine regI hl (Eq.mpr (z11_g27_e _ (fun i => l.getD i undef) _) h) ?_
    clear h hl
    intro l H hl h
    refine thenN ?_
    refine blockR (c := z11_c14) rfl ?_
    refine rangeR (c := z11_c15) rfl ?_
    intro fn
    have h := h fn l hl rfl
    refine callL_mono (fun _ H2 h => ?_) h
    refine ⟨h.1, ?_⟩
    have h := h.2
    refine blkN ?_
    refine thenN ?_
    refine seqI (c := z11_c21) rfl ?_
    refine regI hl (Eq.mpr (z11_g33_e _ (fun i => l.getD i undef) _) h) ?_
    clear h hl
    intro l H hl h
    refine thenN ?_
    refine retI rfl ?_
    exact h
theorem z11_ok : okBR z11_pi z11_c1 = true := by kernel_rfl
theorem z11_ev0 (x0 x1 x2 : Value) (R : Value → Heap → Prop) (H : Heap) (h : persist_Period x0 x1 x2 R H) : EvL P N.persist_Period #[x0, x1, x2] H R :=
  EvR_intro (args := [x0, x1, x2]) (k := 33) (rs := z11_rs) tab_ok mixed Try.func11 (show Try.f11.body = some z11_c1 by kernel_rfl) Try.call11 Try.ntmps11 (by kernel_rfl) (okCodeR_of _ z11_ok) rfl (z11_i R x0 x1 x2 H h)
theorem z11_ev (x0 x1 x2 : Value) (R : Value → Heap → Prop) (H : Heap) (h : persist_Period x0 x1 x2 R H) : EvF P N.persist_Period #[x0, x1, x2] H R := .inl (z11_ev0 x0 x1 x2 R H h)
/- 12: sounder/sounderlaw10.works -/
def z12_rs : List ResultVar := [.tmp 0]
noncomputable def z12_c2 : Code := subC (bodyC Try.f12) [0]
noncomputable def z12_c4 : Code := subC (bodyC Try.f12) [1, 0]
noncomputable def z12_c7 : Code := subC (bodyC Try.f12) [1, 1, 0, 0]
noncomputable def z12_c10 : Code := subC (bodyC Try.f12) [1, 1, 0, 1, 0, 0]
noncomputable def z12_c9 : Code := .seq z12_c10 Code.ret
noncomputable def z12_c8 : Code := .cond (.tmp 18) z12_c9 Code.skip
noncomputable def z12_c6 : Code := .seq z12_c7 z12_c8
noncomputable def z12_c12 : Code := subC (bodyC Try.f12) [1, 1, 1, 0]
noncomputable def z12_c14 : Code := subC (bodyC Try.f12) [1, 1, 1, 1, 0]
noncomputable def z12_c13 : Code := .seq z12_c14 Code.ret
noncomputable def z12_c11 : Code := .seq z12_c12 z12_c13
noncomputable def z12_c5 : Code := .seq z12_c6 z12_c11
noncomputable def z12_c3 : Code := .seq z12_c4 z12_c5
noncomputable def z12_c1 : Code := .seq z12_c2 z12_c3
def z12_pi (_ : Nat) : Pl := .nil
def z12_g15 (S : Heap → Prop) (H : Heap) : Prop :=
  S H
theorem z12_g15_e (S : Heap → Prop) (x : Nat → Value) (H : Heap) : wpE tab P z12_pi z12_c2 (nQ fun _ H => S  H) ((List.range 48).map x) H = z12_g15 S  H := by kernel_rfl
def z12_g16 (S : Value → Heap → Prop) (H : Heap) : Prop :=
  EvF P N.sounderlaw10_four #[] H fun v3 H1 =>
  S v3 H1
theorem z12_g16_e (S : Value → Heap → Prop) (x : Nat → Value) (H : Heap) : wpE tab P z12_pi z12_c4 (nQ fun l H => S (l.getD 1 undef) H) ((List.range 48).map x) H = z12_g16 S  H := by kernel_rfl
def z12_g17 (S : Value → Value → Heap → Prop) (x1 : Value) (H : Heap) : Prop :=
  bnd (buildV #[(.int .i64 0), (.int .i64 0), (.int .i64 0)] (every 1) [(0, (.int .i64 190)), (1, (.int .i64 1)), (2, (.int .i64 8))]) fun v5 =>
  EvF P N.sounderlaw10_is #[x1, (.pointer none), (.int .i64 5), v5] H fun v6 H1 =>
  bnd (unV .not v6) fun v7 =>
  brV v7
  (S x1 (.bool true) H1)
  (bnd (buildV #[(.int .i64 0), (.int .i64 0), (.int .i64 0)] (every 1) [(0, (.int .i64 150)), (1, (.int .i64 3)), (2, (.int .i64 8))]) fun v10 =>
  EvF P N.sounderlaw10_is #[x1, (.pointer none), (.int .i64 10), v10] H1 fun v11 H2 =>
  bnd (unV .not v11) fun v12 =>
  brV v12
  (S x1 (.bool true) H2)
  (EvF P N.sounderlaw10_none #[x1, (.pointer none), (.int .i64 200)] H2 fun v16 H3 =>
  bnd (unV .not v16) fun v17 =>
  S x1 v17 H3))
theorem z12_g17_e (S : Value → Value → Heap → Prop) (x : Nat → Value) (H : Heap) : wpE tab P z12_pi z12_c7 (nQ fun l H => S (l.getD 1 undef) (l.getD 18 undef) H) ((List.range 48).map x) H = z12_g17 S (x 1) H := by kernel_rfl
def z12_g18 (S : Value → Heap → Prop) (H : Heap) : Prop :=
  S (.bool false) H
theorem z12_g18_e (S : Value → Heap → Prop) (x : Nat → Value) (H : Heap) : wpE tab P z12_pi z12_c10 (nQ fun l H => S (l.getD 0 undef) H) ((List.range 48).map x) H = z12_g18 S  H := by kernel_rfl
def z12_g19 (S : Value → Value → Heap → Prop) (x1 : Value) (H : Heap) : Prop :=
  bnd (buildV #[(.int .i64 0), (.int .i64 0), (.int .i64 0), (.int .i64 0), (.int .i64 0)] (places [(0, 1), (1, 1), (2, 1), (3, 1), (4, 1)]) [(0, (.int .i64 9)), (1, (.int .i64 9)), (2, (.int .i64 10)), (4, (.int .i64 5))]) fun v19 =>
  newE 36 #[(.int .i64 0), (.int .i64 0), (.int .i64 0), (.int .i64 0), (.int .i64 0)] H fun v2 H1 =>
  bnd (stE 5 v2 v19 H1) fun H2 =>
  S x1 v2 H2
theorem z12_g19_e (S : Value → Value → Heap → Prop) (x : Nat → Value) (H : Heap) : wpE tab P z12_pi z12_c12 (nQ fun l H => S (l.getD 1 undef) (l.getD 2 undef) H) ((List.range 48).map x) H = z12_g19 S (x 1) H := by kernel_rfl
def z12_g20 (S : Value → Heap → Prop) (x1 x2 : Value) (H : Heap) : Prop :=
  bnd (buildV #[(.int .i64 0), (.int .i64 0)] (places [(0, 1), (1, 1)]) [(0, (.int .i64 4)), (1, (.int .i64 4))]) fun v21 =>
  bslE 45 #[(.int .i64 0), (.int .i64 0)] 2 1 [(0, v21)] H fun v22 H1 =>
  EvF P N.sounderlaw10_set #[v22] H1 fun v23 H2 =>
  bnd (buildV #[(.int .i64 0), (.int .i64 0), (.int .i64 0)] (every 1) [(0, (.int .i64 140)), (1, (.int .i64 5)), (2, (.int .i64 8))]) fun v24 =>
  EvF P N.sounderlaw10_is #[x1, v23, (.int .i64 5), v24] H2 fun v25 H3 =>
  brV v25
  (bnd (buildV #[(.int .i64 0), (.int .i64 0)] (places [(0, 1), (1, 1)]) [(0, (.int .i64 2)), (1, (.int .i64 2))]) fun v28 =>
  bnd (buildV #[(.int .i64 0), (.int .i64 0)] (places [(0, 1), (1, 1)]) [(0, (.int .i64 6)), (1, (.int .i64 6))]) fun v29 =>
  bslE 45 #[(.int .i64 0), (.int .i64 0)] 2 2 [(0, v28), (1, v29)] H3 fun v30 H4 =>
  EvF P N.sounderlaw10_set #[v30] H4 fun v31 H5 =>
  bnd (buildV #[(.int .i64 0), (.int .i64 0), (.int .i64 0)] (every 1) [(0, (.int .i64 10)), (1, (.int .i64 3)), (2, (.int .i64 5))]) fun v32 =>
  EvF P N.sounderlaw10_is #[x1, v31, (.int .i64 5), v32] H5 fun v33 H6 =>
  brV v33
  (bnd (buildV #[(.int .i64 0), (.int .i64 0)] (places [(0, 1), (1, 1)]) [(0, (.int .i64 1)), (1, (.int .i64 9))]) fun v37 =>
  bslE 45 #[(.int .i64 0), (.int .i64 0)] 2 1 [(0, v37)] H6 fun v38 H7 =>
  EvF P N.sounderlaw10_set #[v38] H7 fun v39 H8 =>
  EvF P N.sounderlaw10_none #[x1, v39, (.int .i64 5)] H8 fun v40 H9 =>
  brV v40
  (bnd (ldE true 5 x2 H9) fun v44 =>
  EvF P N.persist_Is #[x1, (.pointer none), v44, (.int .i64 0)] H9 fun v45 H10 =>
  bnd (unV .not v45) fun v46 =>
  S v46 H10)
  (S (.bool false) H9))
  (S (.bool false) H6))
  (S (.bool false) H3)
theorem z12_g20_e (S : Value → Heap → Prop) (x : Nat → Value) (H : Heap) : wpE tab P z12_pi z12_c14 (nQ fun l H => S (l.getD 0 undef) H) ((List.range 48).map x) H = z12_g20 S (x 1) (x 2) H := by kernel_rfl
def sounderlaw10_works (R : Value → Heap → Prop) (H : Heap) : Prop :=
  z12_g15 (fun H => z12_g16 (fun x1 H => z12_g17 (fun x1 x18 H => brV x18
  (z12_g18 (fun x0 H => R x0 H) H)
  (z12_g19 (fun x1 x2 H => z12_g20 (fun x0 H => R x0 H) x1 x2 H) x1 H)) x1 H) H) H
theorem z12_i (R : Value → Heap → Prop) (H : Heap) (h : sounderlaw10_works  R H) : wpE tab P z12_pi z12_c1 (retQ tab z12_rs R) [undef, undef, undef, undef, undef, undef, undef, undef, undef, undef, undef, undef, undef, undef, undef, undef, undef, undef, undef, undef, undef, undef, undef, undef, undef, undef, undef, undef, undef, undef, undef, undef, undef, undef, undef, undef, undef, undef, undef, undef, undef, undef, undef, undef, undef, undef, undef, undef] H := by
  obtain ⟨l, hl, el⟩ : ∃ l : List Value, l.length = 48 ∧ l = [undef, undef, undef, undef, undef, undef, undef, undef, undef, undef, undef, undef, undef, undef, undef, undef, undef, undef, undef, undef, undef, undef, undef, undef, undef, undef, undef, undef, undef, undef, undef, undef, undef, undef, undef, undef, undef, undef, undef, undef, undef, undef, undef, undef, undef, undef, undef, undef] := ⟨_, rfl, rfl⟩
  rw [← el]
  have h : z12_g15 (fun H => z12_g16 (fun x1 H => z12_g17 (fun x1 x18 H => brV x18
(z12_g18 (fun x0 H => R x0 H) H)
(z12_g19 (fun x1 x2 H => z12_g20 (fun x0 H => R x0 H) x1 x2 H) x1 H)) x1 H) H) H := by exact h
  clear el
  refine seqI (c := z12_c1) rfl ?_
  refine regI hl (Eq.mpr (z12_g15_e _ (fun i => l.getD i undef) _) h) ?_
  clear h hl
  intro l H hl h
  refine thenN ?_
  refine seqI (c := z12_c3) rfl ?_
  refine regI hl (Eq.mpr (z12_g16_e _ (fun i => l.getD i undef) _) h) ?_
  clear h hl
  intro l H hl h
  refine thenN ?_
  refine seqI (c := z12_c5) rfl ?_
  refine seqI (c := z12_c6) rfl ?_
  refine regI hl (Eq.mpr (z12_g17_e _ (fun i => l.getD i undef) _) h) ?_
  clear h hl
  intro l H hl h
  refine thenN ?_
  refine condI (c := z12_c8) rfl h ?_ ?_
  · clear h; intro h
    refine seqI (c := z12_c9) rfl ?_
    refine regI hl (Eq.mpr (z12_g18_e _ (fun i => l.getD i undef) _) h) ?_
    clear h hl
    intro l H hl h
    refine thenN ?_
    refine retI rfl ?_
    refine thenR ?_
    exact h
  · clear h; intro h
    refine skipI rfl ?_
    refine thenN ?_
    refine seqI (c := z12_c11) rfl ?_
    refine regI hl (Eq.mpr (z12_g19_e _ (fun i => l.getD i undef) _) h) ?_
    clear h hl
    intro l H hl h
    refine thenN ?_
    refine seqI (c := z12_c13) rfl ?_
    refine regI hl (Eq.mpr (z12_g20_e _ (fun i => l.getD i undef) _) h) ?_
    clear h hl
    intro l H hl h
    refine thenN ?_
    refine retI rfl ?_
    exact h
theorem z12_ok : okB z12_pi z12_c1 = true := by kernel_rfl
theorem z12_ev0 (R : Value → Heap → Prop) (H : Heap) (h : sounderlaw10_works  R H) : EvL P N.sounderlaw10_works #[] H R :=
  EvF_intro (args := []) (k := 48) (rs := z12_rs) tab_ok mixed Try.func12 (show Try.f12.body = some z12_c1 by kernel_rfl) Try.call12 Try.ntmps12 (by kernel_rfl) (okCode_of _ z12_ok) rfl (z12_i R  H h)
theorem z12_ev (R : Value → Heap → Prop) (H : Heap) (h : sounderlaw10_works  R H) : EvF P N.sounderlaw10_works #[] H R := .inl (z12_ev0  R H h)
/- 13: sounder/sounderlaw10.at -/
def z13_rs : List ResultVar := [.cell 4 38]
noncomputable def z13_c2 : Code := subC (bodyC Try.f13) [0]
noncomputable def z13_c4 : Code := subC (bodyC Try.f13) [1, 0]
noncomputable def z13_c3 : Code := .seq z13_c4 Code.ret
noncomputable def z13_c1 : Code := .seq z13_c2 z13_c3
def z13_pi (_ : Nat) : Pl := .nil
def z13_g5 (S : Value → Value → Value → Heap → Prop) (x0 x1 : Value) (H : Heap) : Prop :=
  newE 38 #[(.int .i64 0), (.int .i64 0), (.int .i64 0), (.bool false), (.bool false), (.bool false)] H fun v4 H1 =>
  S x0 x1 v4 H1
theorem z13_g5_e (S : Value → Value → Value → Heap → Prop) (x : Nat → Value) (H : Heap) : wpE tab P z13_pi z13_c2 (nQ fun l H => S (l.getD 0 undef) (l.getD 1 undef) (l.getD 4 undef) H) ((List.range 8).map x) H = z13_g5 S (x 0) (x 1) H := by kernel_rfl
def z13_g6 (S : Value → Heap → Prop) (x0 x1 x4 : Value) (H : Heap) : Prop :=
  bnd (buildV #[(.int .i64 0), (.int .i64 0), (.int .i64 0), (.bool false), (.bool false), (.bool false)] (places [(0, 1), (1, 1), (2, 1), (3, 1), (4, 1), (5, 1)]) [(0, x0), (1, x1), (2, (.int .i64 100)), (3, (.bool true)), (4, (.bool true))]) fun v7 =>
  bnd (stE 6 x4 v7 H) fun H1 =>
  S x4 H1
theorem z13_g6_e (S : Value → Heap → Prop) (x : Nat → Value) (H : Heap) : wpE tab P z13_pi z13_c4 (nQ fun l H => S (l.getD 4 undef) H) ((List.range 8).map x) H = z13_g6 S (x 0) (x 1) (x 4) H := by kernel_rfl
def sounderlaw10_at (x0 x1 : Value) (R : Value → Heap → Prop) (H : Heap) : Prop :=
  z13_g5 (fun x0 x1 x4 H => z13_g6 (fun x4 H => bnd (ldE true 6 x4 H) fun r0 =>
  R r0 H) x0 x1 x4 H) x0 x1 H
theorem z13_i (R : Value → Heap → Prop) (x0 x1 : Value) (H : Heap) (h : sounderlaw10_at x0 x1 R H) : wpE tab P z13_pi z13_c1 (retQ tab z13_rs R) [x0, x1, undef, undef, undef, undef, undef, undef] H := by
  obtain ⟨l, hl, el⟩ : ∃ l : List Value, l.length = 8 ∧ l = [x0, x1, undef, undef, undef, undef, undef, undef] := ⟨_, rfl, rfl⟩
  rw [← el]
  have h : (fun (x0 x1 : Value) => z13_g5 (fun x0 x1 x4 H => z13_g6 (fun x4 H => bnd (ldE true 6 x4 H) fun r0 =>
R r0 H) x0 x1 x4 H) x0 x1 H) (l.getD 0 undef) (l.getD 1 undef) := by rw [el]; exact h
  clear el
  refine seqI (c := z13_c1) rfl ?_
  refine regI hl (Eq.mpr (z13_g5_e _ (fun i => l.getD i undef) _) h) ?_
  clear h hl
  intro l H hl h
  refine thenN ?_
  refine seqI (c := z13_c3) rfl ?_
  refine regI hl (Eq.mpr (z13_g6_e _ (fun i => l.getD i undef) _) h) ?_
  clear h hl
  intro l H hl h
  refine thenN ?_
  refine retI rfl ?_
  exact h
theorem z13_ok : okB z13_pi z13_c1 = true := by kernel_rfl
theorem z13_ev0 (x0 x1 : Value) (R : Value → Heap → Prop) (H : Heap) (h : sounderlaw10_at x0 x1 R H) : EvL P N.sounderlaw10_at #[x0, x1] H R :=
  EvF_intro (args := [x0, x1]) (k := 6) (rs := z13_rs) tab_ok mixed Try.func13 (show Try.f13.body = some z13_c1 by kernel_rfl) Try.call13 Try.ntmps13 (by kernel_rfl) (okCode_of _ z13_ok) rfl (z13_i R x0 x1 H h)
theorem z13_ev (x0 x1 : Value) (R : Value → Heap → Prop) (H : Heap) (h : sounderlaw10_at x0 x1 R H) : EvF P N.sounderlaw10_at #[x0, x1] H R := .inl (z13_ev0 x0 x1 R H h)
/- 14: sounder/persist.Is -/
def z14_rs : List ResultVar := [.tmp 8]
noncomputable def z14_c2 : Code := subC (bodyC Try.f14) [0]
noncomputable def z14_c4 : Code := subC (bodyC Try.f14) [1, 0]
noncomputable def z14_c6 : Code := subC (bodyC Try.f14) [1, 1, 0]
noncomputable def z14_c5 : Code := .seq z14_c6 Code.ret
noncomputable def z14_c3 : Code := .seq z14_c4 z14_c5
noncomputable def z14_c1 : Code := .seq z14_c2 z14_c3
def z14_pi (_ : Nat) : Pl := .nil
def z14_g7 (S : Value → Value → Value → Value → Heap → Prop) (x0 x1 x2 x3 : Value) (H : Heap) : Prop :=
  newE 36 (Value.cells x2) H fun v6 H1 =>
  S x0 x1 x3 v6 H1
theorem z14_g7_e (S : Value → Value → Value → Value → Heap → Prop) (x : Nat → Value) (H : Heap) : wpE tab P z14_pi z14_c2 (nQ fun l H => S (l.getD 0 undef) (l.getD 1 undef) (l.getD 3 undef) (l.getD 6 undef) H) ((List.range 36).map x) H = z14_g7 S (x 0) (x 1) (x 2) (x 3) H := by kernel_rfl
def z14_g8 (S : Value → Value → Value → Value → Heap → Prop) (x0 x1 x3 x6 : Value) (H : Heap) : Prop :=
  bnd (faV 4 x6) fun v16 =>
  bnd (ldE false 1 v16 H) fun v17 =>
  EvF P N.persist_Period #[x0, x1, v17] H fun v18 H1 =>
  bnd (exV 0 v18) fun v19 =>
  bnd (exV 1 v18) fun _ =>
  bnd (exV 2 v18) fun _ =>
  bnd (exV 3 v18) fun v22 =>
  S x3 x6 v19 v22 H1
theorem z14_g8_e (S : Value → Value → Value → Value → Heap → Prop) (x : Nat → Value) (H : Heap) : wpE tab P z14_pi z14_c4 (nQ fun l H => S (l.getD 3 undef) (l.getD 6 undef) (l.getD 9 undef) (l.getD 12 undef) H) ((List.range 36).map x) H = z14_g8 S (x 0) (x 1) (x 3) (x 6) H := by kernel_rfl
def z14_g9 (S : Value → Heap → Prop) (x3 x6 x9 x12 : Value) (H : Heap) : Prop :=
  brV x12
  (bnd (ldE true 5 x6 H) fun v25 =>
  EvF P N.rtt_Check #[v25] H fun v26 H1 =>
  bnd (binV .int .eql v26 (.int .i64 0)) fun v27 =>
  brV v27
  (bnd (ldE true 5 x6 H1) fun v31 =>
  EvF P N.pto_Persist #[v31, x3] H1 fun v33 H2 =>
  bnd (binV .int .gtr x9 v33) fun v34 =>
  S v34 H2)
  (S (.bool false) H1))
  (S (.bool false) H)
theorem z14_g9_e (S : Value → Heap → Prop) (x : Nat → Value) (H : Heap) : wpE tab P z14_pi z14_c6 (nQ fun l H => S (l.getD 8 undef) H) ((List.range 36).map x) H = z14_g9 S (x 3) (x 6) (x 9) (x 12) H := by kernel_rfl
def persist_Is (x0 x1 x2 x3 : Value) (R : Value → Heap → Prop) (H : Heap) : Prop :=
  z14_g7 (fun x0 x1 x3 x6 H => z14_g8 (fun x3 x6 x9 x12 H => z14_g9 (fun x8 H => R x8 H) x3 x6 x9 x12 H) x0 x1 x3 x6 H) x0 x1 x2 x3 H
theorem z14_i (R : Value → Heap → Prop) (x0 x1 x2 x3 : Value) (H : Heap) (h : persist_Is x0 x1 x2 x3 R H) : wpE tab P z14_pi z14_c1 (retQ tab z14_rs R) [x0, x1, x2, x3, undef, undef, undef, undef, undef, undef, undef, undef, undef, undef, undef, undef, undef, undef, undef, undef, undef, undef, undef, undef, undef, undef, undef, undef, undef, undef, undef, undef, undef, undef, undef, undef] H := by
  obtain ⟨l, hl, el⟩ : ∃ l : List Value, l.length = 36 ∧ l = [x0, x1, x2, x3, undef, undef, undef, undef, undef, undef, undef, undef, undef, undef, undef, undef, undef, undef, undef, undef, undef, undef, undef, undef, undef, undef, undef, undef, undef, undef, undef, undef, undef, undef, undef, undef] := ⟨_, rfl, rfl⟩
  rw [← el]
  have h : (fun (x0 x1 x2 x3 : Value) => z14_g7 (fun x0 x1 x3 x6 H => z14_g8 (fun x3 x6 x9 x12 H => z14_g9 (fun x8 H => R x8 H) x3 x6 x9 x12 H) x0 x1 x3 x6 H) x0 x1 x2 x3 H) (l.getD 0 undef) (l.getD 1 undef) (l.getD 2 undef) (l.getD 3 undef) := by rw [el]; exact h
  clear el
  refine seqI (c := z14_c1) rfl ?_
  refine regI hl (Eq.mpr (z14_g7_e _ (fun i => l.getD i undef) _) h) ?_
  clear h hl
  intro l H hl h
  refine thenN ?_
  refine seqI (c := z14_c3) rfl ?_
  refine regI hl (Eq.mpr (z14_g8_e _ (fun i => l.getD i undef) _) h) ?_
  clear h hl
  intro l H hl h
  refine thenN ?_
  refine seqI (c := z14_c5) rfl ?_
  refine regI hl (Eq.mpr (z14_g9_e _ (fun i => l.getD i undef) _) h) ?_
  clear h hl
  intro l H hl h
  refine thenN ?_
  refine retI rfl ?_
  exact h
theorem z14_ok : okB z14_pi z14_c1 = true := by kernel_rfl
theorem z14_ev0 (x0 x1 x2 x3 : Value) (R : Value → Heap → Prop) (H : Heap) (h : persist_Is x0 x1 x2 x3 R H) : EvL P N.persist_Is #[x0, x1, x2, x3] H R :=
  EvF_intro (args := [x0, x1, x2, x3]) (k := 32) (rs := z14_rs) tab_ok mixed Try.func14 (show Try.f14.body = some z14_c1 by kernel_rfl) Try.call14 Try.ntmps14 (by kernel_rfl) (okCode_of _ z14_ok) rfl (z14_i R x0 x1 x2 x3 H h)
theorem z14_ev (x0 x1 x2 x3 : Value) (R : Value → Heap → Prop) (H : Heap) (h : persist_Is x0 x1 x2 x3 R H) : EvF P N.persist_Is #[x0, x1, x2, x3] H R := .inl (z14_ev0 x0 x1 x2 x3 R H h)
/- 15: sounder/sounderlaw10.four -/
def z15_rs : List ResultVar := [.tmp 0]
noncomputable def z15_c2 : Code := subC (bodyC Try.f15) [0]
noncomputable def z15_c4 : Code := subC (bodyC Try.f15) [1, 0]
noncomputable def z15_c3 : Code := .seq z15_c4 Code.ret
noncomputable def z15_c1 : Code := .seq z15_c2 z15_c3
def z15_pi (_ : Nat) : Pl := .nil
def z15_g5 (S : Heap → Prop) (H : Heap) : Prop :=
  S H
theorem z15_g5_e (S : Heap → Prop) (x : Nat → Value) (H : Heap) : wpE tab P z15_pi z15_c2 (nQ fun _ H => S  H) ((List.range 6).map x) H = z15_g5 S  H := by kernel_rfl
def z15_g6 (S : Value → Heap → Prop) (H : Heap) : Prop :=
  EvF P N.sounderlaw10_at #[(.int .i64 1), (.int .i64 10)] H fun v1 H1 =>
  EvF P N.sounderlaw10_at #[(.int .i64 3), (.int .i64 50)] H1 fun v2 H2 =>
  EvF P N.sounderlaw10_at #[(.int .i64 5), (.int .i64 60)] H2 fun v3 H3 =>
  EvF P N.sounderlaw10_at #[(.int .i64 8), (.int .i64 200)] H3 fun v4 H4 =>
  bslE 38 #[(.int .i64 0), (.int .i64 0), (.int .i64 0), (.bool false), (.bool false), (.bool false)] 6 4 [(0, v1), (1, v2), (2, v3), (3, v4)] H4 fun v5 H5 =>
  S v5 H5
theorem z15_g6_e (S : Value → Heap → Prop) (x : Nat → Value) (H : Heap) : wpE tab P z15_pi z15_c4 (nQ fun l H => S (l.getD 0 undef) H) ((List.range 6).map x) H = z15_g6 S  H := by kernel_rfl
def sounderlaw10_four (R : Value → Heap → Prop) (H : Heap) : Prop :=
  z15_g5 (fun H => z15_g6 (fun x0 H => R x0 H) H) H
theorem z15_i (R : Value → Heap → Prop) (H : Heap) (h : sounderlaw10_four  R H) : wpE tab P z15_pi z15_c1 (retQ tab z15_rs R) [undef, undef, undef, undef, undef, undef] H := by
  obtain ⟨l, hl, el⟩ : ∃ l : List Value, l.length = 6 ∧ l = [undef, undef, undef, undef, undef, undef] := ⟨_, rfl, rfl⟩
  rw [← el]
  have h : z15_g5 (fun H => z15_g6 (fun x0 H => R x0 H) H) H := by exact h
  clear el
  refine seqI (c := z15_c1) rfl ?_
  refine regI hl (Eq.mpr (z15_g5_e _ (fun i => l.getD i undef) _) h) ?_
  clear h hl
  intro l H hl h
  refine thenN ?_
  refine seqI (c := z15_c3) rfl ?_
  refine regI hl (Eq.mpr (z15_g6_e _ (fun i => l.getD i undef) _) h) ?_
  clear h hl
  intro l H hl h
  refine thenN ?_
  refine retI rfl ?_
  exact h
theorem z15_ok : okB z15_pi z15_c1 = true := by kernel_rfl
theorem z15_ev0 (R : Value → Heap → Prop) (H : Heap) (h : sounderlaw10_four  R H) : EvL P N.sounderlaw10_four #[] H R :=
  EvF_intro (args := []) (k := 6) (rs := z15_rs) tab_ok mixed Try.func15 (show Try.f15.body = some z15_c1 by kernel_rfl) Try.call15 Try.ntmps15 (by kernel_rfl) (okCode_of _ z15_ok) rfl (z15_i R  H h)
theorem z15_ev (R : Value → Heap → Prop) (H : Heap) (h : sounderlaw10_four  R H) : EvF P N.sounderlaw10_four #[] H R := .inl (z15_ev0  R H h)
/- 16: sounder/sounderlaw10.PersistTells -/
def z16_rs : List ResultVar := [.tmp 6]
noncomputable def z16_c2 : Code := subC (bodyC Try.f16) [0]
noncomputable def z16_c4 : Code := subC (bodyC Try.f16) [1, 0]
noncomputable def z16_c6 : Code := subC (bodyC Try.f16) [1, 1, 0]
noncomputable def z16_c8 : Code := subC (bodyC Try.f16) [1, 1, 1, 0]
noncomputable def z16_c10 : Code := subC (bodyC Try.f16) [1, 1, 1, 1, 0]
noncomputable def z16_c12 : Code := subC (bodyC Try.f16) [1, 1, 1, 1, 1, 0]
noncomputable def z16_c14 : Code := subC (bodyC Try.f16) [1, 1, 1, 1, 1, 1, 0]
noncomputable def z16_c17 : Code := subC (bodyC Try.f16) [1, 1, 1, 1, 1, 1, 1, 0, 0]
noncomputable def z16_c20 : Code := subC (bodyC Try.f16) [1, 1, 1, 1, 1, 1, 1, 0, 1, 0, 0]
noncomputable def z16_c19 : Code := .seq z16_c20 Code.ret
noncomputable def z16_c18 : Code := .cond (.tmp 70) z16_c19 Code.skip
noncomputable def z16_c16 : Code := .seq z16_c17 z16_c18
noncomputable def z16_c23 : Code := subC (bodyC Try.f16) [1, 1, 1, 1, 1, 1, 1, 1, 0, 0]
noncomputable def z16_c28 : Code := subC (bodyC Try.f16) [1, 1, 1, 1, 1, 1, 1, 1, 0, 1, 0, 0, 0, 0]
noncomputable def z16_c30 : Code := .exit 0
noncomputable def z16_c29 : Code := .cond (.tmp 74) Code.skip z16_c30
noncomputable def z16_c27 : Code := .seq z16_c28 z16_c29
noncomputable def z16_c34 : Code := subC (bodyC Try.f16) [1, 1, 1, 1, 1, 1, 1, 1, 0, 1, 0, 0, 1, 0, 0, 0]
noncomputable def z16_c37 : Code := subC (bodyC Try.f16) [1, 1, 1, 1, 1, 1, 1, 1, 0, 1, 0, 0, 1, 0, 0, 1, 0, 0]
noncomputable def z16_c36 : Code := .seq z16_c37 Code.ret
noncomputable def z16_c35 : Code := .cond (.tmp 85) z16_c36 Code.skip
noncomputable def z16_c33 : Code := .seq z16_c34 z16_c35
noncomputable def z16_c32 : Code := .block 1 z16_c33
noncomputable def z16_c38 : Code := subC (bodyC Try.f16) [1, 1, 1, 1, 1, 1, 1, 1, 0, 1, 0, 0, 1, 1]
noncomputable def z16_c31 : Code := .seq z16_c32 z16_c38
noncomputable def z16_c26 : Code := .seq z16_c27 z16_c31
noncomputable def z16_c25 : Code := .loop z16_c26
noncomputable def z16_c24 : Code := .block 0 z16_c25
noncomputable def z16_c22 : Code := .seq z16_c23 z16_c24
noncomputable def z16_c41 : Code := subC (bodyC Try.f16) [1, 1, 1, 1, 1, 1, 1, 1, 1, 0, 0]
noncomputable def z16_c46 : Code := subC (bodyC Try.f16) [1, 1, 1, 1, 1, 1, 1, 1, 1, 0, 1, 0, 0, 0, 0]
noncomputable def z16_c48 : Code := .exit 2
noncomputable def z16_c47 : Code := .cond (.tmp 87) Code.skip z16_c48
noncomputable def z16_c45 : Code := .seq z16_c46 z16_c47
noncomputable def z16_c52 : Code := subC (bodyC Try.f16) [1, 1, 1, 1, 1, 1, 1, 1, 1, 0, 1, 0, 0, 1, 0, 0, 0]
noncomputable def z16_c55 : Code := subC (bodyC Try.f16) [1, 1, 1, 1, 1, 1, 1, 1, 1, 0, 1, 0, 0, 1, 0, 0, 1, 0, 0]
noncomputable def z16_c54 : Code := .seq z16_c55 Code.ret
noncomputable def z16_c53 : Code := .cond (.tmp 102) z16_c54 Code.skip
noncomputable def z16_c51 : Code := .seq z16_c52 z16_c53
noncomputable def z16_c50 : Code := .block 3 z16_c51
noncomputable def z16_c56 : Code := subC (bodyC Try.f16) [1, 1, 1, 1, 1, 1, 1, 1, 1, 0, 1, 0, 0, 1, 1]
noncomputable def z16_c49 : Code := .seq z16_c50 z16_c56
noncomputable def z16_c44 : Code := .seq z16_c45 z16_c49
noncomputable def z16_c43 : Code := .loop z16_c44
noncomputable def z16_c42 : Code := .block 2 z16_c43
noncomputable def z16_c40 : Code := .seq z16_c41 z16_c42
noncomputable def z16_c58 : Code := subC (bodyC Try.f16) [1, 1, 1, 1, 1, 1, 1, 1, 1, 1, 0]
noncomputable def z16_c57 : Code := .seq z16_c58 Code.ret
noncomputable def z16_c39 : Code := .seq z16_c40 z16_c57
noncomputable def z16_c21 : Code := .seq z16_c22 z16_c39
noncomputable def z16_c15 : Code := .seq z16_c16 z16_c21
noncomputable def z16_c13 : Code := .seq z16_c14 z16_c15
noncomputable def z16_c11 : Code := .seq z16_c12 z16_c13
noncomputable def z16_c9 : Code := .seq z16_c10 z16_c11
noncomputable def z16_c7 : Code := .seq z16_c8 z16_c9
noncomputable def z16_c5 : Code := .seq z16_c6 z16_c7
noncomputable def z16_c3 : Code := .seq z16_c4 z16_c5
noncomputable def z16_c1 : Code := .seq z16_c2 z16_c3
def z16_pi (i : Nat) : Pl := match i with
  | 12 => (ones [0, 1, 2, 3, 4, 5, 6, 7, 8] .nil)
  | 17 => (ones [0, 1, 2, 3, 4, 6, 7, 8, 9, 10, 5, 11, 12] .nil)
  | _ => .nil
def z16_g59 (S : Value → Value → Value → Heap → Prop) (x0 x1 x2 : Value) (H : Heap) : Prop :=
  newE 36 (Value.cells x2) H fun v5 H1 =>
  S x0 x1 v5 H1
theorem z16_g59_e (S : Value → Value → Value → Heap → Prop) (x : Nat → Value) (H : Heap) : wpE tab P z16_pi z16_c2 (nQ fun l H => S (l.getD 0 undef) (l.getD 1 undef) (l.getD 5 undef) H) ((List.range 104).map x) H = z16_g59 S (x 0) (x 1) (x 2) H := by kernel_rfl
def z16_g60 (S : Value → Value → Value → Heap → Prop) (x0 x1 x5 : Value) (H : Heap) : Prop :=
  bnd (lenV x0) fun v22 =>
  bnd (foldV min2V v22 [(.int .i64 40)]) fun v23 =>
  bnd (sliceV 6 x0 none (some v23)) fun v24 =>
  S v24 x1 x5 H
theorem z16_g60_e (S : Value → Value → Value → Heap → Prop) (x : Nat → Value) (H : Heap) : wpE tab P z16_pi z16_c4 (nQ fun l H => S (l.getD 0 undef) (l.getD 1 undef) (l.getD 5 undef) H) ((List.range 104).map x) H = z16_g60 S (x 0) (x 1) (x 5) H := by kernel_rfl
def z16_g61 (S : Value → Value → Value → Value → Heap → Prop) (x0 x1 x5 : Value) (H : Heap) : Prop :=
  S x0 x1 x5 (.slice none 0 0) H
theorem z16_g61_e (S : Value → Value → Value → Value → Heap → Prop) (x : Nat → Value) (H : Heap) : wpE tab P z16_pi z16_c6 (nQ fun l H => S (l.getD 0 undef) (l.getD 1 undef) (l.getD 5 undef) (l.getD 7 undef) H) ((List.range 104).map x) H = z16_g61 S (x 0) (x 1) (x 5) H := by kernel_rfl
def z16_g62 (S : Value → Value → Value → Value → Heap → Prop) (x0 x1 x5 x7 : Value) (H : Heap) : Prop :=
  appE 38 #[(.int .i64 0), (.int .i64 0), (.int .i64 0), (.bool false), (.bool false), (.bool false)] 6 32 x7 x0 H fun v27 H1 =>
  S x0 x1 x5 v27 H1
theorem z16_g62_e (S : Value → Value → Value → Value → Heap → Prop) (x : Nat → Value) (H : Heap) : wpE tab P z16_pi z16_c8 (nQ fun l H => S (l.getD 0 undef) (l.getD 1 undef) (l.getD 5 undef) (l.getD 7 undef) H) ((List.range 104).map x) H = z16_g62 S (x 0) (x 1) (x 5) (x 7) H := by kernel_rfl
def z16_g63 (S : Value → Value → Value → Value → Value → Heap → Prop) (x0 x1 x5 x7 : Value) (H : Heap) : Prop :=
  EvF P N.sounderlaw10_sets #[x1] H fun v30 H1 =>
  bnd (exV 0 v30) fun v31 =>
  bnd (exV 1 v30) fun v32 =>
  S x0 x5 x7 v31 v32 H1
theorem z16_g63_e (S : Value → Value → Value → Value → Value → Heap → Prop) (x : Nat → Value) (H : Heap) : wpE tab P z16_pi z16_c10 (nQ fun l H => S (l.getD 0 undef) (l.getD 5 undef) (l.getD 7 undef) (l.getD 8 undef) (l.getD 9 undef) H) ((List.range 104).map x) H = z16_g63 S (x 0) (x 1) (x 5) (x 7) H := by kernel_rfl
def z16_g64 (S : Value → Value → Value → Value → Value → Value → Value → Value → Value → Heap → Prop) (x0 x5 x7 x8 x9 : Value) (H : Heap) : Prop :=
  bnd (faV 4 x5) fun v36 =>
  bnd (ldE false 1 v36 H) fun v37 =>
  EvF P N.persist_Period #[x7, x8, v37] H fun v38 H1 =>
  bnd (exV 0 v38) fun v39 =>
  bnd (exV 1 v38) fun v40 =>
  bnd (exV 2 v38) fun v41 =>
  bnd (exV 3 v38) fun v42 =>
  S x0 x5 x7 x8 x9 v39 v40 v41 v42 H1
theorem z16_g64_e (S : Value → Value → Value → Value → Value → Value → Value → Value → Value → Heap → Prop) (x : Nat → Value) (H : Heap) : wpE tab P z16_pi z16_c12 (nQ fun l H => S (l.getD 0 undef) (l.getD 5 undef) (l.getD 7 undef) (l.getD 8 undef) (l.getD 9 undef) (l.getD 10 undef) (l.getD 11 undef) (l.getD 12 undef) (l.getD 13 undef) H) ((List.range 104).map x) H = z16_g64 S (x 0) (x 5) (x 7) (x 8) (x 9) H := by kernel_rfl
def z16_g65 (S : Value → Value → Value → Value → Value → Value → Value → Value → Value → Value → Value → Value → Value → Heap → Prop) (x0 x5 x7 x8 x9 x10 x11 x12 x13 : Value) (H : Heap) : Prop :=
  bnd (faV 4 x5) fun v46 =>
  bnd (ldE false 1 v46 H) fun v47 =>
  EvF P N.sounderref10_Period #[x0, x9, v47] H fun v48 H1 =>
  bnd (exV 0 v48) fun v49 =>
  bnd (exV 1 v48) fun v50 =>
  bnd (exV 2 v48) fun v51 =>
  bnd (exV 3 v48) fun v52 =>
  S x0 x5 x7 x8 x9 x10 x11 x12 x13 v49 v50 v51 v52 H1
theorem z16_g65_e (S : Value → Value → Value → Value → Value → Value → Value → Value → Value → Value → Value → Value → Value → Heap → Prop) (x : Nat → Value) (H : Heap) : wpE tab P z16_pi z16_c14 (nQ fun l H => S (l.getD 0 undef) (l.getD 5 undef) (l.getD 7 undef) (l.getD 8 undef) (l.getD 9 undef) (l.getD 10 undef) (l.getD 11 undef) (l.getD 12 undef) (l.getD 13 undef) (l.getD 14 undef) (l.getD 15 undef) (l.getD 16 undef) (l.getD 17 undef) H) ((List.range 104).map x) H = z16_g65 S (x 0) (x 5) (x 7) (x 8) (x 9) (x 10) (x 11) (x 12) (x 13) H := by kernel_rfl
def z16_g66 (S : Value → Value → Value → Value → Value → Value → Heap → Prop) (x0 x5 x7 x8 x9 x10 x11 x12 x13 x14 x15 x16 x17 : Value) (H : Heap) : Prop :=
  bnd (binV .int .neq x10 x14) fun v55 =>
  brV v55
  (S x0 x5 x7 x8 x9 (.bool true) H)
  (bnd (binV .int .neq x11 x15) fun v59 =>
  brV v59
  (S x0 x5 x7 x8 x9 (.bool true) H)
  (bnd (binV .int .neq x12 x16) fun v64 =>
  brV v64
  (S x0 x5 x7 x8 x9 (.bool true) H)
  (bnd (binV .bool .neq x13 x17) fun v69 =>
  S x0 x5 x7 x8 x9 v69 H)))
theorem z16_g66_e (S : Value → Value → Value → Value → Value → Value → Heap → Prop) (x : Nat → Value) (H : Heap) : wpE tab P z16_pi z16_c17 (nQ fun l H => S (l.getD 0 undef) (l.getD 5 undef) (l.getD 7 undef) (l.getD 8 undef) (l.getD 9 undef) (l.getD 70 undef) H) ((List.range 104).map x) H = z16_g66 S (x 0) (x 5) (x 7) (x 8) (x 9) (x 10) (x 11) (x 12) (x 13) (x 14) (x 15) (x 16) (x 17) H := by kernel_rfl
def z16_g67 (S : Value → Heap → Prop) (H : Heap) : Prop :=
  S (.bool false) H
theorem z16_g67_e (S : Value → Heap → Prop) (x : Nat → Value) (H : Heap) : wpE tab P z16_pi z16_c20 (nQ fun l H => S (l.getD 6 undef) H) ((List.range 104).map x) H = z16_g67 S  H := by kernel_rfl
def z16_g68 (S : Value → Value → Value → Value → Value → Value → Heap → Prop) (x0 x5 x7 x8 x9 : Value) (H : Heap) : Prop :=
  S x0 x5 x7 x8 x9 (.int .i64 0) H
theorem z16_g68_e (S : Value → Value → Value → Value → Value → Value → Heap → Prop) (x : Nat → Value) (H : Heap) : wpE tab P z16_pi z16_c23 (nQ fun l H => S (l.getD 0 undef) (l.getD 5 undef) (l.getD 7 undef) (l.getD 8 undef) (l.getD 9 undef) (l.getD 18 undef) H) ((List.range 104).map x) H = z16_g68 S (x 0) (x 5) (x 7) (x 8) (x 9) H := by kernel_rfl
def z16_g70 (S : Value → Value → Value → Value → Value → Value → Value → Heap → Prop) (x0 x5 x7 x8 x9 x18 : Value) (H : Heap) : Prop :=
  bnd (lenV x0) fun v73 =>
  bnd (binV .int .lss x18 v73) fun v74 =>
  S x0 x5 x7 x8 x9 x18 v74 H
theorem z16_g70_e (S : Value → Value → Value → Value → Value → Value → Value → Heap → Prop) (x : Nat → Value) (H : Heap) : wpE tab P z16_pi z16_c28 (nQ fun l H => S (l.getD 0 undef) (l.getD 5 undef) (l.getD 7 undef) (l.getD 8 undef) (l.getD 9 undef) (l.getD 18 undef) (l.getD 74 undef) H) ((List.range 104).map x) H = z16_g70 S (x 0) (x 5) (x 7) (x 8) (x 9) (x 18) H := by kernel_rfl
def z16_g71 (S : Value → Value → Value → Value → Value → Value → Value → Heap → Prop) (x0 x5 x7 x8 x9 x18 : Value) (H : Heap) : Prop :=
  bnd (ixSV 6 x7 x18) fun v79 =>
  bnd (ldE true 6 v79 H) fun v80 =>
  bnd (ixSV 6 x0 x18) fun v83 =>
  bnd (ldE true 6 v83 H) fun v84 =>
  bnd (binV (.agg [true, true, true, false, false, false]) .neq v80 v84) fun v85 =>
  S x0 x5 x7 x8 x9 x18 v85 H
theorem z16_g71_e (S : Value → Value → Value → Value → Value → Value → Value → Heap → Prop) (x : Nat → Value) (H : Heap) : wpE tab P z16_pi z16_c34 (nQ fun l H => S (l.getD 0 undef) (l.getD 5 undef) (l.getD 7 undef) (l.getD 8 undef) (l.getD 9 undef) (l.getD 18 undef) (l.getD 85 undef) H) ((List.range 104).map x) H = z16_g71 S (x 0) (x 5) (x 7) (x 8) (x 9) (x 18) H := by kernel_rfl
def z16_g72 (S : Value → Heap → Prop) (H : Heap) : Prop :=
  S (.bool false) H
theorem z16_g72_e (S : Value → Heap → Prop) (x : Nat → Value) (H : Heap) : wpE tab P z16_pi z16_c37 (nQ fun l H => S (l.getD 6 undef) H) ((List.range 104).map x) H = z16_g72 S  H := by kernel_rfl
def z16_g73 (S : Value → Value → Value → Value → Value → Value → Heap → Prop) (x0 x5 x7 x8 x9 x18 : Value) (H : Heap) : Prop :=
  bnd (binV .int .add x18 (.int .i64 1)) fun v76 =>
  S x0 x5 x7 x8 x9 v76 H
theorem z16_g73_e (S : Value → Value → Value → Value → Value → Value → Heap → Prop) (x : Nat → Value) (H : Heap) : wpE tab P z16_pi z16_c38 (nQ fun l H => S (l.getD 0 undef) (l.getD 5 undef) (l.getD 7 undef) (l.getD 8 undef) (l.getD 9 undef) (l.getD 18 undef) H) ((List.range 104).map x) H = z16_g73 S (x 0) (x 5) (x 7) (x 8) (x 9) (x 18) H := by kernel_rfl
def z16_g74 (S : Value → Value → Value → Value → Value → Value → Heap → Prop) (x0 x5 x7 x8 x9 : Value) (H : Heap) : Prop :=
  S x0 x5 x7 x8 x9 (.int .i64 (-1)) H
theorem z16_g74_e (S : Value → Value → Value → Value → Value → Value → Heap → Prop) (x : Nat → Value) (H : Heap) : wpE tab P z16_pi z16_c41 (nQ fun l H => S (l.getD 0 undef) (l.getD 5 undef) (l.getD 7 undef) (l.getD 8 undef) (l.getD 9 undef) (l.getD 19 undef) H) ((List.range 104).map x) H = z16_g74 S (x 0) (x 5) (x 7) (x 8) (x 9) H := by kernel_rfl
def z16_g76 (S : Value → Value → Value → Value → Value → Value → Value → Heap → Prop) (x0 x5 x7 x8 x9 x19 : Value) (H : Heap) : Prop :=
  bnd (binV .int .lss x19 (.int .i64 3)) fun v87 =>
  S x0 x5 x7 x8 x9 x19 v87 H
theorem z16_g76_e (S : Value → Value → Value → Value → Value → Value → Value → Heap → Prop) (x : Nat → Value) (H : Heap) : wpE tab P z16_pi z16_c46 (nQ fun l H => S (l.getD 0 undef) (l.getD 5 undef) (l.getD 7 undef) (l.getD 8 undef) (l.getD 9 undef) (l.getD 19 undef) (l.getD 87 undef) H) ((List.range 104).map x) H = z16_g76 S (x 0) (x 5) (x 7) (x 8) (x 9) (x 19) H := by kernel_rfl
def z16_g77 (S : Value → Value → Value → Value → Value → Value → Value → Heap → Prop) (x0 x5 x7 x8 x9 x19 : Value) (H : Heap) : Prop :=
  bnd (ldE true 5 x5 H) fun v92 =>
  bnd (binV .int .mul x19 (.int .i64 1000000)) fun v94 =>
  bnd (ldE true 5 x5 H) fun v98 =>
  bnd (binV .int .mul x19 (.int .i64 1000000)) fun v100 =>
  EvF P N.persist_Is #[x7, x8, v92, v94] H fun v95 H1 =>
  ((bnd (ldE true 5 x5 H1) fun v' => v' = v98) ∧
  EvF P N.sounderref10_Is #[x0, x9, v98, v100] H1 fun v101 H2 =>
  bnd (binV .bool .neq v95 v101) fun v102 =>
  S x0 x5 x7 x8 x9 x19 v102 H2)
theorem z16_g77_e (S : Value → Value → Value → Value → Value → Value → Value → Heap → Prop) (x : Nat → Value) (H : Heap) : wpE tab P z16_pi z16_c52 (nQ fun l H => S (l.getD 0 undef) (l.getD 5 undef) (l.getD 7 undef) (l.getD 8 undef) (l.getD 9 undef) (l.getD 19 undef) (l.getD 102 undef) H) ((List.range 104).map x) H = z16_g77 S (x 0) (x 5) (x 7) (x 8) (x 9) (x 19) H := by kernel_rfl
def z16_g78 (S : Value → Heap → Prop) (H : Heap) : Prop :=
  S (.bool false) H
theorem z16_g78_e (S : Value → Heap → Prop) (x : Nat → Value) (H : Heap) : wpE tab P z16_pi z16_c55 (nQ fun l H => S (l.getD 6 undef) H) ((List.range 104).map x) H = z16_g78 S  H := by kernel_rfl
def z16_g79 (S : Value → Value → Value → Value → Value → Value → Heap → Prop) (x0 x5 x7 x8 x9 x19 : Value) (H : Heap) : Prop :=
  bnd (binV .int .add x19 (.int .i64 1)) fun v89 =>
  S x0 x5 x7 x8 x9 v89 H
theorem z16_g79_e (S : Value → Value → Value → Value → Value → Value → Heap → Prop) (x : Nat → Value) (H : Heap) : wpE tab P z16_pi z16_c56 (nQ fun l H => S (l.getD 0 undef) (l.getD 5 undef) (l.getD 7 undef) (l.getD 8 undef) (l.getD 9 undef) (l.getD 19 undef) H) ((List.range 104).map x) H = z16_g79 S (x 0) (x 5) (x 7) (x 8) (x 9) (x 19) H := by kernel_rfl
def z16_g80 (S : Value → Heap → Prop) (H : Heap) : Prop :=
  EvF P N.sounderlaw10_works #[] H fun v103 H1 =>
  S v103 H1
theorem z16_g80_e (S : Value → Heap → Prop) (x : Nat → Value) (H : Heap) : wpE tab P z16_pi z16_c58 (nQ fun l H => S (l.getD 6 undef) H) ((List.range 104).map x) H = z16_g80 S  H := by kernel_rfl
def z16_s75 (x0 x5 x7 x8 x9 x19 : Value) (K2 : Value → Value → Value → Value → Value → Value →  Heap → Prop) (R : Value → Heap → Prop) (H : Heap) : Prop :=
  z16_g76 (fun x0 x5 x7 x8 x9 x19 x87 H => brV x87
  (z16_g77 (fun x0 x5 x7 x8 x9 x19 x102 H => brV x102
  (z16_g78 (fun x6 H => R x6 H) H)
  (z16_g79 (fun x0 x5 x7 x8 x9 x19 H => K2 x0 x5 x7 x8 x9 x19 H) x0 x5 x7 x8 x9 x19 H)) x0 x5 x7 x8 x9 x19 H)
  (z16_g80 (fun x6 H => R x6 H) H)) x0 x5 x7 x8 x9 x19 H
noncomputable def z16_q81 (R : Value → Heap → Prop) : Exit → List Value → Heap → Prop := (retQ tab z16_rs R)
noncomputable def z16_q82 (R : Value → Heap → Prop) : Exit → List Value → Heap → Prop := (thenE (fun l H => wpE tab P z16_pi z16_c57 (z16_q81 R) l H) (z16_q81 R))
noncomputable def z16_q83 (R : Value → Heap → Prop) : Exit → List Value → Heap → Prop := (blkE 2 (z16_q82 R))
noncomputable def z16_q84 (K2 : Value → Value → Value → Value → Value → Value →  Heap → Prop) (R : Value → Heap → Prop) : Exit → List Value → Heap → Prop := (thenE (fun l H => K2 (l.getD 0 undef) (l.getD 5 undef) (l.getD 7 undef) (l.getD 8 undef) (l.getD 9 undef) (l.getD 19 undef) H) (z16_q83 R))
theorem z16_s75_i (K2 : Value → Value → Value → Value → Value → Value →  Heap → Prop) (R : Value → Heap → Prop) (l : List Value) (H : Heap) (hl : l.length = 104) (h : z16_s75 (l.getD 0 undef) (l.getD 5 undef) (l.getD 7 undef) (l.getD 8 undef) (l.getD 9 undef) (l.getD 19 undef) K2 R H) : wpE tab P z16_pi z16_c44 (z16_q84 K2 R) l H := by
  refine seqI (c := z16_c44) rfl ?_
  refine seqI (c := z16_c45) rfl ?_
  refine regI hl (Eq.mpr (z16_g76_e _ (fun i => l.getD i undef) _) h) ?_
  clear h hl
  intro l H hl h
  refine thenN ?_
  refine condI (c := z16_c47) rfl h ?_ ?_
  · clear h; intro h
    refine skipI rfl ?_
    refine thenN ?_
    refine seqI (c := z16_c49) rfl ?_
    refine blockI (c := z16_c50) rfl ?_
    refine seqI (c := z16_c51) rfl ?_
    refine regI hl (Eq.mpr (z16_g77_e _ (fun i => l.getD i undef) _) h) ?_
    clear h hl
    intro l H hl h
    refine thenN ?_
    refine condI (c := z16_c53) rfl h ?_ ?_
    · clear h; intro h
      refine seqI (c := z16_c54) rfl ?_
      refine regI hl (Eq.mpr (z16_g78_e _ (fun i => l.getD i undef) _) h) ?_
      clear h hl
      intro l H hl h
      refine thenN ?_
      refine retI rfl ?_
      refine blkR ?_
      refine thenR ?_
      refine thenR ?_
      refine blkR ?_
      refine thenR ?_
      exact h
    · clear h; intro h
      refine skipI rfl ?_
      refine blkN ?_
      refine thenN ?_
      refine regI hl (Eq.mpr (z16_g79_e _ (fun i => l.getD i undef) _) h) ?_
      clear h hl
      intro l H hl h
      refine thenN ?_
      exact h
  · clear h; intro h
    refine exitI (c := z16_c48) rfl ?_
    refine thenX ?_
    refine thenX ?_
    refine blkX ?_
    refine thenN ?_
    refine seqI (c := z16_c57) rfl ?_
    refine regI hl (Eq.mpr (z16_g80_e _ (fun i => l.getD i undef) _) h) ?_
    clear h hl
    intro l H hl h
    refine thenN ?_
    refine retI rfl ?_
    exact h
def z16_l85 (x0 x5 x7 x8 x9 x19 : Value) (R : Value → Heap → Prop) (H : Heap) : Prop :=
  ∃ (I : Value → Heap → Prop) (μ : Value → Heap → Nat), I x19 H ∧ ∀ (y19 : Value) (H : Heap), I y19 H → z16_s75 x0 x5 x7 x8 x9 y19 (fun z0 z5 z7 z8 z9 z19 H' => z0 = x0 ∧ z5 = x5 ∧ z7 = x7 ∧ z8 = x8 ∧ z9 = x9 ∧ (I z19 H' ∧ μ z19 H' < μ y19 H)) R H
def z16_s69 (x0 x5 x7 x8 x9 x18 : Value) (K1 : Value → Value → Value → Value → Value → Value →  Heap → Prop) (R : Value → Heap → Prop) (H : Heap) : Prop :=
  z16_g70 (fun x0 x5 x7 x8 x9 x18 x74 H => brV x74
  (z16_g71 (fun x0 x5 x7 x8 x9 x18 x85 H => brV x85
  (z16_g72 (fun x6 H => R x6 H) H)
  (z16_g73 (fun x0 x5 x7 x8 x9 x18 H => K1 x0 x5 x7 x8 x9 x18 H) x0 x5 x7 x8 x9 x18 H)) x0 x5 x7 x8 x9 x18 H)
  (z16_g74 (fun x0 x5 x7 x8 x9 x19 H => z16_l85 x0 x5 x7 x8 x9 x19 R H) x0 x5 x7 x8 x9 H)) x0 x5 x7 x8 x9 x18 H
noncomputable def z16_q86 (R : Value → Heap → Prop) : Exit → List Value → Heap → Prop := (thenE (fun l H => wpE tab P z16_pi z16_c39 (z16_q81 R) l H) (z16_q81 R))
noncomputable def z16_q87 (R : Value → Heap → Prop) : Exit → List Value → Heap → Prop := (blkE 0 (z16_q86 R))
noncomputable def z16_q88 (K1 : Value → Value → Value → Value → Value → Value →  Heap → Prop) (R : Value → Heap → Prop) : Exit → List Value → Heap → Prop := (thenE (fun l H => K1 (l.getD 0 undef) (l.getD 5 undef) (l.getD 7 undef) (l.getD 8 undef) (l.getD 9 undef) (l.getD 18 undef) H) (z16_q87 R))
theorem z16_s69_i (K1 : Value → Value → Value → Value → Value → Value →  Heap → Prop) (R : Value → Heap → Prop) (l : List Value) (H : Heap) (hl : l.length = 104) (h : z16_s69 (l.getD 0 undef) (l.getD 5 undef) (l.getD 7 undef) (l.getD 8 undef) (l.getD 9 undef) (l.getD 18 undef) K1 R H) : wpE tab P z16_pi z16_c26 (z16_q88 K1 R) l H := by
  refine seqI (c := z16_c26) rfl ?_
  refine seqI (c := z16_c27) rfl ?_
  refine regI hl (Eq.mpr (z16_g70_e _ (fun i => l.getD i undef) _) h) ?_
  clear h hl
  intro l H hl h
  refine thenN ?_
  refine condI (c := z16_c29) rfl h ?_ ?_
  · clear h; intro h
    refine skipI rfl ?_
    refine thenN ?_
    refine seqI (c := z16_c31) rfl ?_
    refine blockI (c := z16_c32) rfl ?_
    refine seqI (c := z16_c33) rfl ?_
    refine regI hl (Eq.mpr (z16_g71_e _ (fun i => l.getD i undef) _) h) ?_
    clear h hl
    intro l H hl h
    refine thenN ?_
    refine condI (c := z16_c35) rfl h ?_ ?_
    · clear h; intro h
      refine seqI (c := z16_c36) rfl ?_
      refine regI hl (Eq.mpr (z16_g72_e _ (fun i => l.getD i undef) _) h) ?_
      clear h hl
      intro l H hl h
      refine thenN ?_
      refine retI rfl ?_
      refine blkR ?_
      refine thenR ?_
      refine thenR ?_
      refine blkR ?_
      refine thenR ?_
      exact h
    · clear h; intro h
      refine skipI rfl ?_
      refine blkN ?_
      refine thenN ?_
      refine regI hl (Eq.mpr (z16_g73_e _ (fun i => l.getD i undef) _) h) ?_
      clear h hl
      intro l H hl h
      refine thenN ?_
      exact h
  · clear h; intro h
    refine exitI (c := z16_c30) rfl ?_
    refine thenX ?_
    refine thenX ?_
    refine blkX ?_
    refine thenN ?_
    refine seqI (c := z16_c39) rfl ?_
    refine seqI (c := z16_c40) rfl ?_
    refine regI hl (Eq.mpr (z16_g74_e _ (fun i => l.getD i undef) _) h) ?_
    clear h hl
    intro l H hl h
    refine thenN ?_
    refine blockI (c := z16_c42) rfl ?_
    obtain ⟨I, μ, h0, hr⟩ := h
    refine loopI (c := z16_c43) rfl (fun l' H' => l'.getD 0 undef = l.getD 0 undef ∧ l'.getD 5 undef = l.getD 5 undef ∧ l'.getD 7 undef = l.getD 7 undef ∧ l'.getD 8 undef = l.getD 8 undef ∧ l'.getD 9 undef = l.getD 9 undef ∧ I (l'.getD 19 undef) H') (fun l' H' => μ (l'.getD 19 undef) H') hl ⟨rfl, rfl, rfl, rfl, rfl, h0⟩ ?_
    rintro l1 H1 hl1 ⟨e0, e5, e7, e8, e9, hI⟩
    have hb := hr (l1.getD 19 undef) H1 hI
    rw [← e0, ← e5, ← e7, ← e8, ← e9] at hb
    refine wpE_mono _ l1 H1 hl1 ?_ (z16_s75_i _ R l1 H1 hl1 hb)
    intro e l2 H2 hl2 hq
    cases e with
    | normal => exact fun _ => (by obtain ⟨d0, d5, d7, d8, d9, g1, g2⟩ := hq; exact ⟨⟨d0.trans e0, d5.trans e5, d7.trans e7, d8.trans e8, d9.trans e9, g1⟩, g2⟩)
    | _ => exact hq
def z16_l89 (x0 x5 x7 x8 x9 x18 : Value) (R : Value → Heap → Prop) (H : Heap) : Prop :=
  ∃ (I : Value → Heap → Prop) (μ : Value → Heap → Nat), I x18 H ∧ ∀ (y18 : Value) (H : Heap), I y18 H → z16_s69 x0 x5 x7 x8 x9 y18 (fun z0 z5 z7 z8 z9 z18 H' => z0 = x0 ∧ z5 = x5 ∧ z7 = x7 ∧ z8 = x8 ∧ z9 = x9 ∧ (I z18 H' ∧ μ z18 H' < μ y18 H)) R H
def sounderlaw10_PersistTells (x0 x1 x2 : Value) (R : Value → Heap → Prop) (H : Heap) : Prop :=
  z16_g59 (fun x0 x1 x5 H => z16_g60 (fun x0 x1 x5 H => z16_g61 (fun x0 x1 x5 x7 H => z16_g62 (fun x0 x1 x5 x7 H => z16_g63 (fun x0 x5 x7 x8 x9 H => z16_g64 (fun x0 x5 x7 x8 x9 x10 x11 x12 x13 H => z16_g65 (fun x0 x5 x7 x8 x9 x10 x11 x12 x13 x14 x15 x16 x17 H => z16_g66 (fun x0 x5 x7 x8 x9 x70 H => brV x70
  (z16_g67 (fun x6 H => R x6 H) H)
  (z16_g68 (fun x0 x5 x7 x8 x9 x18 H => z16_l89 x0 x5 x7 x8 x9 x18 R H) x0 x5 x7 x8 x9 H)) x0 x5 x7 x8 x9 x10 x11 x12 x13 x14 x15 x16 x17 H) x0 x5 x7 x8 x9 x10 x11 x12 x13 H) x0 x5 x7 x8 x9 H) x0 x1 x5 x7 H) x0 x1 x5 x7 H) x0 x1 x5 H) x0 x1 x5 H) x0 x1 x2 H
theorem z16_i (R : Value → Heap → Prop) (x0 x1 x2 : Value) (H : Heap) (h : sounderlaw10_PersistTells x0 x1 x2 R H) : wpE tab P z16_pi z16_c1 (retQ tab z16_rs R) [x0, x1, x2, undef, undef, undef, undef, undef, undef, undef, undef, undef, undef, undef, undef, undef, undef, undef, undef, undef, undef, undef, undef, undef, undef, undef, undef, undef, undef, undef, undef, undef, undef, undef, undef, undef, undef, undef, undef, undef, undef, undef, undef, undef, undef, undef, undef, undef, undef, undef, undef, undef, undef, undef, undef, undef, undef, undef, undef, undef, undef, undef, undef, undef, undef, undef, undef, undef, undef, undef, undef, undef, undef, undef, undef, undef, undef, undef, undef, undef, undef, undef, undef, undef, undef, undef, undef, undef, undef, undef, undef, undef, undef, undef, undef, undef, undef, undef, undef, undef, undef, undef, undef, undef] H := by
  obtain ⟨l, hl, el⟩ : ∃ l : List Value, l.length = 104 ∧ l = [x0, x1, x2, undef, undef, undef, undef, undef, undef, undef, undef, undef, undef, undef, undef, undef, undef, undef, undef, undef, undef, undef, undef, undef, undef, undef, undef, undef, undef, undef, undef, undef, undef, undef, undef, undef, undef, undef, undef, undef, undef, undef, undef, undef, undef, undef, undef, undef, undef, undef, undef, undef, undef, undef, undef, undef, undef, undef, undef, undef, undef, undef, undef, undef, undef, undef, undef, undef, undef, undef, undef, undef, undef, undef, undef, undef, undef, undef, undef, undef, undef, undef, undef, undef, undef, undef, undef, undef, undef, undef, undef, undef, undef, undef, undef, undef, undef, undef, undef, undef, undef, undef, undef, undef] := ⟨_, rfl, rfl⟩
  rw [← el]
  have h : (fun (x0 x1 x2 : Value) => z16_g59 (fun x0 x1 x5 H => z16_g60 (fun x0 x1 x5 H => z16_g61 (fun x0 x1 x5 x7 H => z16_g62 (fun x0 x1 x5 x7 H => z16_g63 (fun x0 x5 x7 x8 x9 H => z16_g64 (fun x0 x5 x7 x8 x9 x10 x11 x12 x13 H => z16_g65 (fun x0 x5 x7 x8 x9 x10 x11 x12 x13 x14 x15 x16 x17 H => z16_g66 (fun x0 x5 x7 x8 x9 x70 H => brV x70
(z16_g67 (fun x6 H => R x6 H) H)
(z16_g68 (fun x0 x5 x7 x8 x9 x18 H => z16_l89 x0 x5 x7 x8 x9 x18 R H) x0 x5 x7 x8 x9 H)) x0 x5 x7 x8 x9 x10 x11 x12 x13 x14 x15 x16 x17 H) x0 x5 x7 x8 x9 x10 x11 x12 x13 H) x0 x5 x7 x8 x9 H) x0 x1 x5 x7 H) x0 x1 x5 x7 H) x0 x1 x5 H) x0 x1 x5 H) x0 x1 x2 H) (l.getD 0 undef) (l.getD 1 undef) (l.getD 2 undef) := by rw [el]; exact h
  clear el
  refine seqI (c := z16_c1) rfl ?_
  refine regI hl (Eq.mpr (z16_g59_e _ (fun i => l.getD i undef) _) h) ?_
  clear h hl
  intro l H hl h
  refine thenN ?_
  refine seqI (c := z16_c3) rfl ?_
  refine regI hl (Eq.mpr (z16_g60_e _ (fun i => l.getD i undef) _) h) ?_
  clear h hl
  intro l H hl h
  refine thenN ?_
  refine seqI (c := z16_c5) rfl ?_
  refine regI hl (Eq.mpr (z16_g61_e _ (fun i => l.getD i undef) _) h) ?_
  clear h hl
  intro l H hl h
  refine thenN ?_
  refine seqI (c := z16_c7) rfl ?_
  refine regI hl (Eq.mpr (z16_g62_e _ (fun i => l.getD i undef) _) h) ?_
  clear h hl
  intro l H hl h
  refine thenN ?_
  refine seqI (c := z16_c9) rfl ?_
  refine regI hl (Eq.mpr (z16_g63_e _ (fun i => l.getD i undef) _) h) ?_
  clear h hl
  intro l H hl h
  refine thenN ?_
  refine seqI (c := z16_c11) rfl ?_
  refine regI hl (Eq.mpr (z16_g64_e _ (fun i => l.getD i undef) _) h) ?_
  clear h hl
  intro l H hl h
  refine thenN ?_
  refine seqI (c := z16_c13) rfl ?_
  refine regI hl (Eq.mpr (z16_g65_e _ (fun i => l.getD i undef) _) h) ?_
  clear h hl
  intro l H hl h
  refine thenN ?_
  refine seqI (c := z16_c15) rfl ?_
  refine seqI (c := z16_c16) rfl ?_
  refine regI hl (Eq.mpr (z16_g66_e _ (fun i => l.getD i undef) _) h) ?_
  clear h hl
  intro l H hl h
  refine thenN ?_
  refine condI (c := z16_c18) rfl h ?_ ?_
  · clear h; intro h
    refine seqI (c := z16_c19) rfl ?_
    refine regI hl (Eq.mpr (z16_g67_e _ (fun i => l.getD i undef) _) h) ?_
    clear h hl
    intro l H hl h
    refine thenN ?_
    refine retI rfl ?_
    refine thenR ?_
    exact h
  · clear h; intro h
    refine skipI rfl ?_
    refine thenN ?_
    refine seqI (c := z16_c21) rfl ?_
    refine seqI (c := z16_c22) rfl ?_
    refine regI hl (Eq.mpr (z16_g68_e _ (fun i => l.getD i undef) _) h) ?_
    clear h hl
    intro l H hl h
    refine thenN ?_
    refine blockI (c := z16_c24) rfl ?_
    obtain ⟨I, μ, h0, hr⟩ := h
    refine loopI (c := z16_c25) rfl (fun l' H' => l'.getD 0 undef = l.getD 0 undef ∧ l'.getD 5 undef = l.getD 5 undef ∧ l'.getD 7 undef = l.getD 7 undef ∧ l'.getD 8 undef = l.getD 8 undef ∧ l'.getD 9 undef = l.getD 9 undef ∧ I (l'.getD 18 undef) H') (fun l' H' => μ (l'.getD 18 undef) H') hl ⟨rfl, rfl, rfl, rfl, rfl, h0⟩ ?_
    rintro l1 H1 hl1 ⟨e0, e5, e7, e8, e9, hI⟩
    have hb := hr (l1.getD 18 undef) H1 hI
    rw [← e0, ← e5, ← e7, ← e8, ← e9] at hb
    refine wpE_mono _ l1 H1 hl1 ?_ (z16_s69_i _ R l1 H1 hl1 hb)
    intro e l2 H2 hl2 hq
    cases e with
    | normal => exact fun _ => (by obtain ⟨d0, d5, d7, d8, d9, g1, g2⟩ := hq; exact ⟨⟨d0.trans e0, d5.trans e5, d7.trans e7, d8.trans e8, d9.trans e9, g1⟩, g2⟩)
    | _ => exact hq
theorem z16_ok : okB z16_pi z16_c1 = true := by kernel_rfl
theorem z16_ev0 (x0 x1 x2 : Value) (R : Value → Heap → Prop) (H : Heap) (h : sounderlaw10_PersistTells x0 x1 x2 R H) : EvL P N.sounderlaw10_PersistTells #[x0, x1, x2] H R :=
  EvF_intro (args := [x0, x1, x2]) (k := 101) (rs := z16_rs) tab_ok mixed Try.func16 (show Try.f16.body = some z16_c1 by kernel_rfl) Try.call16 Try.ntmps16 (by kernel_rfl) (okCode_of _ z16_ok) rfl (z16_i R x0 x1 x2 H h)
theorem z16_ev (x0 x1 x2 : Value) (R : Value → Heap → Prop) (H : Heap) (h : sounderlaw10_PersistTells x0 x1 x2 R H) : EvF P N.sounderlaw10_PersistTells #[x0, x1, x2] H R := .inl (z16_ev0 x0 x1 x2 R H h)
end Go.Hc
