/- Functions, printed by gen.py. -/
import Derived.Test.YtbchcnmghcmaoaaT
set_option linter.unusedSimpArgs false
set_option linter.unusedVariables false
set_option maxRecDepth 100000
namespace Go.Hc
open Go Go.Proofs
/- 3: sounder/sounderlaw10.PersistMore -/
def sounderlaw10_PersistMore_rs : List ResultVar := [.tmp 6]
noncomputable def sounderlaw10_PersistMore_c2 : Code := subC (bodyC Try.f3) [0]
noncomputable def sounderlaw10_PersistMore_c4 : Code := subC (bodyC Try.f3) [1, 0]
noncomputable def sounderlaw10_PersistMore_c6 : Code := subC (bodyC Try.f3) [1, 1, 0]
noncomputable def sounderlaw10_PersistMore_c8 : Code := subC (bodyC Try.f3) [1, 1, 1, 0]
noncomputable def sounderlaw10_PersistMore_c10 : Code := subC (bodyC Try.f3) [1, 1, 1, 1, 0]
noncomputable def sounderlaw10_PersistMore_c12 : Code := subC (bodyC Try.f3) [1, 1, 1, 1, 1, 0]
noncomputable def sounderlaw10_PersistMore_c14 : Code := subC (bodyC Try.f3) [1, 1, 1, 1, 1, 1, 0]
noncomputable def sounderlaw10_PersistMore_c16 : Code := subC (bodyC Try.f3) [1, 1, 1, 1, 1, 1, 1, 0]
noncomputable def sounderlaw10_PersistMore_c18 : Code := subC (bodyC Try.f3) [1, 1, 1, 1, 1, 1, 1, 1, 0]
noncomputable def sounderlaw10_PersistMore_c20 : Code := subC (bodyC Try.f3) [1, 1, 1, 1, 1, 1, 1, 1, 1, 0]
noncomputable def sounderlaw10_PersistMore_c19 : Code := .seq sounderlaw10_PersistMore_c20 Code.ret
noncomputable def sounderlaw10_PersistMore_c17 : Code := .seq sounderlaw10_PersistMore_c18 sounderlaw10_PersistMore_c19
noncomputable def sounderlaw10_PersistMore_c15 : Code := .seq sounderlaw10_PersistMore_c16 sounderlaw10_PersistMore_c17
noncomputable def sounderlaw10_PersistMore_c13 : Code := .seq sounderlaw10_PersistMore_c14 sounderlaw10_PersistMore_c15
noncomputable def sounderlaw10_PersistMore_c11 : Code := .seq sounderlaw10_PersistMore_c12 sounderlaw10_PersistMore_c13
noncomputable def sounderlaw10_PersistMore_c9 : Code := .seq sounderlaw10_PersistMore_c10 sounderlaw10_PersistMore_c11
noncomputable def sounderlaw10_PersistMore_c7 : Code := .seq sounderlaw10_PersistMore_c8 sounderlaw10_PersistMore_c9
noncomputable def sounderlaw10_PersistMore_c5 : Code := .seq sounderlaw10_PersistMore_c6 sounderlaw10_PersistMore_c7
noncomputable def sounderlaw10_PersistMore_c3 : Code := .seq sounderlaw10_PersistMore_c4 sounderlaw10_PersistMore_c5
noncomputable def sounderlaw10_PersistMore_c1 : Code := .seq sounderlaw10_PersistMore_c2 sounderlaw10_PersistMore_c3
def sounderlaw10_PersistMore_pi (i : Nat) : Pl := match i with
  | 4 => (ones [0, 2, 3, 4, 5, 6, 7, 1, 8, 9, 10, 11, 12] .nil)
  | _ => .nil
def sounderlaw10_PersistMore_g21 (S : Value → Value → Value → Heap → Prop) (x0 x1 x2 : Value) (H : Heap) : Prop :=
  newE 24 (Value.cells x2) H fun v5 H1 =>
  S x0 x1 v5 H1
theorem sounderlaw10_PersistMore_g21_e (S : Value → Value → Value → Heap → Prop) (x : Nat → Value) (H : Heap) : wpE tab P sounderlaw10_PersistMore_pi sounderlaw10_PersistMore_c2 (nQ fun l H => S (l.getD 0 undef) (l.getD 1 undef) (l.getD 5 undef) H) ((List.range 105).map x) H = sounderlaw10_PersistMore_g21 S (x 0) (x 1) (x 2) H := by kernel_rfl
def sounderlaw10_PersistMore_g22 (S : Value → Value → Value → Heap → Prop) (x0 x1 x5 : Value) (H : Heap) : Prop :=
  EvF P N.sounderlaw10_made #[x0] H fun v25 H1 =>
  S x1 x5 v25 H1
theorem sounderlaw10_PersistMore_g22_e (S : Value → Value → Value → Heap → Prop) (x : Nat → Value) (H : Heap) : wpE tab P sounderlaw10_PersistMore_pi sounderlaw10_PersistMore_c4 (nQ fun l H => S (l.getD 1 undef) (l.getD 5 undef) (l.getD 7 undef) H) ((List.range 105).map x) H = sounderlaw10_PersistMore_g22 S (x 0) (x 1) (x 5) H := by kernel_rfl
def sounderlaw10_PersistMore_g23 (S : Value → Value → Value → Value → Heap → Prop) (x1 x5 x7 : Value) (H : Heap) : Prop :=
  bnd (ixAV 1 3 x5 (.int .i64 2)) fun v26 =>
  bnd (ldE false 1 v26 H) fun v27 =>
  EvF P N.sounderref00_Bring #[v27, (.int .i64 34359738368)] H fun v28 H1 =>
  S x1 x5 x7 v28 H1
theorem sounderlaw10_PersistMore_g23_e (S : Value → Value → Value → Value → Heap → Prop) (x : Nat → Value) (H : Heap) : wpE tab P sounderlaw10_PersistMore_pi sounderlaw10_PersistMore_c6 (nQ fun l H => S (l.getD 1 undef) (l.getD 5 undef) (l.getD 7 undef) (l.getD 8 undef) H) ((List.range 105).map x) H = sounderlaw10_PersistMore_g23 S (x 1) (x 5) (x 7) H := by kernel_rfl
def sounderlaw10_PersistMore_g24 (S : Value → Value → Value → Value → Heap → Prop) (x1 x5 x7 x8 : Value) (H : Heap) : Prop :=
  bnd (lenV x1) fun v31 =>
  bnd (foldV min2V v31 [(.int .i64 40)]) fun v32 =>
  bnd (sliceV 1 x1 none (some v32)) fun v33 =>
  S v33 x5 x7 x8 H
theorem sounderlaw10_PersistMore_g24_e (S : Value → Value → Value → Value → Heap → Prop) (x : Nat → Value) (H : Heap) : wpE tab P sounderlaw10_PersistMore_pi sounderlaw10_PersistMore_c8 (nQ fun l H => S (l.getD 1 undef) (l.getD 5 undef) (l.getD 7 undef) (l.getD 8 undef) H) ((List.range 105).map x) H = sounderlaw10_PersistMore_g24 S (x 1) (x 5) (x 7) (x 8) H := by kernel_rfl
def sounderlaw10_PersistMore_g25 (S : Value → Value → Value → Value → Value → Heap → Prop) (x1 x5 x7 x8 : Value) (H : Heap) : Prop :=
  bnd (ixAV 1 3 x5 (.int .i64 1)) fun v37 =>
  bnd (ldE false 1 v37 H) fun v38 =>
  bnd (lenV x1) fun v40 =>
  bnd (binV .int .add v40 (.int .i64 1)) fun v41 =>
  EvF P N.sounderlaw10_marks #[x1] H fun v35 H1 =>
  ((bnd (ldE false 1 v37 H1) fun v' => v' = v38) ∧
  EvF P N.sounderref00_Bring #[v38, v41] H1 fun v42 H2 =>
  bnd (sliceV 1 x1 none (some v42)) fun v43 =>
  EvF P N.sounderlaw10_marks #[v43] H2 fun v44 H3 =>
  S x5 x7 x8 v35 v44 H3)
theorem sounderlaw10_PersistMore_g25_e (S : Value → Value → Value → Value → Value → Heap → Prop) (x : Nat → Value) (H : Heap) : wpE tab P sounderlaw10_PersistMore_pi sounderlaw10_PersistMore_c10 (nQ fun l H => S (l.getD 5 undef) (l.getD 7 undef) (l.getD 8 undef) (l.getD 9 undef) (l.getD 10 undef) H) ((List.range 105).map x) H = sounderlaw10_PersistMore_g25 S (x 1) (x 5) (x 7) (x 8) H := by kernel_rfl
def sounderlaw10_PersistMore_g26 (S : Value → Value → Value → Value → Value → Heap → Prop) (x5 x7 x8 x9 x10 : Value) (H : Heap) : Prop :=
  bnd (ixAV 1 3 x5 (.int .i64 0)) fun v46 =>
  bnd (ldE false 1 v46 H) fun v47 =>
  bnd (lenV x7) fun v49 =>
  bnd (binV .int .add v49 (.int .i64 1)) fun v50 =>
  EvF P N.sounderref00_Bring #[v47, v50] H fun v51 H1 =>
  bnd (sliceV 6 x7 none (some v51)) fun v52 =>
  S x7 x8 x9 x10 v52 H1
theorem sounderlaw10_PersistMore_g26_e (S : Value → Value → Value → Value → Value → Heap → Prop) (x : Nat → Value) (H : Heap) : wpE tab P sounderlaw10_PersistMore_pi sounderlaw10_PersistMore_c12 (nQ fun l H => S (l.getD 7 undef) (l.getD 8 undef) (l.getD 9 undef) (l.getD 10 undef) (l.getD 11 undef) H) ((List.range 105).map x) H = sounderlaw10_PersistMore_g26 S (x 5) (x 7) (x 8) (x 9) (x 10) H := by kernel_rfl
def sounderlaw10_PersistMore_g27 (S : Value → Value → Value → Value → Value → Value → Value → Heap → Prop) (x7 x8 x9 x10 x11 : Value) (H : Heap) : Prop :=
  EvF P N.persist_Period #[x7, x9, x8] H fun v57 H1 =>
  bnd (exV 0 v57) fun v58 =>
  bnd (exV 1 v57) fun _ =>
  bnd (exV 2 v57) fun _ =>
  bnd (exV 3 v57) fun v61 =>
  S x7 x8 x9 x10 x11 v58 v61 H1
theorem sounderlaw10_PersistMore_g27_e (S : Value → Value → Value → Value → Value → Value → Value → Heap → Prop) (x : Nat → Value) (H : Heap) : wpE tab P sounderlaw10_PersistMore_pi sounderlaw10_PersistMore_c14 (nQ fun l H => S (l.getD 7 undef) (l.getD 8 undef) (l.getD 9 undef) (l.getD 10 undef) (l.getD 11 undef) (l.getD 12 undef) (l.getD 15 undef) H) ((List.range 105).map x) H = sounderlaw10_PersistMore_g27 S (x 7) (x 8) (x 9) (x 10) (x 11) H := by kernel_rfl
def sounderlaw10_PersistMore_g28 (S : Value → Value → Value → Value → Value → Value → Value → Heap → Prop) (x7 x8 x9 x10 x11 x12 x15 : Value) (H : Heap) : Prop :=
  EvF P N.persist_Period #[x11, x9, x8] H fun v66 H1 =>
  bnd (exV 0 v66) fun v67 =>
  bnd (exV 1 v66) fun _ =>
  bnd (exV 2 v66) fun _ =>
  bnd (exV 3 v66) fun v70 =>
  S x7 x8 x10 x12 x15 v67 v70 H1
theorem sounderlaw10_PersistMore_g28_e (S : Value → Value → Value → Value → Value → Value → Value → Heap → Prop) (x : Nat → Value) (H : Heap) : wpE tab P sounderlaw10_PersistMore_pi sounderlaw10_PersistMore_c16 (nQ fun l H => S (l.getD 7 undef) (l.getD 8 undef) (l.getD 10 undef) (l.getD 12 undef) (l.getD 15 undef) (l.getD 16 undef) (l.getD 19 undef) H) ((List.range 105).map x) H = sounderlaw10_PersistMore_g28 S (x 7) (x 8) (x 9) (x 10) (x 11) (x 12) (x 15) H := by kernel_rfl
def sounderlaw10_PersistMore_g29 (S : Value → Value → Value → Value → Value → Value → Heap → Prop) (x7 x8 x10 x12 x15 x16 x19 : Value) (H : Heap) : Prop :=
  EvF P N.persist_Period #[x7, x10, x8] H fun v75 H1 =>
  bnd (exV 0 v75) fun v76 =>
  bnd (exV 1 v75) fun _ =>
  bnd (exV 2 v75) fun _ =>
  bnd (exV 3 v75) fun v79 =>
  S x12 x15 x16 x19 v76 v79 H1
theorem sounderlaw10_PersistMore_g29_e (S : Value → Value → Value → Value → Value → Value → Heap → Prop) (x : Nat → Value) (H : Heap) : wpE tab P sounderlaw10_PersistMore_pi sounderlaw10_PersistMore_c18 (nQ fun l H => S (l.getD 12 undef) (l.getD 15 undef) (l.getD 16 undef) (l.getD 19 undef) (l.getD 20 undef) (l.getD 23 undef) H) ((List.range 105).map x) H = sounderlaw10_PersistMore_g29 S (x 7) (x 8) (x 10) (x 12) (x 15) (x 16) (x 19) H := by kernel_rfl
def sounderlaw10_PersistMore_g30 (S : Value → Heap → Prop) (x12 x15 x16 x19 x20 x23 : Value) (H : Heap) : Prop :=
  bnd (unV .not x19) fun v81 =>
  brV v81
  (bnd (unV .not x15) fun v92 =>
  brG v92
  (EvF P N.sounderlaw10_works #[] H fun v103 H1 =>
  S v103 H1)
  (brG x23
  (bnd (binV .int .geq x20 x12) fun v98 =>
  brV v98
  (EvF P N.sounderlaw10_works #[] H fun v103_2 H2 =>
  S v103_2 H2)
  (S (.bool false) H))
  (S (.bool false) H)
  (brG x23
  (bnd (binV .int .geq undef x12) fun v98_2 =>
  brV v98_2
  (EvF P N.sounderlaw10_works #[] H fun v103_3 H3 =>
  S v103_3 H3)
  (S (.bool false) H))
  (S (.bool false) H)
  (brG x23
  (bnd (binV .int .geq undef undef) fun v98_3 =>
  brV v98_3
  (EvF P N.sounderlaw10_works #[] H fun v103_4 H4 =>
  S v103_4 H4)
  (S (.bool false) H))
  (S (.bool false) H)
  (pickE x23 undef (.bool false) H fun v99 H5 =>
  brV v99
  (EvF P N.sounderlaw10_works #[] H5 fun v103_5 H6 =>
  S v103_5 H6)
  (S (.bool false) H5)))))
  (brG v92
  (EvF P N.sounderlaw10_works #[] H fun v103_6 H7 =>
  S v103_6 H7)
  (pickE undef undef (.bool false) H fun v99_2 H8 =>
  brV v99_2
  (EvF P N.sounderlaw10_works #[] H8 fun v103_7 H9 =>
  S v103_7 H9)
  (S (.bool false) H8))
  (brG v92
  (EvF P N.sounderlaw10_works #[] H fun v103_8 H10 =>
  S v103_8 H10)
  (pickE undef undef (.bool false) H fun v99_3 H11 =>
  brV v99_3
  (EvF P N.sounderlaw10_works #[] H11 fun v103_9 H12 =>
  S v103_9 H12)
  (S (.bool false) H11))
  (pickE v92 (.bool true) undef H fun v100 H13 =>
  brV v100
  (EvF P N.sounderlaw10_works #[] H13 fun v103_10 H14 =>
  S v103_10 H14)
  (S (.bool false) H13)))))
  (brG x15
  (bnd (binV .int .geq x12 x16) fun v87 =>
  brV v87
  (bnd (unV .not x15) fun v92_2 =>
  brG v92_2
  (EvF P N.sounderlaw10_works #[] H fun v103_11 H15 =>
  S v103_11 H15)
  (brG x23
  (bnd (binV .int .geq x20 x12) fun v98_4 =>
  brV v98_4
  (EvF P N.sounderlaw10_works #[] H fun v103_12 H16 =>
  S v103_12 H16)
  (S (.bool false) H))
  (S (.bool false) H)
  (brG x23
  (bnd (binV .int .geq undef x12) fun v98_5 =>
  brV v98_5
  (EvF P N.sounderlaw10_works #[] H fun v103_13 H17 =>
  S v103_13 H17)
  (S (.bool false) H))
  (S (.bool false) H)
  (brG x23
  (bnd (binV .int .geq undef undef) fun v98_6 =>
  brV v98_6
  (EvF P N.sounderlaw10_works #[] H fun v103_14 H18 =>
  S v103_14 H18)
  (S (.bool false) H))
  (S (.bool false) H)
  (pickE x23 undef (.bool false) H fun v99_4 H19 =>
  brV v99_4
  (EvF P N.sounderlaw10_works #[] H19 fun v103_15 H20 =>
  S v103_15 H20)
  (S (.bool false) H19)))))
  (brG v92_2
  (EvF P N.sounderlaw10_works #[] H fun v103_16 H21 =>
  S v103_16 H21)
  (pickE undef undef (.bool false) H fun v99_5 H22 =>
  brV v99_5
  (EvF P N.sounderlaw10_works #[] H22 fun v103_17 H23 =>
  S v103_17 H23)
  (S (.bool false) H22))
  (brG v92_2
  (EvF P N.sounderlaw10_works #[] H fun v103_18 H24 =>
  S v103_18 H24)
  (pickE undef undef (.bool false) H fun v99_6 H25 =>
  brV v99_6
  (EvF P N.sounderlaw10_works #[] H25 fun v103_19 H26 =>
  S v103_19 H26)
  (S (.bool false) H25))
  (pickE v92_2 (.bool true) undef H fun v100_2 H27 =>
  brV v100_2
  (EvF P N.sounderlaw10_works #[] H27 fun v103_20 H28 =>
  S v103_20 H28)
  (S (.bool false) H27)))))
  (S (.bool false) H))
  (S (.bool false) H)
  (brG x15
  (bnd (binV .int .geq undef x16) fun v87_2 =>
  brV v87_2
  (bnd (unV .not x15) fun v92_3 =>
  brG v92_3
  (EvF P N.sounderlaw10_works #[] H fun v103_21 H29 =>
  S v103_21 H29)
  (brG x23
  (bnd (binV .int .geq x20 x12) fun v98_7 =>
  brV v98_7
  (EvF P N.sounderlaw10_works #[] H fun v103_22 H30 =>
  S v103_22 H30)
  (S (.bool false) H))
  (S (.bool false) H)
  (brG x23
  (bnd (binV .int .geq undef x12) fun v98_8 =>
  brV v98_8
  (EvF P N.sounderlaw10_works #[] H fun v103_23 H31 =>
  S v103_23 H31)
  (S (.bool false) H))
  (S (.bool false) H)
  (brG x23
  (bnd (binV .int .geq undef undef) fun v98_9 =>
  brV v98_9
  (EvF P N.sounderlaw10_works #[] H fun v103_24 H32 =>
  S v103_24 H32)
  (S (.bool false) H))
  (S (.bool false) H)
  (pickE x23 undef (.bool false) H fun v99_7 H33 =>
  brV v99_7
  (EvF P N.sounderlaw10_works #[] H33 fun v103_25 H34 =>
  S v103_25 H34)
  (S (.bool false) H33)))))
  (brG v92_3
  (EvF P N.sounderlaw10_works #[] H fun v103_26 H35 =>
  S v103_26 H35)
  (pickE undef undef (.bool false) H fun v99_8 H36 =>
  brV v99_8
  (EvF P N.sounderlaw10_works #[] H36 fun v103_27 H37 =>
  S v103_27 H37)
  (S (.bool false) H36))
  (brG v92_3
  (EvF P N.sounderlaw10_works #[] H fun v103_28 H38 =>
  S v103_28 H38)
  (pickE undef undef (.bool false) H fun v99_9 H39 =>
  brV v99_9
  (EvF P N.sounderlaw10_works #[] H39 fun v103_29 H40 =>
  S v103_29 H40)
  (S (.bool false) H39))
  (pickE v92_3 (.bool true) undef H fun v100_3 H41 =>
  brV v100_3
  (EvF P N.sounderlaw10_works #[] H41 fun v103_30 H42 =>
  S v103_30 H42)
  (S (.bool false) H41)))))
  (S (.bool false) H))
  (S (.bool false) H)
  (brG x15
  (bnd (binV .int .geq undef undef) fun v87_3 =>
  brV v87_3
  (bnd (unV .not x15) fun v92_4 =>
  brG v92_4
  (EvF P N.sounderlaw10_works #[] H fun v103_31 H43 =>
  S v103_31 H43)
  (brG x23
  (bnd (binV .int .geq x20 x12) fun v98_10 =>
  brV v98_10
  (EvF P N.sounderlaw10_works #[] H fun v103_32 H44 =>
  S v103_32 H44)
  (S (.bool false) H))
  (S (.bool false) H)
  (brG x23
  (bnd (binV .int .geq undef x12) fun v98_11 =>
  brV v98_11
  (EvF P N.sounderlaw10_works #[] H fun v103_33 H45 =>
  S v103_33 H45)
  (S (.bool false) H))
  (S (.bool false) H)
  (brG x23
  (bnd (binV .int .geq undef undef) fun v98_12 =>
  brV v98_12
  (EvF P N.sounderlaw10_works #[] H fun v103_34 H46 =>
  S v103_34 H46)
  (S (.bool false) H))
  (S (.bool false) H)
  (pickE x23 undef (.bool false) H fun v99_10 H47 =>
  brV v99_10
  (EvF P N.sounderlaw10_works #[] H47 fun v103_35 H48 =>
  S v103_35 H48)
  (S (.bool false) H47)))))
  (brG v92_4
  (EvF P N.sounderlaw10_works #[] H fun v103_36 H49 =>
  S v103_36 H49)
  (pickE undef undef (.bool false) H fun v99_11 H50 =>
  brV v99_11
  (EvF P N.sounderlaw10_works #[] H50 fun v103_37 H51 =>
  S v103_37 H51)
  (S (.bool false) H50))
  (brG v92_4
  (EvF P N.sounderlaw10_works #[] H fun v103_38 H52 =>
  S v103_38 H52)
  (pickE undef undef (.bool false) H fun v99_12 H53 =>
  brV v99_12
  (EvF P N.sounderlaw10_works #[] H53 fun v103_39 H54 =>
  S v103_39 H54)
  (S (.bool false) H53))
  (pickE v92_4 (.bool true) undef H fun v100_4 H55 =>
  brV v100_4
  (EvF P N.sounderlaw10_works #[] H55 fun v103_40 H56 =>
  S v103_40 H56)
  (S (.bool false) H55)))))
  (S (.bool false) H))
  (S (.bool false) H)
  (pickE x15 undef (.bool false) H fun v88 H57 =>
  brV v88
  (bnd (unV .not x15) fun v92_5 =>
  brG v92_5
  (EvF P N.sounderlaw10_works #[] H57 fun v103_41 H58 =>
  S v103_41 H58)
  (brG x23
  (bnd (binV .int .geq x20 x12) fun v98_13 =>
  brV v98_13
  (EvF P N.sounderlaw10_works #[] H57 fun v103_42 H59 =>
  S v103_42 H59)
  (S (.bool false) H57))
  (S (.bool false) H57)
  (brG x23
  (bnd (binV .int .geq undef x12) fun v98_14 =>
  brV v98_14
  (EvF P N.sounderlaw10_works #[] H57 fun v103_43 H60 =>
  S v103_43 H60)
  (S (.bool false) H57))
  (S (.bool false) H57)
  (brG x23
  (bnd (binV .int .geq undef undef) fun v98_15 =>
  brV v98_15
  (EvF P N.sounderlaw10_works #[] H57 fun v103_44 H61 =>
  S v103_44 H61)
  (S (.bool false) H57))
  (S (.bool false) H57)
  (pickE x23 undef (.bool false) H57 fun v99_13 H62 =>
  brV v99_13
  (EvF P N.sounderlaw10_works #[] H62 fun v103_45 H63 =>
  S v103_45 H63)
  (S (.bool false) H62)))))
  (brG v92_5
  (EvF P N.sounderlaw10_works #[] H57 fun v103_46 H64 =>
  S v103_46 H64)
  (pickE undef undef (.bool false) H57 fun v99_14 H65 =>
  brV v99_14
  (EvF P N.sounderlaw10_works #[] H65 fun v103_47 H66 =>
  S v103_47 H66)
  (S (.bool false) H65))
  (brG v92_5
  (EvF P N.sounderlaw10_works #[] H57 fun v103_48 H67 =>
  S v103_48 H67)
  (pickE undef undef (.bool false) H57 fun v99_15 H68 =>
  brV v99_15
  (EvF P N.sounderlaw10_works #[] H68 fun v103_49 H69 =>
  S v103_49 H69)
  (S (.bool false) H68))
  (pickE v92_5 (.bool true) undef H57 fun v100_5 H70 =>
  brV v100_5
  (EvF P N.sounderlaw10_works #[] H70 fun v103_50 H71 =>
  S v103_50 H71)
  (S (.bool false) H70)))))
  (S (.bool false) H57)))))
theorem sounderlaw10_PersistMore_g30_e (S : Value → Heap → Prop) (x : Nat → Value) (H : Heap) : wpE tab P sounderlaw10_PersistMore_pi sounderlaw10_PersistMore_c20 (nQ fun l H => S (l.getD 6 undef) H) ((List.range 105).map x) H = sounderlaw10_PersistMore_g30 S (x 12) (x 15) (x 16) (x 19) (x 20) (x 23) H := by kernel_rfl
def sounderlaw10_PersistMore (x0 x1 x2 : Value) (R : Value → Heap → Prop) (H : Heap) : Prop :=
  sounderlaw10_PersistMore_g21 (fun x0 x1 x5 H => sounderlaw10_PersistMore_g22 (fun x1 x5 x7 H => sounderlaw10_PersistMore_g23 (fun x1 x5 x7 x8 H => sounderlaw10_PersistMore_g24 (fun x1 x5 x7 x8 H => sounderlaw10_PersistMore_g25 (fun x5 x7 x8 x9 x10 H => sounderlaw10_PersistMore_g26 (fun x7 x8 x9 x10 x11 H => sounderlaw10_PersistMore_g27 (fun x7 x8 x9 x10 x11 x12 x15 H => sounderlaw10_PersistMore_g28 (fun x7 x8 x10 x12 x15 x16 x19 H => sounderlaw10_PersistMore_g29 (fun x12 x15 x16 x19 x20 x23 H => sounderlaw10_PersistMore_g30 (fun x6 H => R x6 H) x12 x15 x16 x19 x20 x23 H) x7 x8 x10 x12 x15 x16 x19 H) x7 x8 x9 x10 x11 x12 x15 H) x7 x8 x9 x10 x11 H) x5 x7 x8 x9 x10 H) x1 x5 x7 x8 H) x1 x5 x7 x8 H) x1 x5 x7 H) x0 x1 x5 H) x0 x1 x2 H
theorem sounderlaw10_PersistMore_i (R : Value → Heap → Prop) (x0 x1 x2 : Value) (H : Heap) (h : sounderlaw10_PersistMore x0 x1 x2 R H) : wpE tab P sounderlaw10_PersistMore_pi sounderlaw10_PersistMore_c1 (retQ tab sounderlaw10_PersistMore_rs R) [x0, x1, x2, undef, undef, undef, undef, undef, undef, undef, undef, undef, undef, undef, undef, undef, undef, undef, undef, undef, undef, undef, undef, undef, undef, undef, undef, undef, undef, undef, undef, undef, undef, undef, undef, undef, undef, undef, undef, undef, undef, undef, undef, undef, undef, undef, undef, undef, undef, undef, undef, undef, undef, undef, undef, undef, undef, undef, undef, undef, undef, undef, undef, undef, undef, undef, undef, undef, undef, undef, undef, undef, undef, undef, undef, undef, undef, undef, undef, undef, undef, undef, undef, undef, undef, undef, undef, undef, undef, undef, undef, undef, undef, undef, undef, undef, undef, undef, undef, undef, undef, undef, undef, undef, undef] H := by
  obtain ⟨l, hl, el⟩ : ∃ l : List Value, l.length = 105 ∧ l = [x0, x1, x2, undef, undef, undef, undef, undef, undef, undef, undef, undef, undef, undef, undef, undef, undef, undef, undef, undef, undef, undef, undef, undef, undef, undef, undef, undef, undef, undef, undef, undef, undef, undef, undef, undef, undef, undef, undef, undef, undef, undef, undef, undef, undef, undef, undef, undef, undef, undef, undef, undef, undef, undef, undef, undef, undef, undef, undef, undef, undef, undef, undef, undef, undef, undef, undef, undef, undef, undef, undef, undef, undef, undef, undef, undef, undef, undef, undef, undef, undef, undef, undef, undef, undef, undef, undef, undef, undef, undef, undef, undef, undef, undef, undef, undef, undef, undef, undef, undef, undef, undef, undef, undef, undef] := ⟨_, rfl, rfl⟩
  rw [← el]
  have h : (fun (x0 x1 x2 : Value) => sounderlaw10_PersistMore_g21 (fun x0 x1 x5 H => sounderlaw10_PersistMore_g22 (fun x1 x5 x7 H => sounderlaw10_PersistMore_g23 (fun x1 x5 x7 x8 H => sounderlaw10_PersistMore_g24 (fun x1 x5 x7 x8 H => sounderlaw10_PersistMore_g25 (fun x5 x7 x8 x9 x10 H => sounderlaw10_PersistMore_g26 (fun x7 x8 x9 x10 x11 H => sounderlaw10_PersistMore_g27 (fun x7 x8 x9 x10 x11 x12 x15 H => sounderlaw10_PersistMore_g28 (fun x7 x8 x10 x12 x15 x16 x19 H => sounderlaw10_PersistMore_g29 (fun x12 x15 x16 x19 x20 x23 H => sounderlaw10_PersistMore_g30 (fun x6 H => R x6 H) x12 x15 x16 x19 x20 x23 H) x7 x8 x10 x12 x15 x16 x19 H) x7 x8 x9 x10 x11 x12 x15 H) x7 x8 x9 x10 x11 H) x5 x7 x8 x9 x10 H) x1 x5 x7 x8 H) x1 x5 x7 x8 H) x1 x5 x7 H) x0 x1 x5 H) x0 x1 x2 H) (l.getD 0 undef) (l.getD 1 undef) (l.getD 2 undef) := by rw [el]; exact h
  clear el
  refine seqI (c := sounderlaw10_PersistMore_c1) rfl ?_
  refine regI hl (Eq.mpr (sounderlaw10_PersistMore_g21_e _ (fun i => l.getD i undef) _) h) ?_
  clear h hl
  intro l H hl h
  refine thenN ?_
  refine seqI (c := sounderlaw10_PersistMore_c3) rfl ?_
  refine regI hl (Eq.mpr (sounderlaw10_PersistMore_g22_e _ (fun i => l.getD i undef) _) h) ?_
  clear h hl
  intro l H hl h
  refine thenN ?_
  refine seqI (c := sounderlaw10_PersistMore_c5) rfl ?_
  refine regI hl (Eq.mpr (sounderlaw10_PersistMore_g23_e _ (fun i => l.getD i undef) _) h) ?_
  clear h hl
  intro l H hl h
  refine thenN ?_
  refine seqI (c := sounderlaw10_PersistMore_c7) rfl ?_
  refine regI hl (Eq.mpr (sounderlaw10_PersistMore_g24_e _ (fun i => l.getD i undef) _) h) ?_
  clear h hl
  intro l H hl h
  refine thenN ?_
  refine seqI (c := sounderlaw10_PersistMore_c9) rfl ?_
  refine regI hl (Eq.mpr (sounderlaw10_PersistMore_g25_e _ (fun i => l.getD i undef) _) h) ?_
  clear h hl
  intro l H hl h
  refine thenN ?_
  refine seqI (c := sounderlaw10_PersistMore_c11) rfl ?_
  refine regI hl (Eq.mpr (sounderlaw10_PersistMore_g26_e _ (fun i => l.getD i undef) _) h) ?_
  clear h hl
  intro l H hl h
  refine thenN ?_
  refine seqI (c := sounderlaw10_PersistMore_c13) rfl ?_
  refine regI hl (Eq.mpr (sounderlaw10_PersistMore_g27_e _ (fun i => l.getD i undef) _) h) ?_
  clear h hl
  intro l H hl h
  refine thenN ?_
  refine seqI (c := sounderlaw10_PersistMore_c15) rfl ?_
  refine regI hl (Eq.mpr (sounderlaw10_PersistMore_g28_e _ (fun i => l.getD i undef) _) h) ?_
  clear h hl
  intro l H hl h
  refine thenN ?_
  refine seqI (c := sounderlaw10_PersistMore_c17) rfl ?_
  refine regI hl (Eq.mpr (sounderlaw10_PersistMore_g29_e _ (fun i => l.getD i undef) _) h) ?_
  clear h hl
  intro l H hl h
  refine thenN ?_
  refine seqI (c := sounderlaw10_PersistMore_c19) rfl ?_
  refine regI hl (Eq.mpr (sounderlaw10_PersistMore_g30_e _ (fun i => l.getD i undef) _) h) ?_
  clear h hl
  intro l H hl h
  refine thenN ?_
  refine retI rfl ?_
  exact h
theorem sounderlaw10_PersistMore_ok : okB sounderlaw10_PersistMore_pi sounderlaw10_PersistMore_c1 = true := by kernel_rfl
theorem sounderlaw10_PersistMore_ev0 (x0 x1 x2 : Value) (R : Value → Heap → Prop) (H : Heap) (h : sounderlaw10_PersistMore x0 x1 x2 R H) : EvL P N.sounderlaw10_PersistMore #[x0, x1, x2] H R :=
  EvF_intro (args := [x0, x1, x2]) (k := 102) (rs := sounderlaw10_PersistMore_rs) tab_ok mixed Try.func3 (show Try.f3.body = some sounderlaw10_PersistMore_c1 by kernel_rfl) Try.call3 Try.ntmps3 (by kernel_rfl) (okCode_of _ sounderlaw10_PersistMore_ok) rfl (sounderlaw10_PersistMore_i R x0 x1 x2 H h)
theorem sounderlaw10_PersistMore_ev (x0 x1 x2 : Value) (R : Value → Heap → Prop) (H : Heap) (h : sounderlaw10_PersistMore x0 x1 x2 R H) : EvF P N.sounderlaw10_PersistMore #[x0, x1, x2] H R := .inl (sounderlaw10_PersistMore_ev0 x0 x1 x2 R H h)
/- 4: sounder/sounderlaw10.PersistIs -/
def sounderlaw10_PersistIs_rs : List ResultVar := [.tmp 6]
noncomputable def sounderlaw10_PersistIs_c2 : Code := subC (bodyC Try.f4) [0]
noncomputable def sounderlaw10_PersistIs_c4 : Code := subC (bodyC Try.f4) [1, 0]
noncomputable def sounderlaw10_PersistIs_c6 : Code := subC (bodyC Try.f4) [1, 1, 0]
noncomputable def sounderlaw10_PersistIs_c8 : Code := subC (bodyC Try.f4) [1, 1, 1, 0]
noncomputable def sounderlaw10_PersistIs_c10 : Code := subC (bodyC Try.f4) [1, 1, 1, 1, 0]
noncomputable def sounderlaw10_PersistIs_c12 : Code := subC (bodyC Try.f4) [1, 1, 1, 1, 1, 0]
noncomputable def sounderlaw10_PersistIs_c14 : Code := subC (bodyC Try.f4) [1, 1, 1, 1, 1, 1, 0]
noncomputable def sounderlaw10_PersistIs_c16 : Code := subC (bodyC Try.f4) [1, 1, 1, 1, 1, 1, 1, 0]
noncomputable def sounderlaw10_PersistIs_c18 : Code := subC (bodyC Try.f4) [1, 1, 1, 1, 1, 1, 1, 1, 0]
noncomputable def sounderlaw10_PersistIs_c20 : Code := subC (bodyC Try.f4) [1, 1, 1, 1, 1, 1, 1, 1, 1, 0]
noncomputable def sounderlaw10_PersistIs_c19 : Code := .seq sounderlaw10_PersistIs_c20 Code.ret
noncomputable def sounderlaw10_PersistIs_c17 : Code := .seq sounderlaw10_PersistIs_c18 sounderlaw10_PersistIs_c19
noncomputable def sounderlaw10_PersistIs_c15 : Code := .seq sounderlaw10_PersistIs_c16 sounderlaw10_PersistIs_c17
noncomputable def sounderlaw10_PersistIs_c13 : Code := .seq sounderlaw10_PersistIs_c14 sounderlaw10_PersistIs_c15
noncomputable def sounderlaw10_PersistIs_c11 : Code := .seq sounderlaw10_PersistIs_c12 sounderlaw10_PersistIs_c13
noncomputable def sounderlaw10_PersistIs_c9 : Code := .seq sounderlaw10_PersistIs_c10 sounderlaw10_PersistIs_c11
noncomputable def sounderlaw10_PersistIs_c7 : Code := .seq sounderlaw10_PersistIs_c8 sounderlaw10_PersistIs_c9
noncomputable def sounderlaw10_PersistIs_c5 : Code := .seq sounderlaw10_PersistIs_c6 sounderlaw10_PersistIs_c7
noncomputable def sounderlaw10_PersistIs_c3 : Code := .seq sounderlaw10_PersistIs_c4 sounderlaw10_PersistIs_c5
noncomputable def sounderlaw10_PersistIs_c1 : Code := .seq sounderlaw10_PersistIs_c2 sounderlaw10_PersistIs_c3
def sounderlaw10_PersistIs_pi (i : Nat) : Pl := match i with
  | 2 => (ones [0, 1, 3, 4, 2, 5, 6, 7] .nil)
  | 9 => (ones [0, 1, 2, 4, 5, 6, 3, 7, 8, 9, 10, 11, 12, 13, 14, 15, 16, 17, 18, 19, 20, 21, 22, 23, 24, 25, 26, 27, 28, 29, 30, 31, 32] .nil)
  | _ => .nil
def sounderlaw10_PersistIs_g21 (S : Value → Value → Value → Heap → Prop) (x0 x1 x2 : Value) (H : Heap) : Prop :=
  newE 34 (Value.cells x2) H fun v5 H1 =>
  S x0 x1 v5 H1
theorem sounderlaw10_PersistIs_g21_e (S : Value → Value → Value → Heap → Prop) (x : Nat → Value) (H : Heap) : wpE tab P sounderlaw10_PersistIs_pi sounderlaw10_PersistIs_c2 (nQ fun l H => S (l.getD 0 undef) (l.getD 1 undef) (l.getD 5 undef) H) ((List.range 85).map x) H = sounderlaw10_PersistIs_g21 S (x 0) (x 1) (x 2) H := by kernel_rfl
def sounderlaw10_PersistIs_g22 (S : Value → Value → Value → Heap → Prop) (x0 x1 x5 : Value) (H : Heap) : Prop :=
  EvF P N.sounderref00_Bring #[x1, (.int .i64 1073741824)] H fun v15 H1 =>
  bnd (binV .int .add (.int .i64 1) v15) fun v16 =>
  S x0 v16 x5 H1
theorem sounderlaw10_PersistIs_g22_e (S : Value → Value → Value → Heap → Prop) (x : Nat → Value) (H : Heap) : wpE tab P sounderlaw10_PersistIs_pi sounderlaw10_PersistIs_c4 (nQ fun l H => S (l.getD 0 undef) (l.getD 1 undef) (l.getD 5 undef) H) ((List.range 85).map x) H = sounderlaw10_PersistIs_g22 S (x 0) (x 1) (x 5) H := by kernel_rfl
def sounderlaw10_PersistIs_g23 (S : Value → Value → Value → Value → Heap → Prop) (x0 x1 x5 : Value) (H : Heap) : Prop :=
  bnd (ixAV 1 2 x5 (.int .i64 0)) fun v17 =>
  bnd (ldE false 1 v17 H) fun v18 =>
  bnd (ixAV 1 2 x5 (.int .i64 1)) fun v20 =>
  bnd (ldE false 1 v20 H) fun v21 =>
  EvF P N.sounderref00_Bring #[v18, (.int .i64 1073741824)] H fun v19 H1 =>
  ((bnd (ldE false 1 v20 H1) fun v' => v' = v21) ∧
  EvF P N.sounderref00_Bring #[v21, (.int .i64 1073741824)] H1 fun v22 H2 =>
  S x0 x1 v19 v22 H2)
theorem sounderlaw10_PersistIs_g23_e (S : Value → Value → Value → Value → Heap → Prop) (x : Nat → Value) (H : Heap) : wpE tab P sounderlaw10_PersistIs_pi sounderlaw10_PersistIs_c6 (nQ fun l H => S (l.getD 0 undef) (l.getD 1 undef) (l.getD 7 undef) (l.getD 8 undef) H) ((List.range 85).map x) H = sounderlaw10_PersistIs_g23 S (x 0) (x 1) (x 5) H := by kernel_rfl
def sounderlaw10_PersistIs_g24 (S : Value → Value → Value → Value → Value → Heap → Prop) (x0 x1 x7 x8 : Value) (H : Heap) : Prop :=
  bnd (buildV #[(.int .i64 0), (.int .i64 0), (.int .i64 0), (.int .i64 0), (.int .i64 0)] (places [(0, 1), (1, 1), (2, 1), (3, 1), (4, 1)]) [(0, x1), (1, x1), (2, x1), (3, x7), (4, (.int .i64 7))]) fun v27 =>
  newE 36 #[(.int .i64 0), (.int .i64 0), (.int .i64 0), (.int .i64 0), (.int .i64 0)] H fun v9 H1 =>
  bnd (stE 5 v9 v27 H1) fun H2 =>
  S x0 x1 x7 x8 v9 H2
theorem sounderlaw10_PersistIs_g24_e (S : Value → Value → Value → Value → Value → Heap → Prop) (x : Nat → Value) (H : Heap) : wpE tab P sounderlaw10_PersistIs_pi sounderlaw10_PersistIs_c8 (nQ fun l H => S (l.getD 0 undef) (l.getD 1 undef) (l.getD 7 undef) (l.getD 8 undef) (l.getD 9 undef) H) ((List.range 85).map x) H = sounderlaw10_PersistIs_g24 S (x 0) (x 1) (x 7) (x 8) H := by kernel_rfl
def sounderlaw10_PersistIs_g25 (S : Value → Value → Value → Value → Heap → Prop) (x0 x1 x7 x8 x9 : Value) (H : Heap) : Prop :=
  bnd (binV .int .mul (.int .i64 4) x7) fun v30 =>
  bnd (foldV max2V v30 [(.int .i64 1000000)]) fun v31 =>
  bnd (binV .int .add x1 v31) fun v32 =>
  bnd (binV .int .add v32 x8) fun v34 =>
  bnd (binV .int .mul (.int .i64 3) v34) fun v35 =>
  S x0 x8 x9 v35 H
theorem sounderlaw10_PersistIs_g25_e (S : Value → Value → Value → Value → Heap → Prop) (x : Nat → Value) (H : Heap) : wpE tab P sounderlaw10_PersistIs_pi sounderlaw10_PersistIs_c10 (nQ fun l H => S (l.getD 0 undef) (l.getD 8 undef) (l.getD 9 undef) (l.getD 10 undef) H) ((List.range 85).map x) H = sounderlaw10_PersistIs_g25 S (x 0) (x 1) (x 7) (x 8) (x 9) H := by kernel_rfl
def sounderlaw10_PersistIs_g26 (S : Value → Value → Value → Value → Heap → Prop) (x0 x8 x9 x10 : Value) (H : Heap) : Prop :=
  EvF P N.sounderref00_Bring #[x0, (.int .i64 34359738368)] H fun v37 H1 =>
  S v37 x8 x9 x10 H1
theorem sounderlaw10_PersistIs_g26_e (S : Value → Value → Value → Value → Heap → Prop) (x : Nat → Value) (H : Heap) : wpE tab P sounderlaw10_PersistIs_pi sounderlaw10_PersistIs_c12 (nQ fun l H => S (l.getD 0 undef) (l.getD 8 undef) (l.getD 9 undef) (l.getD 10 undef) H) ((List.range 85).map x) H = sounderlaw10_PersistIs_g26 S (x 0) (x 8) (x 9) (x 10) H := by kernel_rfl
def sounderlaw10_PersistIs_g27 (S : Value → Value → Value → Value → Value → Heap → Prop) (x0 x8 x9 x10 : Value) (H : Heap) : Prop :=
  EvF P N.sounderlaw10_at #[(.int .i64 1), (.int .i64 8)] H fun v38 H1 =>
  bnd (binV .int .add (.int .i64 8) x0) fun v40 =>
  EvF P N.sounderlaw10_at #[(.int .i64 2), v40] H1 fun v41 H2 =>
  bslE 38 #[(.int .i64 0), (.int .i64 0), (.int .i64 0), (.bool false), (.bool false), (.bool false)] 6 2 [(0, v38), (1, v41)] H2 fun v42 H3 =>
  S x0 x8 x9 x10 v42 H3
theorem sounderlaw10_PersistIs_g27_e (S : Value → Value → Value → Value → Value → Heap → Prop) (x : Nat → Value) (H : Heap) : wpE tab P sounderlaw10_PersistIs_pi sounderlaw10_PersistIs_c14 (nQ fun l H => S (l.getD 0 undef) (l.getD 8 undef) (l.getD 9 undef) (l.getD 10 undef) (l.getD 11 undef) H) ((List.range 85).map x) H = sounderlaw10_PersistIs_g27 S (x 0) (x 8) (x 9) (x 10) H := by kernel_rfl
def sounderlaw10_PersistIs_g28 (S : Value → Value → Value → Value → Value → Value → Heap → Prop) (x0 x8 x9 x10 x11 : Value) (H : Heap) : Prop :=
  EvF P N.sounderlaw10_at #[(.int .i64 1), (.int .i64 8)] H fun v43 H1 =>
  bnd (binV .int .add (.int .i64 8) x10) fun v45 =>
  EvF P N.sounderlaw10_at #[(.int .i64 2), v45] H1 fun v46 H2 =>
  bslE 38 #[(.int .i64 0), (.int .i64 0), (.int .i64 0), (.bool false), (.bool false), (.bool false)] 6 2 [(0, v43), (1, v46)] H2 fun v47 H3 =>
  S x0 x8 x9 x10 x11 v47 H3
theorem sounderlaw10_PersistIs_g28_e (S : Value → Value → Value → Value → Value → Value → Heap → Prop) (x : Nat → Value) (H : Heap) : wpE tab P sounderlaw10_PersistIs_pi sounderlaw10_PersistIs_c16 (nQ fun l H => S (l.getD 0 undef) (l.getD 8 undef) (l.getD 9 undef) (l.getD 10 undef) (l.getD 11 undef) (l.getD 12 undef) H) ((List.range 85).map x) H = sounderlaw10_PersistIs_g28 S (x 0) (x 8) (x 9) (x 10) (x 11) H := by kernel_rfl
def sounderlaw10_PersistIs_g29 (S : Value → Value → Value → Value → Value → Value → Value → Heap → Prop) (x0 x8 x9 x10 x11 x12 : Value) (H : Heap) : Prop :=
  EvF P N.sounderlaw10_at #[(.int .i64 1), (.int .i64 8)] H fun v48 H1 =>
  bnd (binV .int .add (.int .i64 9) x10) fun v50 =>
  EvF P N.sounderlaw10_at #[(.int .i64 2), v50] H1 fun v51 H2 =>
  bslE 38 #[(.int .i64 0), (.int .i64 0), (.int .i64 0), (.bool false), (.bool false), (.bool false)] 6 2 [(0, v48), (1, v51)] H2 fun v52 H3 =>
  S x0 x8 x9 x10 x11 x12 v52 H3
theorem sounderlaw10_PersistIs_g29_e (S : Value → Value → Value → Value → Value → Value → Value → Heap → Prop) (x : Nat → Value) (H : Heap) : wpE tab P sounderlaw10_PersistIs_pi sounderlaw10_PersistIs_c18 (nQ fun l H => S (l.getD 0 undef) (l.getD 8 undef) (l.getD 9 undef) (l.getD 10 undef) (l.getD 11 undef) (l.getD 12 undef) (l.getD 13 undef) H) ((List.range 85).map x) H = sounderlaw10_PersistIs_g29 S (x 0) (x 8) (x 9) (x 10) (x 11) (x 12) H := by kernel_rfl
def sounderlaw10_PersistIs_g30 (S : Value → Heap → Prop) (x0 x8 x9 x10 x11 x12 x13 : Value) (H : Heap) : Prop :=
  bnd (ldE true 5 x9 H) fun v54 =>
  bnd (binV .int .gtr x0 x10) fun v59 =>
  EvF P N.persist_Is #[x11, (.pointer none), v54, x8] H fun v56 H1 =>
  bnd (binV .bool .eql v56 v59) fun v60 =>
  brV v60
  (bnd (ldE true 5 x9 H1) fun v63 =>
  EvF P N.persist_Is #[x12, (.pointer none), v63, x8] H1 fun v65 H2 =>
  bnd (unV .not v65) fun v66 =>
  brV v66
  (bnd (ldE true 5 x9 H2) fun v70 =>
  EvF P N.persist_Is #[x13, (.pointer none), v70, x8] H2 fun v72 H3 =>
  brV v72
  (bnd (sliceV 6 x13 (some (.int .i64 1)) none) fun v76 =>
  bnd (ldE true 5 x9 H3) fun v77 =>
  EvF P N.persist_Is #[v76, (.pointer none), v77, x8] H3 fun v79 H4 =>
  bnd (unV .not v79) fun v80 =>
  brV v80
  (EvF P N.sounderlaw10_works #[] H4 fun v83 H5 =>
  S v83 H5)
  (S (.bool false) H4))
  (S (.bool false) H3))
  (S (.bool false) H2))
  (S (.bool false) H1)
theorem sounderlaw10_PersistIs_g30_e (S : Value → Heap → Prop) (x : Nat → Value) (H : Heap) : wpE tab P sounderlaw10_PersistIs_pi sounderlaw10_PersistIs_c20 (nQ fun l H => S (l.getD 6 undef) H) ((List.range 85).map x) H = sounderlaw10_PersistIs_g30 S (x 0) (x 8) (x 9) (x 10) (x 11) (x 12) (x 13) H := by kernel_rfl
def sounderlaw10_PersistIs (x0 x1 x2 : Value) (R : Value → Heap → Prop) (H : Heap) : Prop :=
  sounderlaw10_PersistIs_g21 (fun x0 x1 x5 H => sounderlaw10_PersistIs_g22 (fun x0 x1 x5 H => sounderlaw10_PersistIs_g23 (fun x0 x1 x7 x8 H => sounderlaw10_PersistIs_g24 (fun x0 x1 x7 x8 x9 H => sounderlaw10_PersistIs_g25 (fun x0 x8 x9 x10 H => sounderlaw10_PersistIs_g26 (fun x0 x8 x9 x10 H => sounderlaw10_PersistIs_g27 (fun x0 x8 x9 x10 x11 H => sounderlaw10_PersistIs_g28 (fun x0 x8 x9 x10 x11 x12 H => sounderlaw10_PersistIs_g29 (fun x0 x8 x9 x10 x11 x12 x13 H => sounderlaw10_PersistIs_g30 (fun x6 H => R x6 H) x0 x8 x9 x10 x11 x12 x13 H) x0 x8 x9 x10 x11 x12 H) x0 x8 x9 x10 x11 H) x0 x8 x9 x10 H) x0 x8 x9 x10 H) x0 x1 x7 x8 x9 H) x0 x1 x7 x8 H) x0 x1 x5 H) x0 x1 x5 H) x0 x1 x2 H
theorem sounderlaw10_PersistIs_i (R : Value → Heap → Prop) (x0 x1 x2 : Value) (H : Heap) (h : sounderlaw10_PersistIs x0 x1 x2 R H) : wpE tab P sounderlaw10_PersistIs_pi sounderlaw10_PersistIs_c1 (retQ tab sounderlaw10_PersistIs_rs R) [x0, x1, x2, undef, undef, undef, undef, undef, undef, undef, undef, undef, undef, undef, undef, undef, undef, undef, undef, undef, undef, undef, undef, undef, undef, undef, undef, undef, undef, undef, undef, undef, undef, undef, undef, undef, undef, undef, undef, undef, undef, undef, undef, undef, undef, undef, undef, undef, undef, undef, undef, undef, undef, undef, undef, undef, undef, undef, undef, undef, undef, undef, undef, undef, undef, undef, undef, undef, undef, undef, undef, undef, undef, undef, undef, undef, undef, undef, undef, undef, undef, undef, undef, undef, undef] H := by
  obtain ⟨l, hl, el⟩ : ∃ l : List Value, l.length = 85 ∧ l = [x0, x1, x2, undef, undef, undef, undef, undef, undef, undef, undef, undef, undef, undef, undef, undef, undef, undef, undef, undef, undef, undef, undef, undef, undef, undef, undef, undef, undef, undef, undef, undef, undef, undef, undef, undef, undef, undef, undef, undef, undef, undef, undef, undef, undef, undef, undef, undef, undef, undef, undef, undef, undef, undef, undef, undef, undef, undef, undef, undef, undef, undef, undef, undef, undef, undef, undef, undef, undef, undef, undef, undef, undef, undef, undef, undef, undef, undef, undef, undef, undef, undef, undef, undef, undef] := ⟨_, rfl, rfl⟩
  rw [← el]
  have h : (fun (x0 x1 x2 : Value) => sounderlaw10_PersistIs_g21 (fun x0 x1 x5 H => sounderlaw10_PersistIs_g22 (fun x0 x1 x5 H => sounderlaw10_PersistIs_g23 (fun x0 x1 x7 x8 H => sounderlaw10_PersistIs_g24 (fun x0 x1 x7 x8 x9 H => sounderlaw10_PersistIs_g25 (fun x0 x8 x9 x10 H => sounderlaw10_PersistIs_g26 (fun x0 x8 x9 x10 H => sounderlaw10_PersistIs_g27 (fun x0 x8 x9 x10 x11 H => sounderlaw10_PersistIs_g28 (fun x0 x8 x9 x10 x11 x12 H => sounderlaw10_PersistIs_g29 (fun x0 x8 x9 x10 x11 x12 x13 H => sounderlaw10_PersistIs_g30 (fun x6 H => R x6 H) x0 x8 x9 x10 x11 x12 x13 H) x0 x8 x9 x10 x11 x12 H) x0 x8 x9 x10 x11 H) x0 x8 x9 x10 H) x0 x8 x9 x10 H) x0 x1 x7 x8 x9 H) x0 x1 x7 x8 H) x0 x1 x5 H) x0 x1 x5 H) x0 x1 x2 H) (l.getD 0 undef) (l.getD 1 undef) (l.getD 2 undef) := by rw [el]; exact h
  clear el
  refine seqI (c := sounderlaw10_PersistIs_c1) rfl ?_
  refine regI hl (Eq.mpr (sounderlaw10_PersistIs_g21_e _ (fun i => l.getD i undef) _) h) ?_
  clear h hl
  intro l H hl h
  refine thenN ?_
  refine seqI (c := sounderlaw10_PersistIs_c3) rfl ?_
  refine regI hl (Eq.mpr (sounderlaw10_PersistIs_g22_e _ (fun i => l.getD i undef) _) h) ?_
  clear h hl
  intro l H hl h
  refine thenN ?_
  refine seqI (c := sounderlaw10_PersistIs_c5) rfl ?_
  refine regI hl (Eq.mpr (sounderlaw10_PersistIs_g23_e _ (fun i => l.getD i undef) _) h) ?_
  clear h hl
  intro l H hl h
  refine thenN ?_
  refine seqI (c := sounderlaw10_PersistIs_c7) rfl ?_
  refine regI hl (Eq.mpr (sounderlaw10_PersistIs_g24_e _ (fun i => l.getD i undef) _) h) ?_
  clear h hl
  intro l H hl h
  refine thenN ?_
  refine seqI (c := sounderlaw10_PersistIs_c9) rfl ?_
  refine regI hl (Eq.mpr (sounderlaw10_PersistIs_g25_e _ (fun i => l.getD i undef) _) h) ?_
  clear h hl
  intro l H hl h
  refine thenN ?_
  refine seqI (c := sounderlaw10_PersistIs_c11) rfl ?_
  refine regI hl (Eq.mpr (sounderlaw10_PersistIs_g26_e _ (fun i => l.getD i undef) _) h) ?_
  clear h hl
  intro l H hl h
  refine thenN ?_
  refine seqI (c := sounderlaw10_PersistIs_c13) rfl ?_
  refine regI hl (Eq.mpr (sounderlaw10_PersistIs_g27_e _ (fun i => l.getD i undef) _) h) ?_
  clear h hl
  intro l H hl h
  refine thenN ?_
  refine seqI (c := sounderlaw10_PersistIs_c15) rfl ?_
  refine regI hl (Eq.mpr (sounderlaw10_PersistIs_g28_e _ (fun i => l.getD i undef) _) h) ?_
  clear h hl
  intro l H hl h
  refine thenN ?_
  refine seqI (c := sounderlaw10_PersistIs_c17) rfl ?_
  refine regI hl (Eq.mpr (sounderlaw10_PersistIs_g29_e _ (fun i => l.getD i undef) _) h) ?_
  clear h hl
  intro l H hl h
  refine thenN ?_
  refine seqI (c := sounderlaw10_PersistIs_c19) rfl ?_
  refine regI hl (Eq.mpr (sounderlaw10_PersistIs_g30_e _ (fun i => l.getD i undef) _) h) ?_
  clear h hl
  intro l H hl h
  refine thenN ?_
  refine retI rfl ?_
  exact h
theorem sounderlaw10_PersistIs_ok : okB sounderlaw10_PersistIs_pi sounderlaw10_PersistIs_c1 = true := by kernel_rfl
theorem sounderlaw10_PersistIs_ev0 (x0 x1 x2 : Value) (R : Value → Heap → Prop) (H : Heap) (h : sounderlaw10_PersistIs x0 x1 x2 R H) : EvL P N.sounderlaw10_PersistIs #[x0, x1, x2] H R :=
  EvF_intro (args := [x0, x1, x2]) (k := 82) (rs := sounderlaw10_PersistIs_rs) tab_ok mixed Try.func4 (show Try.f4.body = some sounderlaw10_PersistIs_c1 by kernel_rfl) Try.call4 Try.ntmps4 (by kernel_rfl) (okCode_of _ sounderlaw10_PersistIs_ok) rfl (sounderlaw10_PersistIs_i R x0 x1 x2 H h)
theorem sounderlaw10_PersistIs_ev (x0 x1 x2 : Value) (R : Value → Heap → Prop) (H : Heap) (h : sounderlaw10_PersistIs x0 x1 x2 R H) : EvF P N.sounderlaw10_PersistIs #[x0, x1, x2] H R := .inl (sounderlaw10_PersistIs_ev0 x0 x1 x2 R H h)
/- 6: sounder/sounderlaw10.PersistRuns -/
def sounderlaw10_PersistRuns_rs : List ResultVar := [.tmp 6]
noncomputable def sounderlaw10_PersistRuns_c2 : Code := subC (bodyC Try.f6) [0]
noncomputable def sounderlaw10_PersistRuns_c5 : Code := subC (bodyC Try.f6) [1, 0, 0]
noncomputable def sounderlaw10_PersistRuns_c8 : Code := subC (bodyC Try.f6) [1, 0, 1, 0, 0]
noncomputable def sounderlaw10_PersistRuns_c7 : Code := .seq sounderlaw10_PersistRuns_c8 Code.ret
noncomputable def sounderlaw10_PersistRuns_c6 : Code := .cond (.tmp 19) sounderlaw10_PersistRuns_c7 Code.skip
noncomputable def sounderlaw10_PersistRuns_c4 : Code := .seq sounderlaw10_PersistRuns_c5 sounderlaw10_PersistRuns_c6
noncomputable def sounderlaw10_PersistRuns_c10 : Code := subC (bodyC Try.f6) [1, 1, 0]
noncomputable def sounderlaw10_PersistRuns_c12 : Code := subC (bodyC Try.f6) [1, 1, 1, 0]
noncomputable def sounderlaw10_PersistRuns_c14 : Code := subC (bodyC Try.f6) [1, 1, 1, 1, 0]
noncomputable def sounderlaw10_PersistRuns_c17 : Code := subC (bodyC Try.f6) [1, 1, 1, 1, 1, 0, 0]
noncomputable def sounderlaw10_PersistRuns_c22 : Code := subC (bodyC Try.f6) [1, 1, 1, 1, 1, 0, 1, 0, 0, 0, 0]
noncomputable def sounderlaw10_PersistRuns_c24 : Code := .exit 0
noncomputable def sounderlaw10_PersistRuns_c23 : Code := .cond (.tmp 29) Code.skip sounderlaw10_PersistRuns_c24
noncomputable def sounderlaw10_PersistRuns_c21 : Code := .seq sounderlaw10_PersistRuns_c22 sounderlaw10_PersistRuns_c23
noncomputable def sounderlaw10_PersistRuns_c29 : Code := subC (bodyC Try.f6) [1, 1, 1, 1, 1, 0, 1, 0, 0, 1, 0, 0, 0, 0]
noncomputable def sounderlaw10_PersistRuns_c31 : Code := .exit 1
noncomputable def sounderlaw10_PersistRuns_c30 : Code := .cond (.tmp 46) sounderlaw10_PersistRuns_c31 Code.skip
noncomputable def sounderlaw10_PersistRuns_c28 : Code := .seq sounderlaw10_PersistRuns_c29 sounderlaw10_PersistRuns_c30
noncomputable def sounderlaw10_PersistRuns_c33 : Code := subC (bodyC Try.f6) [1, 1, 1, 1, 1, 0, 1, 0, 0, 1, 0, 0, 1, 0]
noncomputable def sounderlaw10_PersistRuns_c36 : Code := subC (bodyC Try.f6) [1, 1, 1, 1, 1, 0, 1, 0, 0, 1, 0, 0, 1, 1, 0, 0]
noncomputable def sounderlaw10_PersistRuns_c41 : Code := subC (bodyC Try.f6) [1, 1, 1, 1, 1, 0, 1, 0, 0, 1, 0, 0, 1, 1, 0, 1, 0, 0, 0, 0]
noncomputable def sounderlaw10_PersistRuns_c43 : Code := .exit 2
noncomputable def sounderlaw10_PersistRuns_c42 : Code := .cond (.tmp 52) Code.skip sounderlaw10_PersistRuns_c43
noncomputable def sounderlaw10_PersistRuns_c40 : Code := .seq sounderlaw10_PersistRuns_c41 sounderlaw10_PersistRuns_c42
noncomputable def sounderlaw10_PersistRuns_c47 : Code := subC (bodyC Try.f6) [1, 1, 1, 1, 1, 0, 1, 0, 0, 1, 0, 0, 1, 1, 0, 1, 0, 0, 1, 0, 0, 0]
noncomputable def sounderlaw10_PersistRuns_c50 : Code := subC (bodyC Try.f6) [1, 1, 1, 1, 1, 0, 1, 0, 0, 1, 0, 0, 1, 1, 0, 1, 0, 0, 1, 0, 0, 1, 0, 0]
noncomputable def sounderlaw10_PersistRuns_c55 : Code := subC (bodyC Try.f6) [1, 1, 1, 1, 1, 0, 1, 0, 0, 1, 0, 0, 1, 1, 0, 1, 0, 0, 1, 0, 0, 1, 0, 1, 0, 0, 0, 0]
noncomputable def sounderlaw10_PersistRuns_c57 : Code := .exit 4
noncomputable def sounderlaw10_PersistRuns_c56 : Code := .cond (.tmp 67) Code.skip sounderlaw10_PersistRuns_c57
noncomputable def sounderlaw10_PersistRuns_c54 : Code := .seq sounderlaw10_PersistRuns_c55 sounderlaw10_PersistRuns_c56
noncomputable def sounderlaw10_PersistRuns_c60 : Code := subC (bodyC Try.f6) [1, 1, 1, 1, 1, 0, 1, 0, 0, 1, 0, 0, 1, 1, 0, 1, 0, 0, 1, 0, 0, 1, 0, 1, 0, 0, 1, 0, 0]
noncomputable def sounderlaw10_PersistRuns_c59 : Code := .block 5 sounderlaw10_PersistRuns_c60
noncomputable def sounderlaw10_PersistRuns_c61 : Code := subC (bodyC Try.f6) [1, 1, 1, 1, 1, 0, 1, 0, 0, 1, 0, 0, 1, 1, 0, 1, 0, 0, 1, 0, 0, 1, 0, 1, 0, 0, 1, 1]
noncomputable def sounderlaw10_PersistRuns_c58 : Code := .seq sounderlaw10_PersistRuns_c59 sounderlaw10_PersistRuns_c61
noncomputable def sounderlaw10_PersistRuns_c53 : Code := .seq sounderlaw10_PersistRuns_c54 sounderlaw10_PersistRuns_c58
noncomputable def sounderlaw10_PersistRuns_c52 : Code := .loop sounderlaw10_PersistRuns_c53
noncomputable def sounderlaw10_PersistRuns_c51 : Code := .block 4 sounderlaw10_PersistRuns_c52
noncomputable def sounderlaw10_PersistRuns_c49 : Code := .seq sounderlaw10_PersistRuns_c50 sounderlaw10_PersistRuns_c51
noncomputable def sounderlaw10_PersistRuns_c64 : Code := subC (bodyC Try.f6) [1, 1, 1, 1, 1, 0, 1, 0, 0, 1, 0, 0, 1, 1, 0, 1, 0, 0, 1, 0, 0, 1, 1, 0, 0]
noncomputable def sounderlaw10_PersistRuns_c66 : Code := .exit 2
noncomputable def sounderlaw10_PersistRuns_c65 : Code := .cond (.tmp 78) sounderlaw10_PersistRuns_c66 Code.skip
noncomputable def sounderlaw10_PersistRuns_c63 : Code := .seq sounderlaw10_PersistRuns_c64 sounderlaw10_PersistRuns_c65
noncomputable def sounderlaw10_PersistRuns_c68 : Code := subC (bodyC Try.f6) [1, 1, 1, 1, 1, 0, 1, 0, 0, 1, 0, 0, 1, 1, 0, 1, 0, 0, 1, 0, 0, 1, 1, 1, 0]
noncomputable def sounderlaw10_PersistRuns_c70 : Code := subC (bodyC Try.f6) [1, 1, 1, 1, 1, 0, 1, 0, 0, 1, 0, 0, 1, 1, 0, 1, 0, 0, 1, 0, 0, 1, 1, 1, 1, 0]
noncomputable def sounderlaw10_PersistRuns_c69 : Code := .cond (.tmp 100) sounderlaw10_PersistRuns_c70 Code.skip
noncomputable def sounderlaw10_PersistRuns_c67 : Code := .seq sounderlaw10_PersistRuns_c68 sounderlaw10_PersistRuns_c69
noncomputable def sounderlaw10_PersistRuns_c62 : Code := .seq sounderlaw10_PersistRuns_c63 sounderlaw10_PersistRuns_c67
noncomputable def sounderlaw10_PersistRuns_c48 : Code := .seq sounderlaw10_PersistRuns_c49 sounderlaw10_PersistRuns_c62
noncomputable def sounderlaw10_PersistRuns_c46 : Code := .seq sounderlaw10_PersistRuns_c47 sounderlaw10_PersistRuns_c48
noncomputable def sounderlaw10_PersistRuns_c45 : Code := .block 3 sounderlaw10_PersistRuns_c46
noncomputable def sounderlaw10_PersistRuns_c71 : Code := subC (bodyC Try.f6) [1, 1, 1, 1, 1, 0, 1, 0, 0, 1, 0, 0, 1, 1, 0, 1, 0, 0, 1, 1]
noncomputable def sounderlaw10_PersistRuns_c44 : Code := .seq sounderlaw10_PersistRuns_c45 sounderlaw10_PersistRuns_c71
noncomputable def sounderlaw10_PersistRuns_c39 : Code := .seq sounderlaw10_PersistRuns_c40 sounderlaw10_PersistRuns_c44
noncomputable def sounderlaw10_PersistRuns_c38 : Code := .loop sounderlaw10_PersistRuns_c39
noncomputable def sounderlaw10_PersistRuns_c37 : Code := .block 2 sounderlaw10_PersistRuns_c38
noncomputable def sounderlaw10_PersistRuns_c35 : Code := .seq sounderlaw10_PersistRuns_c36 sounderlaw10_PersistRuns_c37
noncomputable def sounderlaw10_PersistRuns_c73 : Code := subC (bodyC Try.f6) [1, 1, 1, 1, 1, 0, 1, 0, 0, 1, 0, 0, 1, 1, 1, 0]
noncomputable def sounderlaw10_PersistRuns_c75 : Code := subC (bodyC Try.f6) [1, 1, 1, 1, 1, 0, 1, 0, 0, 1, 0, 0, 1, 1, 1, 1, 0]
noncomputable def sounderlaw10_PersistRuns_c74 : Code := .cond (.tmp 122) sounderlaw10_PersistRuns_c75 Code.skip
noncomputable def sounderlaw10_PersistRuns_c72 : Code := .seq sounderlaw10_PersistRuns_c73 sounderlaw10_PersistRuns_c74
noncomputable def sounderlaw10_PersistRuns_c34 : Code := .seq sounderlaw10_PersistRuns_c35 sounderlaw10_PersistRuns_c72
noncomputable def sounderlaw10_PersistRuns_c32 : Code := .seq sounderlaw10_PersistRuns_c33 sounderlaw10_PersistRuns_c34
noncomputable def sounderlaw10_PersistRuns_c27 : Code := .seq sounderlaw10_PersistRuns_c28 sounderlaw10_PersistRuns_c32
noncomputable def sounderlaw10_PersistRuns_c26 : Code := .block 1 sounderlaw10_PersistRuns_c27
noncomputable def sounderlaw10_PersistRuns_c76 : Code := subC (bodyC Try.f6) [1, 1, 1, 1, 1, 0, 1, 0, 0, 1, 1]
noncomputable def sounderlaw10_PersistRuns_c25 : Code := .seq sounderlaw10_PersistRuns_c26 sounderlaw10_PersistRuns_c76
noncomputable def sounderlaw10_PersistRuns_c20 : Code := .seq sounderlaw10_PersistRuns_c21 sounderlaw10_PersistRuns_c25
noncomputable def sounderlaw10_PersistRuns_c19 : Code := .loop sounderlaw10_PersistRuns_c20
noncomputable def sounderlaw10_PersistRuns_c18 : Code := .block 0 sounderlaw10_PersistRuns_c19
noncomputable def sounderlaw10_PersistRuns_c16 : Code := .seq sounderlaw10_PersistRuns_c17 sounderlaw10_PersistRuns_c18
noncomputable def sounderlaw10_PersistRuns_c79 : Code := subC (bodyC Try.f6) [1, 1, 1, 1, 1, 1, 0, 0]
noncomputable def sounderlaw10_PersistRuns_c82 : Code := subC (bodyC Try.f6) [1, 1, 1, 1, 1, 1, 0, 1, 0, 0]
noncomputable def sounderlaw10_PersistRuns_c81 : Code := .seq sounderlaw10_PersistRuns_c82 Code.ret
noncomputable def sounderlaw10_PersistRuns_c80 : Code := .cond (.tmp 145) sounderlaw10_PersistRuns_c81 Code.skip
noncomputable def sounderlaw10_PersistRuns_c78 : Code := .seq sounderlaw10_PersistRuns_c79 sounderlaw10_PersistRuns_c80
noncomputable def sounderlaw10_PersistRuns_c84 : Code := subC (bodyC Try.f6) [1, 1, 1, 1, 1, 1, 1, 0]
noncomputable def sounderlaw10_PersistRuns_c83 : Code := .seq sounderlaw10_PersistRuns_c84 Code.ret
noncomputable def sounderlaw10_PersistRuns_c77 : Code := .seq sounderlaw10_PersistRuns_c78 sounderlaw10_PersistRuns_c83
noncomputable def sounderlaw10_PersistRuns_c15 : Code := .seq sounderlaw10_PersistRuns_c16 sounderlaw10_PersistRuns_c77
noncomputable def sounderlaw10_PersistRuns_c13 : Code := .seq sounderlaw10_PersistRuns_c14 sounderlaw10_PersistRuns_c15
noncomputable def sounderlaw10_PersistRuns_c11 : Code := .seq sounderlaw10_PersistRuns_c12 sounderlaw10_PersistRuns_c13
noncomputable def sounderlaw10_PersistRuns_c9 : Code := .seq sounderlaw10_PersistRuns_c10 sounderlaw10_PersistRuns_c11
noncomputable def sounderlaw10_PersistRuns_c3 : Code := .seq sounderlaw10_PersistRuns_c4 sounderlaw10_PersistRuns_c9
noncomputable def sounderlaw10_PersistRuns_c1 : Code := .seq sounderlaw10_PersistRuns_c2 sounderlaw10_PersistRuns_c3
def sounderlaw10_PersistRuns_pi (i : Nat) : Pl := match i with
  | 20 => (ones [0, 1, 2, 3, 4, 5, 6, 7, 8, 9, 10, 11, 12, 13, 14, 15, 16, 17, 18, 19, 20, 21] .nil)
  | 22 => (ones [0, 1, 2, 3, 4, 5, 6, 7, 8, 9, 10, 11, 12, 13, 14, 15, 16, 17, 18, 19, 20] .nil)
  | 23 => (ones [0, 1, 2, 3, 4, 5, 6, 7, 8, 9, 10, 11, 12, 13, 14, 15, 16, 17, 18, 19, 20, 21, 22, 23, 24] .nil)
  | _ => .nil
def sounderlaw10_PersistRuns_g85 (S : Value → Value → Value → Heap → Prop) (x0 x1 x2 : Value) (H : Heap) : Prop :=
  S x0 x1 x2 H
theorem sounderlaw10_PersistRuns_g85_e (S : Value → Value → Value → Heap → Prop) (x : Nat → Value) (H : Heap) : wpE tab P sounderlaw10_PersistRuns_pi sounderlaw10_PersistRuns_c2 (nQ fun l H => S (l.getD 0 undef) (l.getD 1 undef) (l.getD 2 undef) H) ((List.range 158).map x) H = sounderlaw10_PersistRuns_g85 S (x 0) (x 1) (x 2) H := by kernel_rfl
def sounderlaw10_PersistRuns_g86 (S : Value → Value → Value → Value → Heap → Prop) (x0 x1 x2 : Value) (H : Heap) : Prop :=
  EvF P N.sounderlaw10_works #[] H fun v18 H1 =>
  bnd (unV .not v18) fun v19 =>
  S x0 x1 x2 v19 H1
theorem sounderlaw10_PersistRuns_g86_e (S : Value → Value → Value → Value → Heap → Prop) (x : Nat → Value) (H : Heap) : wpE tab P sounderlaw10_PersistRuns_pi sounderlaw10_PersistRuns_c5 (nQ fun l H => S (l.getD 0 undef) (l.getD 1 undef) (l.getD 2 undef) (l.getD 19 undef) H) ((List.range 158).map x) H = sounderlaw10_PersistRuns_g86 S (x 0) (x 1) (x 2) H := by kernel_rfl
def sounderlaw10_PersistRuns_g87 (S : Value → Heap → Prop) (H : Heap) : Prop :=
  S (.bool false) H
theorem sounderlaw10_PersistRuns_g87_e (S : Value → Heap → Prop) (x : Nat → Value) (H : Heap) : wpE tab P sounderlaw10_PersistRuns_pi sounderlaw10_PersistRuns_c8 (nQ fun l H => S (l.getD 6 undef) H) ((List.range 158).map x) H = sounderlaw10_PersistRuns_g87 S  H := by kernel_rfl
def sounderlaw10_PersistRuns_g88 (S : Value → Value → Value → Heap → Prop) (x0 x1 x2 : Value) (H : Heap) : Prop :=
  EvF P N.sounderlaw10_made #[x0] H fun v21 H1 =>
  EvF P N.sounderlaw10_marks #[x1] H1 fun v23 H2 =>
  S x2 v21 v23 H2
theorem sounderlaw10_PersistRuns_g88_e (S : Value → Value → Value → Heap → Prop) (x : Nat → Value) (H : Heap) : wpE tab P sounderlaw10_PersistRuns_pi sounderlaw10_PersistRuns_c10 (nQ fun l H => S (l.getD 2 undef) (l.getD 7 undef) (l.getD 8 undef) H) ((List.range 158).map x) H = sounderlaw10_PersistRuns_g88 S (x 0) (x 1) (x 2) H := by kernel_rfl
def sounderlaw10_PersistRuns_g89 (S : Value → Value → Value → Heap → Prop) (x2 x7 x8 : Value) (H : Heap) : Prop :=
  EvF P N.sounderref00_Bring #[x2, (.int .i64 68719476736)] H fun v25 H1 =>
  S v25 x7 x8 H1
theorem sounderlaw10_PersistRuns_g89_e (S : Value → Value → Value → Heap → Prop) (x : Nat → Value) (H : Heap) : wpE tab P sounderlaw10_PersistRuns_pi sounderlaw10_PersistRuns_c12 (nQ fun l H => S (l.getD 2 undef) (l.getD 7 undef) (l.getD 8 undef) H) ((List.range 158).map x) H = sounderlaw10_PersistRuns_g89 S (x 2) (x 7) (x 8) H := by kernel_rfl
def sounderlaw10_PersistRuns_g90 (S : Value → Value → Value → Value → Value → Value → Value → Heap → Prop) (x2 x7 x8 : Value) (H : Heap) : Prop :=
  S x2 x7 x8 (.int .i64 0) (.int .i64 0) (.int .i64 0) (.bool false) H
theorem sounderlaw10_PersistRuns_g90_e (S : Value → Value → Value → Value → Value → Value → Value → Heap → Prop) (x : Nat → Value) (H : Heap) : wpE tab P sounderlaw10_PersistRuns_pi sounderlaw10_PersistRuns_c14 (nQ fun l H => S (l.getD 2 undef) (l.getD 7 undef) (l.getD 8 undef) (l.getD 9 undef) (l.getD 10 undef) (l.getD 11 undef) (l.getD 12 undef) H) ((List.range 158).map x) H = sounderlaw10_PersistRuns_g90 S (x 2) (x 7) (x 8) H := by kernel_rfl
def sounderlaw10_PersistRuns_g91 (S : Value → Value → Value → Value → Value → Value → Value → Value → Heap → Prop) (x2 x7 x8 x9 x10 x11 x12 : Value) (H : Heap) : Prop :=
  S x2 x7 x8 x9 x10 x11 x12 (.int .i64 0) H
theorem sounderlaw10_PersistRuns_g91_e (S : Value → Value → Value → Value → Value → Value → Value → Value → Heap → Prop) (x : Nat → Value) (H : Heap) : wpE tab P sounderlaw10_PersistRuns_pi sounderlaw10_PersistRuns_c17 (nQ fun l H => S (l.getD 2 undef) (l.getD 7 undef) (l.getD 8 undef) (l.getD 9 undef) (l.getD 10 undef) (l.getD 11 undef) (l.getD 12 undef) (l.getD 13 undef) H) ((List.range 158).map x) H = sounderlaw10_PersistRuns_g91 S (x 2) (x 7) (x 8) (x 9) (x 10) (x 11) (x 12) H := by kernel_rfl
def sounderlaw10_PersistRuns_g93 (S : Value → Value → Value → Value → Value → Value → Value → Value → Value → Heap → Prop) (x2 x7 x8 x9 x10 x11 x12 x13 : Value) (H : Heap) : Prop :=
  bnd (lenV x7) fun v28 =>
  bnd (binV .int .lss x13 v28) fun v29 =>
  S x2 x7 x8 x9 x10 x11 x12 x13 v29 H
theorem sounderlaw10_PersistRuns_g93_e (S : Value → Value → Value → Value → Value → Value → Value → Value → Value → Heap → Prop) (x : Nat → Value) (H : Heap) : wpE tab P sounderlaw10_PersistRuns_pi sounderlaw10_PersistRuns_c22 (nQ fun l H => S (l.getD 2 undef) (l.getD 7 undef) (l.getD 8 undef) (l.getD 9 undef) (l.getD 10 undef) (l.getD 11 undef) (l.getD 12 undef) (l.getD 13 undef) (l.getD 29 undef) H) ((List.range 158).map x) H = sounderlaw10_PersistRuns_g93 S (x 2) (x 7) (x 8) (x 9) (x 10) (x 11) (x 12) (x 13) H := by kernel_rfl
def sounderlaw10_PersistRuns_g95 (S : Value → Value → Value → Value → Value → Value → Value → Value → Heap → Prop) (x2 x7 x8 x9 x10 x11 x12 x13 : Value) (H : Heap) : Prop :=
  bnd (binV .int .add x13 (.int .i64 1)) fun v31 =>
  S x2 x7 x8 x9 x10 x11 x12 v31 H
theorem sounderlaw10_PersistRuns_g95_e (S : Value → Value → Value → Value → Value → Value → Value → Value → Heap → Prop) (x : Nat → Value) (H : Heap) : wpE tab P sounderlaw10_PersistRuns_pi sounderlaw10_PersistRuns_c76 (nQ fun l H => S (l.getD 2 undef) (l.getD 7 undef) (l.getD 8 undef) (l.getD 9 undef) (l.getD 10 undef) (l.getD 11 undef) (l.getD 12 undef) (l.getD 13 undef) H) ((List.range 158).map x) H = sounderlaw10_PersistRuns_g95 S (x 2) (x 7) (x 8) (x 9) (x 10) (x 11) (x 12) (x 13) H := by kernel_rfl
def sounderlaw10_PersistRuns_s94 (x2 x7 x8 x9 x10 x11 x12 x13 : Value) (K1 : Value → Value → Value → Value → Value → Value → Value → Value →  Heap → Prop) (_R : Value → Heap → Prop) (H : Heap) : Prop :=
  sounderlaw10_PersistRuns_g95 (fun x2 x7 x8 x9 x10 x11 x12 x13 H => K1 x2 x7 x8 x9 x10 x11 x12 x13 H) x2 x7 x8 x9 x10 x11 x12 x13 H
noncomputable def sounderlaw10_PersistRuns_q96 (R : Value → Heap → Prop) : Exit → List Value → Heap → Prop := (retQ tab sounderlaw10_PersistRuns_rs R)
noncomputable def sounderlaw10_PersistRuns_q97 (R : Value → Heap → Prop) : Exit → List Value → Heap → Prop := (thenE (fun l H => wpE tab P sounderlaw10_PersistRuns_pi sounderlaw10_PersistRuns_c77 (sounderlaw10_PersistRuns_q96 R) l H) (sounderlaw10_PersistRuns_q96 R))
noncomputable def sounderlaw10_PersistRuns_q98 (R : Value → Heap → Prop) : Exit → List Value → Heap → Prop := (blkE 0 (sounderlaw10_PersistRuns_q97 R))
noncomputable def sounderlaw10_PersistRuns_q99 (K1 : Value → Value → Value → Value → Value → Value → Value → Value →  Heap → Prop) (R : Value → Heap → Prop) : Exit → List Value → Heap → Prop := (thenE (fun l H => K1 (l.getD 2 undef) (l.getD 7 undef) (l.getD 8 undef) (l.getD 9 undef) (l.getD 10 undef) (l.getD 11 undef) (l.getD 12 undef) (l.getD 13 undef) H) (sounderlaw10_PersistRuns_q98 R))
theorem sounderlaw10_PersistRuns_s94_i (K1 : Value → Value → Value → Value → Value → Value → Value → Value →  Heap → Prop) (R : Value → Heap → Prop) (l : List Value) (H : Heap) (hl : l.length = 158) (h : sounderlaw10_PersistRuns_s94 (l.getD 2 undef) (l.getD 7 undef) (l.getD 8 undef) (l.getD 9 undef) (l.getD 10 undef) (l.getD 11 undef) (l.getD 12 undef) (l.getD 13 undef) K1 R H) : wpE tab P sounderlaw10_PersistRuns_pi sounderlaw10_PersistRuns_c76 (sounderlaw10_PersistRuns_q99 K1 R) l H := by
  refine regI hl (Eq.mpr (sounderlaw10_PersistRuns_g95_e _ (fun i => l.getD i undef) _) h) ?_
  clear h hl
  intro l H hl h
  refine thenN ?_
  exact h
def sounderlaw10_PersistRuns_g100 (S : Value → Value → Value → Value → Value → Value → Value → Value → Value → Heap → Prop) (x2 x7 x8 x9 x10 x11 x12 x13 : Value) (H : Heap) : Prop :=
  bnd (ixSV 6 x7 x13) fun v34 =>
  bnd (faV 3 v34) fun v35 =>
  bnd (ldE false 1 v35 H) fun v36 =>
  bnd (unV .not v36) fun v37 =>
  brV v37
  (S x2 x7 x8 x9 x10 x11 x12 x13 (.bool true) H)
  (bnd (ixSV 6 x7 x13) fun v41 =>
  bnd (faV 1 v41) fun v42 =>
  bnd (ldE false 1 v42 H) fun v43 =>
  bnd (binV .int .leq v43 x2) fun v45 =>
  S x2 x7 x8 x9 x10 x11 x12 x13 v45 H)
theorem sounderlaw10_PersistRuns_g100_e (S : Value → Value → Value → Value → Value → Value → Value → Value → Value → Heap → Prop) (x : Nat → Value) (H : Heap) : wpE tab P sounderlaw10_PersistRuns_pi sounderlaw10_PersistRuns_c29 (nQ fun l H => S (l.getD 2 undef) (l.getD 7 undef) (l.getD 8 undef) (l.getD 9 undef) (l.getD 10 undef) (l.getD 11 undef) (l.getD 12 undef) (l.getD 13 undef) (l.getD 46 undef) H) ((List.range 158).map x) H = sounderlaw10_PersistRuns_g100 S (x 2) (x 7) (x 8) (x 9) (x 10) (x 11) (x 12) (x 13) H := by kernel_rfl
def sounderlaw10_PersistRuns_g101 (S : Value → Value → Value → Value → Value → Value → Value → Value → Value → Heap → Prop) (x2 x7 x8 x9 x10 x11 x12 x13 : Value) (H : Heap) : Prop :=
  S x2 x7 x8 x9 x10 x11 x12 x13 (.int .i64 (-1)) H
theorem sounderlaw10_PersistRuns_g101_e (S : Value → Value → Value → Value → Value → Value → Value → Value → Value → Heap → Prop) (x : Nat → Value) (H : Heap) : wpE tab P sounderlaw10_PersistRuns_pi sounderlaw10_PersistRuns_c33 (nQ fun l H => S (l.getD 2 undef) (l.getD 7 undef) (l.getD 8 undef) (l.getD 9 undef) (l.getD 10 undef) (l.getD 11 undef) (l.getD 12 undef) (l.getD 13 undef) (l.getD 14 undef) H) ((List.range 158).map x) H = sounderlaw10_PersistRuns_g101 S (x 2) (x 7) (x 8) (x 9) (x 10) (x 11) (x 12) (x 13) H := by kernel_rfl
def sounderlaw10_PersistRuns_g103 (S : Value → Value → Value → Value → Value → Value → Value → Value → Value → Value → Heap → Prop) (x2 x7 x8 x9 x10 x11 x12 x13 x14 : Value) (H : Heap) : Prop :=
  bnd (binV .int .geq x14 (.int .i64 0)) fun v103 =>
  brV v103
  (bnd (unV .not x12) fun v106 =>
  brG v106
  (S x2 x7 x8 x9 x10 x11 x12 x13 x14 (.bool true) H)
  (bnd (ixSV 6 x7 x14) fun v110 =>
  bnd (faV 1 v110) fun v111 =>
  bnd (ldE false 1 v111 H) fun v112 =>
  bnd (ixSV 6 x7 x13) fun v115 =>
  bnd (faV 1 v115) fun v116 =>
  bnd (ldE false 1 v116 H) fun v117 =>
  bnd (binV .int .sub v112 v117) fun v118 =>
  bnd (binV .int .gtr v118 x9) fun v120 =>
  S x2 x7 x8 x9 x10 x11 x12 x13 x14 v120 H)
  (brG v106
  (S x2 x7 x8 x9 x10 x11 x12 x13 x14 (.bool true) H)
  (bnd (ixSV 6 undef x14) fun v110_2 =>
  bnd (faV 1 v110_2) fun v111_2 =>
  bnd (ldE false 1 v111_2 H) fun v112_2 =>
  bnd (ixSV 6 x7 x13) fun v115_2 =>
  bnd (faV 1 v115_2) fun v116_2 =>
  bnd (ldE false 1 v116_2 H) fun v117_2 =>
  bnd (binV .int .sub v112_2 v117_2) fun v118_2 =>
  bnd (binV .int .gtr v118_2 x9) fun v120_2 =>
  S x2 x7 x8 x9 x10 x11 x12 x13 x14 v120_2 H)
  (brG v106
  (S x2 x7 x8 x9 x10 x11 x12 x13 x14 (.bool true) H)
  (bnd (ixSV 6 undef undef) fun v110_3 =>
  bnd (faV 1 v110_3) fun v111_3 =>
  bnd (ldE false 1 v111_3 H) fun v112_3 =>
  bnd (ixSV 6 x7 x13) fun v115_3 =>
  bnd (faV 1 v115_3) fun v116_3 =>
  bnd (ldE false 1 v116_3 H) fun v117_3 =>
  bnd (binV .int .sub v112_3 v117_3) fun v118_3 =>
  bnd (binV .int .gtr v118_3 x9) fun v120_3 =>
  S x2 x7 x8 x9 x10 x11 x12 x13 x14 v120_3 H)
  (brG v106
  (S x2 x7 x8 x9 x10 x11 x12 x13 x14 (.bool true) H)
  (bnd (faV 1 undef) fun v111_4 =>
  bnd (ldE false 1 v111_4 H) fun v112_4 =>
  bnd (ixSV 6 x7 x13) fun v115_4 =>
  bnd (faV 1 v115_4) fun v116_4 =>
  bnd (ldE false 1 v116_4 H) fun v117_4 =>
  bnd (binV .int .sub v112_4 v117_4) fun v118_4 =>
  bnd (binV .int .gtr v118_4 x9) fun v120_4 =>
  S x2 x7 x8 x9 x10 x11 x12 x13 x14 v120_4 H)
  (brG v106
  (S x2 x7 x8 x9 x10 x11 x12 x13 x14 (.bool true) H)
  (bnd (ldE false 1 undef H) fun v112_5 =>
  bnd (ixSV 6 x7 x13) fun v115_5 =>
  bnd (faV 1 v115_5) fun v116_5 =>
  bnd (ldE false 1 v116_5 H) fun v117_5 =>
  bnd (binV .int .sub v112_5 v117_5) fun v118_5 =>
  bnd (binV .int .gtr v118_5 x9) fun v120_5 =>
  S x2 x7 x8 x9 x10 x11 x12 x13 x14 v120_5 H)
  (brG v106
  (S x2 x7 x8 x9 x10 x11 x12 x13 x14 (.bool true) H)
  (bnd (ixSV 6 x7 x13) fun v115_6 =>
  bnd (faV 1 v115_6) fun v116_6 =>
  bnd (ldE false 1 v116_6 H) fun v117_6 =>
  bnd (binV .int .sub undef v117_6) fun v118_6 =>
  bnd (binV .int .gtr v118_6 x9) fun v120_6 =>
  S x2 x7 x8 x9 x10 x11 x12 x13 x14 v120_6 H)
  (brG v106
  (S x2 x7 x8 x9 x10 x11 x12 x13 x14 (.bool true) H)
  (bnd (ixSV 6 undef x13) fun v115_7 =>
  bnd (faV 1 v115_7) fun v116_7 =>
  bnd (ldE false 1 v116_7 H) fun v117_7 =>
  bnd (binV .int .sub undef v117_7) fun v118_7 =>
  bnd (binV .int .gtr v118_7 x9) fun v120_7 =>
  S x2 x7 x8 x9 x10 x11 x12 x13 x14 v120_7 H)
  (brG v106
  (S x2 x7 x8 x9 x10 x11 x12 x13 x14 (.bool true) H)
  (bnd (ixSV 6 undef undef) fun v115_8 =>
  bnd (faV 1 v115_8) fun v116_8 =>
  bnd (ldE false 1 v116_8 H) fun v117_8 =>
  bnd (binV .int .sub undef v117_8) fun v118_8 =>
  bnd (binV .int .gtr v118_8 x9) fun v120_8 =>
  S x2 x7 x8 x9 x10 x11 x12 x13 x14 v120_8 H)
  (brG v106
  (S x2 x7 x8 x9 x10 x11 x12 x13 x14 (.bool true) H)
  (bnd (faV 1 undef) fun v116_9 =>
  bnd (ldE false 1 v116_9 H) fun v117_9 =>
  bnd (binV .int .sub undef v117_9) fun v118_9 =>
  bnd (binV .int .gtr v118_9 x9) fun v120_9 =>
  S x2 x7 x8 x9 x10 x11 x12 x13 x14 v120_9 H)
  (brG v106
  (S x2 x7 x8 x9 x10 x11 x12 x13 x14 (.bool true) H)
  (bnd (ldE false 1 undef H) fun v117_10 =>
  bnd (binV .int .sub undef v117_10) fun v118_10 =>
  bnd (binV .int .gtr v118_10 x9) fun v120_10 =>
  S x2 x7 x8 x9 x10 x11 x12 x13 x14 v120_10 H)
  (brG v106
  (S x2 x7 x8 x9 x10 x11 x12 x13 x14 (.bool true) H)
  (bnd (binV .int .sub undef undef) fun v118_11 =>
  bnd (binV .int .gtr v118_11 x9) fun v120_11 =>
  S x2 x7 x8 x9 x10 x11 x12 x13 x14 v120_11 H)
  (brG v106
  (S x2 x7 x8 x9 x10 x11 x12 x13 x14 (.bool true) H)
  (bnd (binV .int .gtr undef x9) fun v120_12 =>
  S x2 x7 x8 x9 x10 x11 x12 x13 x14 v120_12 H)
  (brG v106
  (S x2 x7 x8 x9 x10 x11 x12 x13 x14 (.bool true) H)
  (bnd (binV .int .gtr undef undef) fun v120_13 =>
  S x2 x7 x8 x9 x10 x11 x12 x13 x14 v120_13 H)
  (pickE v106 (.bool true) undef H fun v121 _ =>
  S x2 x7 x8 x9 x10 x11 x12 x13 x14 v121 H))))))))))))))
  (S x2 x7 x8 x9 x10 x11 x12 x13 x14 (.bool false) H)
theorem sounderlaw10_PersistRuns_g103_e (S : Value → Value → Value → Value → Value → Value → Value → Value → Value → Value → Heap → Prop) (x : Nat → Value) (H : Heap) : wpE tab P sounderlaw10_PersistRuns_pi sounderlaw10_PersistRuns_c73 (nQ fun l H => S (l.getD 2 undef) (l.getD 7 undef) (l.getD 8 undef) (l.getD 9 undef) (l.getD 10 undef) (l.getD 11 undef) (l.getD 12 undef) (l.getD 13 undef) (l.getD 14 undef) (l.getD 122 undef) H) ((List.range 158).map x) H = sounderlaw10_PersistRuns_g103 S (x 2) (x 7) (x 8) (x 9) (x 10) (x 11) (x 12) (x 13) (x 14) H := by kernel_rfl
def sounderlaw10_PersistRuns_g104 (S : Value → Value → Value → Value → Value → Value → Value → Value → Heap → Prop) (x2 x7 x8 x13 x14 : Value) (H : Heap) : Prop :=
  bnd (ixSV 6 x7 x14) fun v125 =>
  bnd (faV 1 v125) fun v126 =>
  bnd (ldE false 1 v126 H) fun v127 =>
  bnd (ixSV 6 x7 x13) fun v130 =>
  bnd (faV 1 v130) fun v131 =>
  bnd (ldE false 1 v131 H) fun v132 =>
  bnd (binV .int .sub v127 v132) fun v133 =>
  bnd (ixSV 6 x7 x13) fun v136 =>
  bnd (faV 0 v136) fun v137 =>
  bnd (ldE false 1 v137 H) fun v138 =>
  bnd (ixSV 6 x7 x14) fun v141 =>
  bnd (faV 0 v141) fun v142 =>
  bnd (ldE false 1 v142 H) fun v143 =>
  S x2 x7 x8 v133 v138 v143 (.bool true) x13 H
theorem sounderlaw10_PersistRuns_g104_e (S : Value → Value → Value → Value → Value → Value → Value → Value → Heap → Prop) (x : Nat → Value) (H : Heap) : wpE tab P sounderlaw10_PersistRuns_pi sounderlaw10_PersistRuns_c75 (nQ fun l H => S (l.getD 2 undef) (l.getD 7 undef) (l.getD 8 undef) (l.getD 9 undef) (l.getD 10 undef) (l.getD 11 undef) (l.getD 12 undef) (l.getD 13 undef) H) ((List.range 158).map x) H = sounderlaw10_PersistRuns_g104 S (x 2) (x 7) (x 8) (x 13) (x 14) H := by kernel_rfl
def sounderlaw10_PersistRuns_s102 (x2 x7 x8 x9 x10 x11 x12 x13 x14 : Value) (K1 : Value → Value → Value → Value → Value → Value → Value → Value →  Heap → Prop) (R : Value → Heap → Prop) (H : Heap) : Prop :=
  sounderlaw10_PersistRuns_g103 (fun x2 x7 x8 x9 x10 x11 x12 x13 x14 x122 H => brV x122
  (sounderlaw10_PersistRuns_g104 (fun x2 x7 x8 x9 x10 x11 x12 x13 H => sounderlaw10_PersistRuns_s94 x2 x7 x8 x9 x10 x11 x12 x13 K1 R H) x2 x7 x8 x13 x14 H)
  (sounderlaw10_PersistRuns_s94 x2 x7 x8 x9 x10 x11 x12 x13 K1 R H)) x2 x7 x8 x9 x10 x11 x12 x13 x14 H
noncomputable def sounderlaw10_PersistRuns_q105 (K1 : Value → Value → Value → Value → Value → Value → Value → Value →  Heap → Prop) (R : Value → Heap → Prop) : Exit → List Value → Heap → Prop := (thenE (fun l H => wpE tab P sounderlaw10_PersistRuns_pi sounderlaw10_PersistRuns_c76 (sounderlaw10_PersistRuns_q99 K1 R) l H) (sounderlaw10_PersistRuns_q99 K1 R))
noncomputable def sounderlaw10_PersistRuns_q106 (K1 : Value → Value → Value → Value → Value → Value → Value → Value →  Heap → Prop) (R : Value → Heap → Prop) : Exit → List Value → Heap → Prop := (blkE 1 (sounderlaw10_PersistRuns_q105 K1 R))
theorem sounderlaw10_PersistRuns_s102_i (K1 : Value → Value → Value → Value → Value → Value → Value → Value →  Heap → Prop) (R : Value → Heap → Prop) (l : List Value) (H : Heap) (hl : l.length = 158) (h : sounderlaw10_PersistRuns_s102 (l.getD 2 undef) (l.getD 7 undef) (l.getD 8 undef) (l.getD 9 undef) (l.getD 10 undef) (l.getD 11 undef) (l.getD 12 undef) (l.getD 13 undef) (l.getD 14 undef) K1 R H) : wpE tab P sounderlaw10_PersistRuns_pi sounderlaw10_PersistRuns_c72 (sounderlaw10_PersistRuns_q106 K1 R) l H := by
  refine seqI (c := sounderlaw10_PersistRuns_c72) rfl ?_
  refine regI hl (Eq.mpr (sounderlaw10_PersistRuns_g103_e _ (fun i => l.getD i undef) _) h) ?_
  clear h hl
  intro l H hl h
  refine thenN ?_
  refine condI (c := sounderlaw10_PersistRuns_c74) rfl h ?_ ?_
  · clear h; intro h
    refine regI hl (Eq.mpr (sounderlaw10_PersistRuns_g104_e _ (fun i => l.getD i undef) _) h) ?_
    clear h hl
    intro l H hl h
    refine blkN ?_
    refine thenN ?_
    exact sounderlaw10_PersistRuns_s94_i K1 R l H hl h
  · clear h; intro h
    refine skipI rfl ?_
    refine blkN ?_
    refine thenN ?_
    exact sounderlaw10_PersistRuns_s94_i K1 R l H hl h
def sounderlaw10_PersistRuns_g107 (S : Value → Value → Value → Value → Value → Value → Value → Value → Value → Value → Heap → Prop) (x2 x7 x8 x9 x10 x11 x12 x13 x14 : Value) (H : Heap) : Prop :=
  bnd (binV .int .add x13 (.int .i64 1)) fun v48 =>
  S x2 x7 x8 x9 x10 x11 x12 x13 x14 v48 H
theorem sounderlaw10_PersistRuns_g107_e (S : Value → Value → Value → Value → Value → Value → Value → Value → Value → Value → Heap → Prop) (x : Nat → Value) (H : Heap) : wpE tab P sounderlaw10_PersistRuns_pi sounderlaw10_PersistRuns_c36 (nQ fun l H => S (l.getD 2 undef) (l.getD 7 undef) (l.getD 8 undef) (l.getD 9 undef) (l.getD 10 undef) (l.getD 11 undef) (l.getD 12 undef) (l.getD 13 undef) (l.getD 14 undef) (l.getD 15 undef) H) ((List.range 158).map x) H = sounderlaw10_PersistRuns_g107 S (x 2) (x 7) (x 8) (x 9) (x 10) (x 11) (x 12) (x 13) (x 14) H := by kernel_rfl
def sounderlaw10_PersistRuns_g109 (S : Value → Value → Value → Value → Value → Value → Value → Value → Value → Value → Value → Heap → Prop) (x2 x7 x8 x9 x10 x11 x12 x13 x14 x15 : Value) (H : Heap) : Prop :=
  bnd (lenV x7) fun v51 =>
  bnd (binV .int .lss x15 v51) fun v52 =>
  S x2 x7 x8 x9 x10 x11 x12 x13 x14 x15 v52 H
theorem sounderlaw10_PersistRuns_g109_e (S : Value → Value → Value → Value → Value → Value → Value → Value → Value → Value → Value → Heap → Prop) (x : Nat → Value) (H : Heap) : wpE tab P sounderlaw10_PersistRuns_pi sounderlaw10_PersistRuns_c41 (nQ fun l H => S (l.getD 2 undef) (l.getD 7 undef) (l.getD 8 undef) (l.getD 9 undef) (l.getD 10 undef) (l.getD 11 undef) (l.getD 12 undef) (l.getD 13 undef) (l.getD 14 undef) (l.getD 15 undef) (l.getD 52 undef) H) ((List.range 158).map x) H = sounderlaw10_PersistRuns_g109 S (x 2) (x 7) (x 8) (x 9) (x 10) (x 11) (x 12) (x 13) (x 14) (x 15) H := by kernel_rfl
def sounderlaw10_PersistRuns_g111 (S : Value → Value → Value → Value → Value → Value → Value → Value → Value → Value → Heap → Prop) (x2 x7 x8 x9 x10 x11 x12 x13 x14 x15 : Value) (H : Heap) : Prop :=
  bnd (binV .int .add x15 (.int .i64 1)) fun v54 =>
  S x2 x7 x8 x9 x10 x11 x12 x13 x14 v54 H
theorem sounderlaw10_PersistRuns_g111_e (S : Value → Value → Value → Value → Value → Value → Value → Value → Value → Value → Heap → Prop) (x : Nat → Value) (H : Heap) : wpE tab P sounderlaw10_PersistRuns_pi sounderlaw10_PersistRuns_c71 (nQ fun l H => S (l.getD 2 undef) (l.getD 7 undef) (l.getD 8 undef) (l.getD 9 undef) (l.getD 10 undef) (l.getD 11 undef) (l.getD 12 undef) (l.getD 13 undef) (l.getD 14 undef) (l.getD 15 undef) H) ((List.range 158).map x) H = sounderlaw10_PersistRuns_g111 S (x 2) (x 7) (x 8) (x 9) (x 10) (x 11) (x 12) (x 13) (x 14) (x 15) H := by kernel_rfl
def sounderlaw10_PersistRuns_s110 (x2 x7 x8 x9 x10 x11 x12 x13 x14 x15 : Value) (_K1 : Value → Value → Value → Value → Value → Value → Value → Value →  Heap → Prop) (K2 : Value → Value → Value → Value → Value → Value → Value → Value → Value → Value →  Heap → Prop) (_R : Value → Heap → Prop) (H : Heap) : Prop :=
  sounderlaw10_PersistRuns_g111 (fun x2 x7 x8 x9 x10 x11 x12 x13 x14 x15 H => K2 x2 x7 x8 x9 x10 x11 x12 x13 x14 x15 H) x2 x7 x8 x9 x10 x11 x12 x13 x14 x15 H
noncomputable def sounderlaw10_PersistRuns_q112 (K1 : Value → Value → Value → Value → Value → Value → Value → Value →  Heap → Prop) (R : Value → Heap → Prop) : Exit → List Value → Heap → Prop := (thenE (fun l H => wpE tab P sounderlaw10_PersistRuns_pi sounderlaw10_PersistRuns_c72 (sounderlaw10_PersistRuns_q106 K1 R) l H) (sounderlaw10_PersistRuns_q106 K1 R))
noncomputable def sounderlaw10_PersistRuns_q113 (K1 : Value → Value → Value → Value → Value → Value → Value → Value →  Heap → Prop) (R : Value → Heap → Prop) : Exit → List Value → Heap → Prop := (blkE 2 (sounderlaw10_PersistRuns_q112 K1 R))
noncomputable def sounderlaw10_PersistRuns_q114 (K1 : Value → Value → Value → Value → Value → Value → Value → Value →  Heap → Prop) (K2 : Value → Value → Value → Value → Value → Value → Value → Value → Value → Value →  Heap → Prop) (R : Value → Heap → Prop) : Exit → List Value → Heap → Prop := (thenE (fun l H => K2 (l.getD 2 undef) (l.getD 7 undef) (l.getD 8 undef) (l.getD 9 undef) (l.getD 10 undef) (l.getD 11 undef) (l.getD 12 undef) (l.getD 13 undef) (l.getD 14 undef) (l.getD 15 undef) H) (sounderlaw10_PersistRuns_q113 K1 R))
theorem sounderlaw10_PersistRuns_s110_i (K1 : Value → Value → Value → Value → Value → Value → Value → Value →  Heap → Prop) (K2 : Value → Value → Value → Value → Value → Value → Value → Value → Value → Value →  Heap → Prop) (R : Value → Heap → Prop) (l : List Value) (H : Heap) (hl : l.length = 158) (h : sounderlaw10_PersistRuns_s110 (l.getD 2 undef) (l.getD 7 undef) (l.getD 8 undef) (l.getD 9 undef) (l.getD 10 undef) (l.getD 11 undef) (l.getD 12 undef) (l.getD 13 undef) (l.getD 14 undef) (l.getD 15 undef) K1 K2 R H) : wpE tab P sounderlaw10_PersistRuns_pi sounderlaw10_PersistRuns_c71 (sounderlaw10_PersistRuns_q114 K1 K2 R) l H := by
  refine regI hl (Eq.mpr (sounderlaw10_PersistRuns_g111_e _ (fun i => l.getD i undef) _) h) ?_
  clear h hl
  intro l H hl h
  refine thenN ?_
  exact h
def sounderlaw10_PersistRuns_g115 (S : Value → Value → Value → Value → Value → Value → Value → Value → Value → Value → Value → Heap → Prop) (x2 x7 x8 x9 x10 x11 x12 x13 x14 x15 : Value) (H : Heap) : Prop :=
  S x2 x7 x8 x9 x10 x11 x12 x13 x14 x15 (.bool true) H
theorem sounderlaw10_PersistRuns_g115_e (S : Value → Value → Value → Value → Value → Value → Value → Value → Value → Value → Value → Heap → Prop) (x : Nat → Value) (H : Heap) : wpE tab P sounderlaw10_PersistRuns_pi sounderlaw10_PersistRuns_c47 (nQ fun l H => S (l.getD 2 undef) (l.getD 7 undef) (l.getD 8 undef) (l.getD 9 undef) (l.getD 10 undef) (l.getD 11 undef) (l.getD 12 undef) (l.getD 13 undef) (l.getD 14 undef) (l.getD 15 undef) (l.getD 16 undef) H) ((List.range 158).map x) H = sounderlaw10_PersistRuns_g115 S (x 2) (x 7) (x 8) (x 9) (x 10) (x 11) (x 12) (x 13) (x 14) (x 15) H := by kernel_rfl
def sounderlaw10_PersistRuns_g116 (S : Value → Value → Value → Value → Value → Value → Value → Value → Value → Value → Value → Value → Heap → Prop) (x2 x7 x8 x9 x10 x11 x12 x13 x14 x15 x16 : Value) (H : Heap) : Prop :=
  bnd (ixSV 6 x7 x13) fun v57 =>
  bnd (faV 0 v57) fun v58 =>
  bnd (ldE false 1 v58 H) fun v59 =>
  bnd (binV .int .add v59 (.int .i64 1)) fun v60 =>
  S x2 x7 x8 x9 x10 x11 x12 x13 x14 x15 x16 v60 H
theorem sounderlaw10_PersistRuns_g116_e (S : Value → Value → Value → Value → Value → Value → Value → Value → Value → Value → Value → Value → Heap → Prop) (x : Nat → Value) (H : Heap) : wpE tab P sounderlaw10_PersistRuns_pi sounderlaw10_PersistRuns_c50 (nQ fun l H => S (l.getD 2 undef) (l.getD 7 undef) (l.getD 8 undef) (l.getD 9 undef) (l.getD 10 undef) (l.getD 11 undef) (l.getD 12 undef) (l.getD 13 undef) (l.getD 14 undef) (l.getD 15 undef) (l.getD 16 undef) (l.getD 17 undef) H) ((List.range 158).map x) H = sounderlaw10_PersistRuns_g116 S (x 2) (x 7) (x 8) (x 9) (x 10) (x 11) (x 12) (x 13) (x 14) (x 15) (x 16) H := by kernel_rfl
def sounderlaw10_PersistRuns_g118 (S : Value → Value → Value → Value → Value → Value → Value → Value → Value → Value → Value → Value → Value → Heap → Prop) (x2 x7 x8 x9 x10 x11 x12 x13 x14 x15 x16 x17 : Value) (H : Heap) : Prop :=
  bnd (ixSV 6 x7 x15) fun v64 =>
  bnd (faV 0 v64) fun v65 =>
  bnd (ldE false 1 v65 H) fun v66 =>
  bnd (binV .int .lss x17 v66) fun v67 =>
  S x2 x7 x8 x9 x10 x11 x12 x13 x14 x15 x16 x17 v67 H
theorem sounderlaw10_PersistRuns_g118_e (S : Value → Value → Value → Value → Value → Value → Value → Value → Value → Value → Value → Value → Value → Heap → Prop) (x : Nat → Value) (H : Heap) : wpE tab P sounderlaw10_PersistRuns_pi sounderlaw10_PersistRuns_c55 (nQ fun l H => S (l.getD 2 undef) (l.getD 7 undef) (l.getD 8 undef) (l.getD 9 undef) (l.getD 10 undef) (l.getD 11 undef) (l.getD 12 undef) (l.getD 13 undef) (l.getD 14 undef) (l.getD 15 undef) (l.getD 16 undef) (l.getD 17 undef) (l.getD 67 undef) H) ((List.range 158).map x) H = sounderlaw10_PersistRuns_g118 S (x 2) (x 7) (x 8) (x 9) (x 10) (x 11) (x 12) (x 13) (x 14) (x 15) (x 16) (x 17) H := by kernel_rfl
def sounderlaw10_PersistRuns_g119 (S : Value → Value → Value → Value → Value → Value → Value → Value → Value → Value → Value → Value → Heap → Prop) (x2 x7 x8 x9 x10 x11 x12 x13 x14 x15 x16 x17 : Value) (H : Heap) : Prop :=
  brV x16
  (EvF P N.span_Set_Has #[x8, x17] H fun v74 H1 =>
  bnd (unV .not v74) fun v75 =>
  S x2 x7 x8 x9 x10 x11 x12 x13 x14 x15 v75 x17 H1)
  (S x2 x7 x8 x9 x10 x11 x12 x13 x14 x15 (.bool false) x17 H)
theorem sounderlaw10_PersistRuns_g119_e (S : Value → Value → Value → Value → Value → Value → Value → Value → Value → Value → Value → Value → Heap → Prop) (x : Nat → Value) (H : Heap) : wpE tab P sounderlaw10_PersistRuns_pi sounderlaw10_PersistRuns_c60 (nQ fun l H => S (l.getD 2 undef) (l.getD 7 undef) (l.getD 8 undef) (l.getD 9 undef) (l.getD 10 undef) (l.getD 11 undef) (l.getD 12 undef) (l.getD 13 undef) (l.getD 14 undef) (l.getD 15 undef) (l.getD 16 undef) (l.getD 17 undef) H) ((List.range 158).map x) H = sounderlaw10_PersistRuns_g119 S (x 2) (x 7) (x 8) (x 9) (x 10) (x 11) (x 12) (x 13) (x 14) (x 15) (x 16) (x 17) H := by kernel_rfl
def sounderlaw10_PersistRuns_g120 (S : Value → Value → Value → Value → Value → Value → Value → Value → Value → Value → Value → Value → Heap → Prop) (x2 x7 x8 x9 x10 x11 x12 x13 x14 x15 x16 x17 : Value) (H : Heap) : Prop :=
  bnd (binV .int .add x17 (.int .i64 1)) fun v69 =>
  S x2 x7 x8 x9 x10 x11 x12 x13 x14 x15 x16 v69 H
theorem sounderlaw10_PersistRuns_g120_e (S : Value → Value → Value → Value → Value → Value → Value → Value → Value → Value → Value → Value → Heap → Prop) (x : Nat → Value) (H : Heap) : wpE tab P sounderlaw10_PersistRuns_pi sounderlaw10_PersistRuns_c61 (nQ fun l H => S (l.getD 2 undef) (l.getD 7 undef) (l.getD 8 undef) (l.getD 9 undef) (l.getD 10 undef) (l.getD 11 undef) (l.getD 12 undef) (l.getD 13 undef) (l.getD 14 undef) (l.getD 15 undef) (l.getD 16 undef) (l.getD 17 undef) H) ((List.range 158).map x) H = sounderlaw10_PersistRuns_g120 S (x 2) (x 7) (x 8) (x 9) (x 10) (x 11) (x 12) (x 13) (x 14) (x 15) (x 16) (x 17) H := by kernel_rfl
def sounderlaw10_PersistRuns_g121 (S : Value → Value → Value → Value → Value → Value → Value → Value → Value → Value → Value → Heap → Prop) (x2 x7 x8 x9 x10 x11 x12 x13 x14 x15 x16 : Value) (H : Heap) : Prop :=
  bnd (unV .not x16) fun v78 =>
  S x2 x7 x8 x9 x10 x11 x12 x13 x14 x15 v78 H
theorem sounderlaw10_PersistRuns_g121_e (S : Value → Value → Value → Value → Value → Value → Value → Value → Value → Value → Value → Heap → Prop) (x : Nat → Value) (H : Heap) : wpE tab P sounderlaw10_PersistRuns_pi sounderlaw10_PersistRuns_c64 (nQ fun l H => S (l.getD 2 undef) (l.getD 7 undef) (l.getD 8 undef) (l.getD 9 undef) (l.getD 10 undef) (l.getD 11 undef) (l.getD 12 undef) (l.getD 13 undef) (l.getD 14 undef) (l.getD 15 undef) (l.getD 78 undef) H) ((List.range 158).map x) H = sounderlaw10_PersistRuns_g121 S (x 2) (x 7) (x 8) (x 9) (x 10) (x 11) (x 12) (x 13) (x 14) (x 15) (x 16) H := by kernel_rfl
def sounderlaw10_PersistRuns_g122 (S : Value → Value → Value → Value → Value → Value → Value → Value → Value → Value → Value → Heap → Prop) (x2 x7 x8 x9 x10 x11 x12 x13 x14 x15 : Value) (H : Heap) : Prop :=
  bnd (ixSV 6 x7 x15) fun v81 =>
  bnd (faV 3 v81) fun v82 =>
  bnd (ldE false 1 v82 H) fun v83 =>
  brV v83
  (bnd (binV .int .lss x14 (.int .i64 0)) fun v86 =>
  brG v86
  (S x2 x7 x8 x9 x10 x11 x12 x13 x14 x15 (.bool true) H)
  (bnd (ixSV 6 x7 x15) fun v90 =>
  bnd (faV 1 v90) fun v91 =>
  bnd (ldE false 1 v91 H) fun v92 =>
  bnd (ixSV 6 x7 x14) fun v95 =>
  bnd (faV 1 v95) fun v96 =>
  bnd (ldE false 1 v96 H) fun v97 =>
  bnd (binV .int .gtr v92 v97) fun v98 =>
  S x2 x7 x8 x9 x10 x11 x12 x13 x14 x15 v98 H)
  (brG v86
  (S x2 x7 x8 x9 x10 x11 x12 x13 x14 x15 (.bool true) H)
  (bnd (ixSV 6 undef x15) fun v90_2 =>
  bnd (faV 1 v90_2) fun v91_2 =>
  bnd (ldE false 1 v91_2 H) fun v92_2 =>
  bnd (ixSV 6 x7 x14) fun v95_2 =>
  bnd (faV 1 v95_2) fun v96_2 =>
  bnd (ldE false 1 v96_2 H) fun v97_2 =>
  bnd (binV .int .gtr v92_2 v97_2) fun v98_2 =>
  S x2 x7 x8 x9 x10 x11 x12 x13 x14 x15 v98_2 H)
  (brG v86
  (S x2 x7 x8 x9 x10 x11 x12 x13 x14 x15 (.bool true) H)
  (bnd (ixSV 6 undef undef) fun v90_3 =>
  bnd (faV 1 v90_3) fun v91_3 =>
  bnd (ldE false 1 v91_3 H) fun v92_3 =>
  bnd (ixSV 6 x7 x14) fun v95_3 =>
  bnd (faV 1 v95_3) fun v96_3 =>
  bnd (ldE false 1 v96_3 H) fun v97_3 =>
  bnd (binV .int .gtr v92_3 v97_3) fun v98_3 =>
  S x2 x7 x8 x9 x10 x11 x12 x13 x14 x15 v98_3 H)
  (brG v86
  (S x2 x7 x8 x9 x10 x11 x12 x13 x14 x15 (.bool true) H)
  (bnd (faV 1 undef) fun v91_4 =>
  bnd (ldE false 1 v91_4 H) fun v92_4 =>
  bnd (ixSV 6 x7 x14) fun v95_4 =>
  bnd (faV 1 v95_4) fun v96_4 =>
  bnd (ldE false 1 v96_4 H) fun v97_4 =>
  bnd (binV .int .gtr v92_4 v97_4) fun v98_4 =>
  S x2 x7 x8 x9 x10 x11 x12 x13 x14 x15 v98_4 H)
  (brG v86
  (S x2 x7 x8 x9 x10 x11 x12 x13 x14 x15 (.bool true) H)
  (bnd (ldE false 1 undef H) fun v92_5 =>
  bnd (ixSV 6 x7 x14) fun v95_5 =>
  bnd (faV 1 v95_5) fun v96_5 =>
  bnd (ldE false 1 v96_5 H) fun v97_5 =>
  bnd (binV .int .gtr v92_5 v97_5) fun v98_5 =>
  S x2 x7 x8 x9 x10 x11 x12 x13 x14 x15 v98_5 H)
  (brG v86
  (S x2 x7 x8 x9 x10 x11 x12 x13 x14 x15 (.bool true) H)
  (bnd (ixSV 6 x7 x14) fun v95_6 =>
  bnd (faV 1 v95_6) fun v96_6 =>
  bnd (ldE false 1 v96_6 H) fun v97_6 =>
  bnd (binV .int .gtr undef v97_6) fun v98_6 =>
  S x2 x7 x8 x9 x10 x11 x12 x13 x14 x15 v98_6 H)
  (brG v86
  (S x2 x7 x8 x9 x10 x11 x12 x13 x14 x15 (.bool true) H)
  (bnd (ixSV 6 undef x14) fun v95_7 =>
  bnd (faV 1 v95_7) fun v96_7 =>
  bnd (ldE false 1 v96_7 H) fun v97_7 =>
  bnd (binV .int .gtr undef v97_7) fun v98_7 =>
  S x2 x7 x8 x9 x10 x11 x12 x13 x14 x15 v98_7 H)
  (brG v86
  (S x2 x7 x8 x9 x10 x11 x12 x13 x14 x15 (.bool true) H)
  (bnd (ixSV 6 undef undef) fun v95_8 =>
  bnd (faV 1 v95_8) fun v96_8 =>
  bnd (ldE false 1 v96_8 H) fun v97_8 =>
  bnd (binV .int .gtr undef v97_8) fun v98_8 =>
  S x2 x7 x8 x9 x10 x11 x12 x13 x14 x15 v98_8 H)
  (brG v86
  (S x2 x7 x8 x9 x10 x11 x12 x13 x14 x15 (.bool true) H)
  (bnd (faV 1 undef) fun v96_9 =>
  bnd (ldE false 1 v96_9 H) fun v97_9 =>
  bnd (binV .int .gtr undef v97_9) fun v98_9 =>
  S x2 x7 x8 x9 x10 x11 x12 x13 x14 x15 v98_9 H)
  (brG v86
  (S x2 x7 x8 x9 x10 x11 x12 x13 x14 x15 (.bool true) H)
  (bnd (ldE false 1 undef H) fun v97_10 =>
  bnd (binV .int .gtr undef v97_10) fun v98_10 =>
  S x2 x7 x8 x9 x10 x11 x12 x13 x14 x15 v98_10 H)
  (brG v86
  (S x2 x7 x8 x9 x10 x11 x12 x13 x14 x15 (.bool true) H)
  (bnd (binV .int .gtr undef undef) fun v98_11 =>
  S x2 x7 x8 x9 x10 x11 x12 x13 x14 x15 v98_11 H)
  (pickE v86 (.bool true) undef H fun v99 _ =>
  S x2 x7 x8 x9 x10 x11 x12 x13 x14 x15 v99 H))))))))))))
  (S x2 x7 x8 x9 x10 x11 x12 x13 x14 x15 (.bool false) H)
theorem sounderlaw10_PersistRuns_g122_e (S : Value → Value → Value → Value → Value → Value → Value → Value → Value → Value → Value → Heap → Prop) (x : Nat → Value) (H : Heap) : wpE tab P sounderlaw10_PersistRuns_pi sounderlaw10_PersistRuns_c68 (nQ fun l H => S (l.getD 2 undef) (l.getD 7 undef) (l.getD 8 undef) (l.getD 9 undef) (l.getD 10 undef) (l.getD 11 undef) (l.getD 12 undef) (l.getD 13 undef) (l.getD 14 undef) (l.getD 15 undef) (l.getD 100 undef) H) ((List.range 158).map x) H = sounderlaw10_PersistRuns_g122 S (x 2) (x 7) (x 8) (x 9) (x 10) (x 11) (x 12) (x 13) (x 14) (x 15) H := by kernel_rfl
def sounderlaw10_PersistRuns_g123 (S : Value → Value → Value → Value → Value → Value → Value → Value → Value → Value → Heap → Prop) (x2 x7 x8 x9 x10 x11 x12 x13 x15 : Value) (H : Heap) : Prop :=
  S x2 x7 x8 x9 x10 x11 x12 x13 x15 x15 H
theorem sounderlaw10_PersistRuns_g123_e (S : Value → Value → Value → Value → Value → Value → Value → Value → Value → Value → Heap → Prop) (x : Nat → Value) (H : Heap) : wpE tab P sounderlaw10_PersistRuns_pi sounderlaw10_PersistRuns_c70 (nQ fun l H => S (l.getD 2 undef) (l.getD 7 undef) (l.getD 8 undef) (l.getD 9 undef) (l.getD 10 undef) (l.getD 11 undef) (l.getD 12 undef) (l.getD 13 undef) (l.getD 14 undef) (l.getD 15 undef) H) ((List.range 158).map x) H = sounderlaw10_PersistRuns_g123 S (x 2) (x 7) (x 8) (x 9) (x 10) (x 11) (x 12) (x 13) (x 15) H := by kernel_rfl
def sounderlaw10_PersistRuns_s117 (x2 x7 x8 x9 x10 x11 x12 x13 x14 x15 x16 x17 : Value) (K1 : Value → Value → Value → Value → Value → Value → Value → Value →  Heap → Prop) (K2 : Value → Value → Value → Value → Value → Value → Value → Value → Value → Value →  Heap → Prop) (K3 : Value → Value → Value → Value → Value → Value → Value → Value → Value → Value → Value → Value →  Heap → Prop) (R : Value → Heap → Prop) (H : Heap) : Prop :=
  sounderlaw10_PersistRuns_g118 (fun x2 x7 x8 x9 x10 x11 x12 x13 x14 x15 x16 x17 x67 H => brV x67
  (sounderlaw10_PersistRuns_g119 (fun x2 x7 x8 x9 x10 x11 x12 x13 x14 x15 x16 x17 H => sounderlaw10_PersistRuns_g120 (fun x2 x7 x8 x9 x10 x11 x12 x13 x14 x15 x16 x17 H => K3 x2 x7 x8 x9 x10 x11 x12 x13 x14 x15 x16 x17 H) x2 x7 x8 x9 x10 x11 x12 x13 x14 x15 x16 x17 H) x2 x7 x8 x9 x10 x11 x12 x13 x14 x15 x16 x17 H)
  (sounderlaw10_PersistRuns_g121 (fun x2 x7 x8 x9 x10 x11 x12 x13 x14 x15 x78 H => brV x78
  (sounderlaw10_PersistRuns_s102 x2 x7 x8 x9 x10 x11 x12 x13 x14 K1 R H)
  (sounderlaw10_PersistRuns_g122 (fun x2 x7 x8 x9 x10 x11 x12 x13 x14 x15 x100 H => brV x100
  (sounderlaw10_PersistRuns_g123 (fun x2 x7 x8 x9 x10 x11 x12 x13 x14 x15 H => sounderlaw10_PersistRuns_s110 x2 x7 x8 x9 x10 x11 x12 x13 x14 x15 K1 K2 R H) x2 x7 x8 x9 x10 x11 x12 x13 x15 H)
  (sounderlaw10_PersistRuns_s110 x2 x7 x8 x9 x10 x11 x12 x13 x14 x15 K1 K2 R H)) x2 x7 x8 x9 x10 x11 x12 x13 x14 x15 H)) x2 x7 x8 x9 x10 x11 x12 x13 x14 x15 x16 H)) x2 x7 x8 x9 x10 x11 x12 x13 x14 x15 x16 x17 H
noncomputable def sounderlaw10_PersistRuns_q124 (K1 : Value → Value → Value → Value → Value → Value → Value → Value →  Heap → Prop) (K2 : Value → Value → Value → Value → Value → Value → Value → Value → Value → Value →  Heap → Prop) (R : Value → Heap → Prop) : Exit → List Value → Heap → Prop := (thenE (fun l H => wpE tab P sounderlaw10_PersistRuns_pi sounderlaw10_PersistRuns_c71 (sounderlaw10_PersistRuns_q114 K1 K2 R) l H) (sounderlaw10_PersistRuns_q114 K1 K2 R))
noncomputable def sounderlaw10_PersistRuns_q125 (K1 : Value → Value → Value → Value → Value → Value → Value → Value →  Heap → Prop) (K2 : Value → Value → Value → Value → Value → Value → Value → Value → Value → Value →  Heap → Prop) (R : Value → Heap → Prop) : Exit → List Value → Heap → Prop := (blkE 3 (sounderlaw10_PersistRuns_q124 K1 K2 R))
noncomputable def sounderlaw10_PersistRuns_q126 (K1 : Value → Value → Value → Value → Value → Value → Value → Value →  Heap → Prop) (K2 : Value → Value → Value → Value → Value → Value → Value → Value → Value → Value →  Heap → Prop) (R : Value → Heap → Prop) : Exit → List Value → Heap → Prop := (thenE (fun l H => wpE tab P sounderlaw10_PersistRuns_pi sounderlaw10_PersistRuns_c62 (sounderlaw10_PersistRuns_q125 K1 K2 R) l H) (sounderlaw10_PersistRuns_q125 K1 K2 R))
noncomputable def sounderlaw10_PersistRuns_q127 (K1 : Value → Value → Value → Value → Value → Value → Value → Value →  Heap → Prop) (K2 : Value → Value → Value → Value → Value → Value → Value → Value → Value → Value →  Heap → Prop) (R : Value → Heap → Prop) : Exit → List Value → Heap → Prop := (blkE 4 (sounderlaw10_PersistRuns_q126 K1 K2 R))
noncomputable def sounderlaw10_PersistRuns_q128 (K1 : Value → Value → Value → Value → Value → Value → Value → Value →  Heap → Prop) (K2 : Value → Value → Value → Value → Value → Value → Value → Value → Value → Value →  Heap → Prop) (K3 : Value → Value → Value → Value → Value → Value → Value → Value → Value → Value → Value → Value →  Heap → Prop) (R : Value → Heap → Prop) : Exit → List Value → Heap → Prop := (thenE (fun l H => K3 (l.getD 2 undef) (l.getD 7 undef) (l.getD 8 undef) (l.getD 9 undef) (l.getD 10 undef) (l.getD 11 undef) (l.getD 12 undef) (l.getD 13 undef) (l.getD 14 undef) (l.getD 15 undef) (l.getD 16 undef) (l.getD 17 undef) H) (sounderlaw10_PersistRuns_q127 K1 K2 R))
theorem sounderlaw10_PersistRuns_s117_i (K1 : Value → Value → Value → Value → Value → Value → Value → Value →  Heap → Prop) (K2 : Value → Value → Value → Value → Value → Value → Value → Value → Value → Value →  Heap → Prop) (K3 : Value → Value → Value → Value → Value → Value → Value → Value → Value → Value → Value → Value →  Heap → Prop) (R : Value → Heap → Prop) (l : List Value) (H : Heap) (hl : l.length = 158) (h : sounderlaw10_PersistRuns_s117 (l.getD 2 undef) (l.getD 7 undef) (l.getD 8 undef) (l.getD 9 undef) (l.getD 10 undef) (l.getD 11 undef) (l.getD 12 undef) (l.getD 13 undef) (l.getD 14 undef) (l.getD 15 undef) (l.getD 16 undef) (l.getD 17 undef) K1 K2 K3 R H) : wpE tab P sounderlaw10_PersistRuns_pi sounderlaw10_PersistRuns_c53 (sounderlaw10_PersistRuns_q128 K1 K2 K3 R) l H := by
  refine seqI (c := sounderlaw10_PersistRuns_c53) rfl ?_
  refine seqI (c := sounderlaw10_PersistRuns_c54) rfl ?_
  refine regI hl (Eq.mpr (sounderlaw10_PersistRuns_g118_e _ (fun i => l.getD i undef) _) h) ?_
  clear h hl
  intro l H hl h
  refine thenN ?_
  refine condI (c := sounderlaw10_PersistRuns_c56) rfl h ?_ ?_
  · clear h; intro h
    refine skipI rfl ?_
    refine thenN ?_
    refine seqI (c := sounderlaw10_PersistRuns_c58) rfl ?_
    refine blockI (c := sounderlaw10_PersistRuns_c59) rfl ?_
    refine regI hl (Eq.mpr (sounderlaw10_PersistRuns_g119_e _ (fun i => l.getD i undef) _) h) ?_
    clear h hl
    intro l H hl h
    refine blkN ?_
    refine thenN ?_
    refine regI hl (Eq.mpr (sounderlaw10_PersistRuns_g120_e _ (fun i => l.getD i undef) _) h) ?_
    clear h hl
    intro l H hl h
    refine thenN ?_
    exact h
  · clear h; intro h
    refine exitI (c := sounderlaw10_PersistRuns_c57) rfl ?_
    refine thenX ?_
    refine thenX ?_
    refine blkX ?_
    refine thenN ?_
    refine seqI (c := sounderlaw10_PersistRuns_c62) rfl ?_
    refine seqI (c := sounderlaw10_PersistRuns_c63) rfl ?_
    refine regI hl (Eq.mpr (sounderlaw10_PersistRuns_g121_e _ (fun i => l.getD i undef) _) h) ?_
    clear h hl
    intro l H hl h
    refine thenN ?_
    refine condI (c := sounderlaw10_PersistRuns_c65) rfl h ?_ ?_
    · clear h; intro h
      refine exitI (c := sounderlaw10_PersistRuns_c66) rfl ?_
      refine thenX ?_
      refine blkO rfl ?_
      refine thenX ?_
      refine thenX ?_
      refine blkX ?_
      refine thenN ?_
      exact sounderlaw10_PersistRuns_s102_i K1 R l H hl h
    · clear h; intro h
      refine skipI rfl ?_
      refine thenN ?_
      refine seqI (c := sounderlaw10_PersistRuns_c67) rfl ?_
      refine regI hl (Eq.mpr (sounderlaw10_PersistRuns_g122_e _ (fun i => l.getD i undef) _) h) ?_
      clear h hl
      intro l H hl h
      refine thenN ?_
      refine condI (c := sounderlaw10_PersistRuns_c69) rfl h ?_ ?_
      · clear h; intro h
        refine regI hl (Eq.mpr (sounderlaw10_PersistRuns_g123_e _ (fun i => l.getD i undef) _) h) ?_
        clear h hl
        intro l H hl h
        refine blkN ?_
        refine thenN ?_
        exact sounderlaw10_PersistRuns_s110_i K1 K2 R l H hl h
      · clear h; intro h
        refine skipI rfl ?_
        refine blkN ?_
        refine thenN ?_
        exact sounderlaw10_PersistRuns_s110_i K1 K2 R l H hl h
def sounderlaw10_PersistRuns_l129 (x2 x7 x8 x9 x10 x11 x12 x13 x14 x15 x16 x17 : Value) (K1 : Value → Value → Value → Value → Value → Value → Value → Value →  Heap → Prop) (K2 : Value → Value → Value → Value → Value → Value → Value → Value → Value → Value →  Heap → Prop) (R : Value → Heap → Prop) (H : Heap) : Prop :=
  ∃ (I : Value → Value → Heap → Prop) (μ : Value → Value → Heap → Nat), I x16 x17 H ∧ ∀ (y16 : Value) (y17 : Value) (H : Heap), I y16 y17 H → sounderlaw10_PersistRuns_s117 x2 x7 x8 x9 x10 x11 x12 x13 x14 x15 y16 y17 K1 K2 (fun z2 z7 z8 z9 z10 z11 z12 z13 z14 z15 z16 z17 H' => z2 = x2 ∧ z7 = x7 ∧ z8 = x8 ∧ z9 = x9 ∧ z10 = x10 ∧ z11 = x11 ∧ z12 = x12 ∧ z13 = x13 ∧ z14 = x14 ∧ z15 = x15 ∧ (I z16 z17 H' ∧ μ z16 z17 H' < μ y16 y17 H)) R H
def sounderlaw10_PersistRuns_s108 (x2 x7 x8 x9 x10 x11 x12 x13 x14 x15 : Value) (K1 : Value → Value → Value → Value → Value → Value → Value → Value →  Heap → Prop) (K2 : Value → Value → Value → Value → Value → Value → Value → Value → Value → Value →  Heap → Prop) (R : Value → Heap → Prop) (H : Heap) : Prop :=
  sounderlaw10_PersistRuns_g109 (fun x2 x7 x8 x9 x10 x11 x12 x13 x14 x15 x52 H => brV x52
  (sounderlaw10_PersistRuns_g115 (fun x2 x7 x8 x9 x10 x11 x12 x13 x14 x15 x16 H => sounderlaw10_PersistRuns_g116 (fun x2 x7 x8 x9 x10 x11 x12 x13 x14 x15 x16 x17 H => sounderlaw10_PersistRuns_l129 x2 x7 x8 x9 x10 x11 x12 x13 x14 x15 x16 x17 K1 K2 R H) x2 x7 x8 x9 x10 x11 x12 x13 x14 x15 x16 H) x2 x7 x8 x9 x10 x11 x12 x13 x14 x15 H)
  (sounderlaw10_PersistRuns_s102 x2 x7 x8 x9 x10 x11 x12 x13 x14 K1 R H)) x2 x7 x8 x9 x10 x11 x12 x13 x14 x15 H
theorem sounderlaw10_PersistRuns_s108_i (K1 : Value → Value → Value → Value → Value → Value → Value → Value →  Heap → Prop) (K2 : Value → Value → Value → Value → Value → Value → Value → Value → Value → Value →  Heap → Prop) (R : Value → Heap → Prop) (l : List Value) (H : Heap) (hl : l.length = 158) (h : sounderlaw10_PersistRuns_s108 (l.getD 2 undef) (l.getD 7 undef) (l.getD 8 undef) (l.getD 9 undef) (l.getD 10 undef) (l.getD 11 undef) (l.getD 12 undef) (l.getD 13 undef) (l.getD 14 undef) (l.getD 15 undef) K1 K2 R H) : wpE tab P sounderlaw10_PersistRuns_pi sounderlaw10_PersistRuns_c39 (sounderlaw10_PersistRuns_q114 K1 K2 R) l H := by
  refine seqI (c := sounderlaw10_PersistRuns_c39) rfl ?_
  refine seqI (c := sounderlaw10_PersistRuns_c40) rfl ?_
  refine regI hl (Eq.mpr (sounderlaw10_PersistRuns_g109_e _ (fun i => l.getD i undef) _) h) ?_
  clear h hl
  intro l H hl h
  refine thenN ?_
  refine condI (c := sounderlaw10_PersistRuns_c42) rfl h ?_ ?_
  · clear h; intro h
    refine skipI rfl ?_
    refine thenN ?_
    refine seqI (c := sounderlaw10_PersistRuns_c44) rfl ?_
    refine blockI (c := sounderlaw10_PersistRuns_c45) rfl ?_
    refine seqI (c := sounderlaw10_PersistRuns_c46) rfl ?_
    refine regI hl (Eq.mpr (sounderlaw10_PersistRuns_g115_e _ (fun i => l.getD i undef) _) h) ?_
    clear h hl
    intro l H hl h
    refine thenN ?_
    refine seqI (c := sounderlaw10_PersistRuns_c48) rfl ?_
    refine seqI (c := sounderlaw10_PersistRuns_c49) rfl ?_
    refine regI hl (Eq.mpr (sounderlaw10_PersistRuns_g116_e _ (fun i => l.getD i undef) _) h) ?_
    clear h hl
    intro l H hl h
    refine thenN ?_
    refine blockI (c := sounderlaw10_PersistRuns_c51) rfl ?_
    obtain ⟨I, μ, h0, hr⟩ := h
    refine loopI (c := sounderlaw10_PersistRuns_c52) rfl (fun l' H' => l'.getD 2 undef = l.getD 2 undef ∧ l'.getD 7 undef = l.getD 7 undef ∧ l'.getD 8 undef = l.getD 8 undef ∧ l'.getD 9 undef = l.getD 9 undef ∧ l'.getD 10 undef = l.getD 10 undef ∧ l'.getD 11 undef = l.getD 11 undef ∧ l'.getD 12 undef = l.getD 12 undef ∧ l'.getD 13 undef = l.getD 13 undef ∧ l'.getD 14 undef = l.getD 14 undef ∧ l'.getD 15 undef = l.getD 15 undef ∧ I (l'.getD 16 undef) (l'.getD 17 undef) H') (fun l' H' => μ (l'.getD 16 undef) (l'.getD 17 undef) H') hl ⟨rfl, rfl, rfl, rfl, rfl, rfl, rfl, rfl, rfl, rfl, h0⟩ ?_
    rintro l1 H1 hl1 ⟨e2, e7, e8, e9, e10, e11, e12, e13, e14, e15, hI⟩
    have hb := hr (l1.getD 16 undef) (l1.getD 17 undef) H1 hI
    rw [← e2, ← e7, ← e8, ← e9, ← e10, ← e11, ← e12, ← e13, ← e14, ← e15] at hb
    refine wpE_mono _ l1 H1 hl1 ?_ (sounderlaw10_PersistRuns_s117_i K1 K2 _ R l1 H1 hl1 hb)
    intro e l2 H2 hl2 hq
    cases e with
    | normal => exact fun _ => (by obtain ⟨d2, d7, d8, d9, d10, d11, d12, d13, d14, d15, g1, g2⟩ := hq; exact ⟨⟨d2.trans e2, d7.trans e7, d8.trans e8, d9.trans e9, d10.trans e10, d11.trans e11, d12.trans e12, d13.trans e13, d14.trans e14, d15.trans e15, g1⟩, g2⟩)
    | _ => exact hq
  · clear h; intro h
    refine exitI (c := sounderlaw10_PersistRuns_c43) rfl ?_
    refine thenX ?_
    refine thenX ?_
    refine blkX ?_
    refine thenN ?_
    exact sounderlaw10_PersistRuns_s102_i K1 R l H hl h
def sounderlaw10_PersistRuns_l130 (x2 x7 x8 x9 x10 x11 x12 x13 x14 x15 : Value) (K1 : Value → Value → Value → Value → Value → Value → Value → Value →  Heap → Prop) (R : Value → Heap → Prop) (H : Heap) : Prop :=
  ∃ (I : Value → Value → Heap → Prop) (μ : Value → Value → Heap → Nat), I x14 x15 H ∧ ∀ (y14 : Value) (y15 : Value) (H : Heap), I y14 y15 H → sounderlaw10_PersistRuns_s108 x2 x7 x8 x9 x10 x11 x12 x13 y14 y15 K1 (fun z2 z7 z8 z9 z10 z11 z12 z13 z14 z15 H' => z2 = x2 ∧ z7 = x7 ∧ z8 = x8 ∧ z9 = x9 ∧ z10 = x10 ∧ z11 = x11 ∧ z12 = x12 ∧ z13 = x13 ∧ (I z14 z15 H' ∧ μ z14 z15 H' < μ y14 y15 H)) R H
def sounderlaw10_PersistRuns_g131 (S : Value → Value → Value → Value → Value → Value → Value → Heap → Prop) (x2 x7 x8 x9 x10 x11 x12 : Value) (H : Heap) : Prop :=
  bnd (unV .not x12) fun v145 =>
  S x2 x7 x8 x9 x10 x11 v145 H
theorem sounderlaw10_PersistRuns_g131_e (S : Value → Value → Value → Value → Value → Value → Value → Heap → Prop) (x : Nat → Value) (H : Heap) : wpE tab P sounderlaw10_PersistRuns_pi sounderlaw10_PersistRuns_c79 (nQ fun l H => S (l.getD 2 undef) (l.getD 7 undef) (l.getD 8 undef) (l.getD 9 undef) (l.getD 10 undef) (l.getD 11 undef) (l.getD 145 undef) H) ((List.range 158).map x) H = sounderlaw10_PersistRuns_g131 S (x 2) (x 7) (x 8) (x 9) (x 10) (x 11) (x 12) H := by kernel_rfl
def sounderlaw10_PersistRuns_g132 (S : Value → Heap → Prop) (x2 x7 x8 : Value) (H : Heap) : Prop :=
  EvF P N.sounderlaw10_none #[x7, x8, x2] H fun v149 H1 =>
  S v149 H1
theorem sounderlaw10_PersistRuns_g132_e (S : Value → Heap → Prop) (x : Nat → Value) (H : Heap) : wpE tab P sounderlaw10_PersistRuns_pi sounderlaw10_PersistRuns_c82 (nQ fun l H => S (l.getD 6 undef) H) ((List.range 158).map x) H = sounderlaw10_PersistRuns_g132 S (x 2) (x 7) (x 8) H := by kernel_rfl
def sounderlaw10_PersistRuns_g133 (S : Value → Heap → Prop) (x2 x7 x8 x9 x10 x11 : Value) (H : Heap) : Prop :=
  bnd (buildV #[(.int .i64 0), (.int .i64 0), (.int .i64 0)] (every 1) [(0, x9), (1, x10), (2, x11)]) fun v156 =>
  EvF P N.sounderlaw10_is #[x7, x8, x2, v156] H fun v157 H1 =>
  S v157 H1
theorem sounderlaw10_PersistRuns_g133_e (S : Value → Heap → Prop) (x : Nat → Value) (H : Heap) : wpE tab P sounderlaw10_PersistRuns_pi sounderlaw10_PersistRuns_c84 (nQ fun l H => S (l.getD 6 undef) H) ((List.range 158).map x) H = sounderlaw10_PersistRuns_g133 S (x 2) (x 7) (x 8) (x 9) (x 10) (x 11) H := by kernel_rfl
def sounderlaw10_PersistRuns_s92 (x2 x7 x8 x9 x10 x11 x12 x13 : Value) (K1 : Value → Value → Value → Value → Value → Value → Value → Value →  Heap → Prop) (R : Value → Heap → Prop) (H : Heap) : Prop :=
  sounderlaw10_PersistRuns_g93 (fun x2 x7 x8 x9 x10 x11 x12 x13 x29 H => brV x29
  (sounderlaw10_PersistRuns_g100 (fun x2 x7 x8 x9 x10 x11 x12 x13 x46 H => brV x46
  (sounderlaw10_PersistRuns_s94 x2 x7 x8 x9 x10 x11 x12 x13 K1 R H)
  (sounderlaw10_PersistRuns_g101 (fun x2 x7 x8 x9 x10 x11 x12 x13 x14 H => sounderlaw10_PersistRuns_g107 (fun x2 x7 x8 x9 x10 x11 x12 x13 x14 x15 H => sounderlaw10_PersistRuns_l130 x2 x7 x8 x9 x10 x11 x12 x13 x14 x15 K1 R H) x2 x7 x8 x9 x10 x11 x12 x13 x14 H) x2 x7 x8 x9 x10 x11 x12 x13 H)) x2 x7 x8 x9 x10 x11 x12 x13 H)
  (sounderlaw10_PersistRuns_g131 (fun x2 x7 x8 x9 x10 x11 x145 H => brV x145
  (sounderlaw10_PersistRuns_g132 (fun x6 H => R x6 H) x2 x7 x8 H)
  (sounderlaw10_PersistRuns_g133 (fun x6 H => R x6 H) x2 x7 x8 x9 x10 x11 H)) x2 x7 x8 x9 x10 x11 x12 H)) x2 x7 x8 x9 x10 x11 x12 x13 H
theorem sounderlaw10_PersistRuns_s92_i (K1 : Value → Value → Value → Value → Value → Value → Value → Value →  Heap → Prop) (R : Value → Heap → Prop) (l : List Value) (H : Heap) (hl : l.length = 158) (h : sounderlaw10_PersistRuns_s92 (l.getD 2 undef) (l.getD 7 undef) (l.getD 8 undef) (l.getD 9 undef) (l.getD 10 undef) (l.getD 11 undef) (l.getD 12 undef) (l.getD 13 undef) K1 R H) : wpE tab P sounderlaw10_PersistRuns_pi sounderlaw10_PersistRuns_c20 (sounderlaw10_PersistRuns_q99 K1 R) l H := by
  refine seqI (c := sounderlaw10_PersistRuns_c20) rfl ?_
  refine seqI (c := sounderlaw10_PersistRuns_c21) rfl ?_
  refine regI hl (Eq.mpr (sounderlaw10_PersistRuns_g93_e _ (fun i => l.getD i undef) _) h) ?_
  clear h hl
  intro l H hl h
  refine thenN ?_
  refine condI (c := sounderlaw10_PersistRuns_c23) rfl h ?_ ?_
  · clear h; intro h
    refine skipI rfl ?_
    refine thenN ?_
    refine seqI (c := sounderlaw10_PersistRuns_c25) rfl ?_
    refine blockI (c := sounderlaw10_PersistRuns_c26) rfl ?_
    refine seqI (c := sounderlaw10_PersistRuns_c27) rfl ?_
    refine seqI (c := sounderlaw10_PersistRuns_c28) rfl ?_
    refine regI hl (Eq.mpr (sounderlaw10_PersistRuns_g100_e _ (fun i => l.getD i undef) _) h) ?_
    clear h hl
    intro l H hl h
    refine thenN ?_
    refine condI (c := sounderlaw10_PersistRuns_c30) rfl h ?_ ?_
    · clear h; intro h
      refine exitI (c := sounderlaw10_PersistRuns_c31) rfl ?_
      refine thenX ?_
      refine blkX ?_
      refine thenN ?_
      exact sounderlaw10_PersistRuns_s94_i K1 R l H hl h
    · clear h; intro h
      refine skipI rfl ?_
      refine thenN ?_
      refine seqI (c := sounderlaw10_PersistRuns_c32) rfl ?_
      refine regI hl (Eq.mpr (sounderlaw10_PersistRuns_g101_e _ (fun i => l.getD i undef) _) h) ?_
      clear h hl
      intro l H hl h
      refine thenN ?_
      refine seqI (c := sounderlaw10_PersistRuns_c34) rfl ?_
      refine seqI (c := sounderlaw10_PersistRuns_c35) rfl ?_
      refine regI hl (Eq.mpr (sounderlaw10_PersistRuns_g107_e _ (fun i => l.getD i undef) _) h) ?_
      clear h hl
      intro l H hl h
      refine thenN ?_
      refine blockI (c := sounderlaw10_PersistRuns_c37) rfl ?_
      obtain ⟨I, μ, h0, hr⟩ := h
      refine loopI (c := sounderlaw10_PersistRuns_c38) rfl (fun l' H' => l'.getD 2 undef = l.getD 2 undef ∧ l'.getD 7 undef = l.getD 7 undef ∧ l'.getD 8 undef = l.getD 8 undef ∧ l'.getD 9 undef = l.getD 9 undef ∧ l'.getD 10 undef = l.getD 10 undef ∧ l'.getD 11 undef = l.getD 11 undef ∧ l'.getD 12 undef = l.getD 12 undef ∧ l'.getD 13 undef = l.getD 13 undef ∧ I (l'.getD 14 undef) (l'.getD 15 undef) H') (fun l' H' => μ (l'.getD 14 undef) (l'.getD 15 undef) H') hl ⟨rfl, rfl, rfl, rfl, rfl, rfl, rfl, rfl, h0⟩ ?_
      rintro l1 H1 hl1 ⟨e2, e7, e8, e9, e10, e11, e12, e13, hI⟩
      have hb := hr (l1.getD 14 undef) (l1.getD 15 undef) H1 hI
      rw [← e2, ← e7, ← e8, ← e9, ← e10, ← e11, ← e12, ← e13] at hb
      refine wpE_mono _ l1 H1 hl1 ?_ (sounderlaw10_PersistRuns_s108_i K1 _ R l1 H1 hl1 hb)
      intro e l2 H2 hl2 hq
      cases e with
      | normal => exact fun _ => (by obtain ⟨d2, d7, d8, d9, d10, d11, d12, d13, g1, g2⟩ := hq; exact ⟨⟨d2.trans e2, d7.trans e7, d8.trans e8, d9.trans e9, d10.trans e10, d11.trans e11, d12.trans e12, d13.trans e13, g1⟩, g2⟩)
      | _ => exact hq
  · clear h; intro h
    refine exitI (c := sounderlaw10_PersistRuns_c24) rfl ?_
    refine thenX ?_
    refine thenX ?_
    refine blkX ?_
    refine thenN ?_
    refine seqI (c := sounderlaw10_PersistRuns_c77) rfl ?_
    refine seqI (c := sounderlaw10_PersistRuns_c78) rfl ?_
    refine regI hl (Eq.mpr (sounderlaw10_PersistRuns_g131_e _ (fun i => l.getD i undef) _) h) ?_
    clear h hl
    intro l H hl h
    refine thenN ?_
    refine condI (c := sounderlaw10_PersistRuns_c80) rfl h ?_ ?_
    · clear h; intro h
      refine seqI (c := sounderlaw10_PersistRuns_c81) rfl ?_
      refine regI hl (Eq.mpr (sounderlaw10_PersistRuns_g132_e _ (fun i => l.getD i undef) _) h) ?_
      clear h hl
      intro l H hl h
      refine thenN ?_
      refine retI rfl ?_
      refine thenR ?_
      exact h
    · clear h; intro h
      refine skipI rfl ?_
      refine thenN ?_
      refine seqI (c := sounderlaw10_PersistRuns_c83) rfl ?_
      refine regI hl (Eq.mpr (sounderlaw10_PersistRuns_g133_e _ (fun i => l.getD i undef) _) h) ?_
      clear h hl
      intro l H hl h
      refine thenN ?_
      refine retI rfl ?_
      exact h
def sounderlaw10_PersistRuns_l134 (x2 x7 x8 x9 x10 x11 x12 x13 : Value) (R : Value → Heap → Prop) (H : Heap) : Prop :=
  ∃ (I : Value → Value → Value → Value → Value → Heap → Prop) (μ : Value → Value → Value → Value → Value → Heap → Nat), I x9 x10 x11 x12 x13 H ∧ ∀ (y9 : Value) (y10 : Value) (y11 : Value) (y12 : Value) (y13 : Value) (H : Heap), I y9 y10 y11 y12 y13 H → sounderlaw10_PersistRuns_s92 x2 x7 x8 y9 y10 y11 y12 y13 (fun z2 z7 z8 z9 z10 z11 z12 z13 H' => z2 = x2 ∧ z7 = x7 ∧ z8 = x8 ∧ (I z9 z10 z11 z12 z13 H' ∧ μ z9 z10 z11 z12 z13 H' < μ y9 y10 y11 y12 y13 H)) R H
def sounderlaw10_PersistRuns (x0 x1 x2 : Value) (R : Value → Heap → Prop) (H : Heap) : Prop :=
  sounderlaw10_PersistRuns_g85 (fun x0 x1 x2 H => sounderlaw10_PersistRuns_g86 (fun x0 x1 x2 x19 H => brV x19
  (sounderlaw10_PersistRuns_g87 (fun x6 H => R x6 H) H)
  (sounderlaw10_PersistRuns_g88 (fun x2 x7 x8 H => sounderlaw10_PersistRuns_g89 (fun x2 x7 x8 H => sounderlaw10_PersistRuns_g90 (fun x2 x7 x8 x9 x10 x11 x12 H => sounderlaw10_PersistRuns_g91 (fun x2 x7 x8 x9 x10 x11 x12 x13 H => sounderlaw10_PersistRuns_l134 x2 x7 x8 x9 x10 x11 x12 x13 R H) x2 x7 x8 x9 x10 x11 x12 H) x2 x7 x8 H) x2 x7 x8 H) x0 x1 x2 H)) x0 x1 x2 H) x0 x1 x2 H
theorem sounderlaw10_PersistRuns_i (R : Value → Heap → Prop) (x0 x1 x2 : Value) (H : Heap) (h : sounderlaw10_PersistRuns x0 x1 x2 R H) : wpE tab P sounderlaw10_PersistRuns_pi sounderlaw10_PersistRuns_c1 (retQ tab sounderlaw10_PersistRuns_rs R) [x0, x1, x2, undef, undef, undef, undef, undef, undef, undef, undef, undef, undef, undef, undef, undef, undef, undef, undef, undef, undef, undef, undef, undef, undef, undef, undef, undef, undef, undef, undef, undef, undef, undef, undef, undef, undef, undef, undef, undef, undef, undef, undef, undef, undef, undef, undef, undef, undef, undef, undef, undef, undef, undef, undef, undef, undef, undef, undef, undef, undef, undef, undef, undef, undef, undef, undef, undef, undef, undef, undef, undef, undef, undef, undef, undef, undef, undef, undef, undef, undef, undef, undef, undef, undef, undef, undef, undef, undef, undef, undef, undef, undef, undef, undef, undef, undef, undef, undef, undef, undef, undef, undef, undef, undef, undef, undef, undef, undef, undef, undef, undef, undef, undef, undef, undef, undef, undef, undef, undef, undef, undef, undef, undef, undef, undef, undef, undef, undef, undef, undef, undef, undef, undef, undef, undef, undef, undef, undef, undef, undef, undef, undef, undef, undef, undef, undef, undef, undef, undef, undef, undef, undef, undef, undef, undef, undef, undef] H := by
  obtain ⟨l, hl, el⟩ : ∃ l : List Value, l.length = 158 ∧ l = [x0, x1, x2, undef, undef, undef, undef, undef, undef, undef, undef, undef, undef, undef, undef, undef, undef, undef, undef, undef, undef, undef, undef, undef, undef, undef, undef, undef, undef, undef, undef, undef, undef, undef, undef, undef, undef, undef, undef, undef, undef, undef, undef, undef, undef, undef, undef, undef, undef, undef, undef, undef, undef, undef, undef, undef, undef, undef, undef, undef, undef, undef, undef, undef, undef, undef, undef, undef, undef, undef, undef, undef, undef, undef, undef, undef, undef, undef, undef, undef, undef, undef, undef, undef, undef, undef, undef, undef, undef, undef, undef, undef, undef, undef, undef, undef, undef, undef, undef, undef, undef, undef, undef, undef, undef, undef, undef, undef, undef, undef, undef, undef, undef, undef, undef, undef, undef, undef, undef, undef, undef, undef, undef, undef, undef, undef, undef, undef, undef, undef, undef, undef, undef, undef, undef, undef, undef, undef, undef, undef, undef, undef, undef, undef, undef, undef, undef, undef, undef, undef, undef, undef, undef, undef, undef, undef, undef, undef] := ⟨_, rfl, rfl⟩
  rw [← el]
  have h : (fun (x0 x1 x2 : Value) => sounderlaw10_PersistRuns_g85 (fun x0 x1 x2 H => sounderlaw10_PersistRuns_g86 (fun x0 x1 x2 x19 H => brV x19
(sounderlaw10_PersistRuns_g87 (fun x6 H => R x6 H) H)
(sounderlaw10_PersistRuns_g88 (fun x2 x7 x8 H => sounderlaw10_PersistRuns_g89 (fun x2 x7 x8 H => sounderlaw10_PersistRuns_g90 (fun x2 x7 x8 x9 x10 x11 x12 H => sounderlaw10_PersistRuns_g91 (fun x2 x7 x8 x9 x10 x11 x12 x13 H => sounderlaw10_PersistRuns_l134 x2 x7 x8 x9 x10 x11 x12 x13 R H) x2 x7 x8 x9 x10 x11 x12 H) x2 x7 x8 H) x2 x7 x8 H) x0 x1 x2 H)) x0 x1 x2 H) x0 x1 x2 H) (l.getD 0 undef) (l.getD 1 undef) (l.getD 2 undef) := by rw [el]; exact h
  clear el
  refine seqI (c := sounderlaw10_PersistRuns_c1) rfl ?_
  refine regI hl (Eq.mpr (sounderlaw10_PersistRuns_g85_e _ (fun i => l.getD i undef) _) h) ?_
  clear h hl
  intro l H hl h
  refine thenN ?_
  refine seqI (c := sounderlaw10_PersistRuns_c3) rfl ?_
  refine seqI (c := sounderlaw10_PersistRuns_c4) rfl ?_
  refine regI hl (Eq.mpr (sounderlaw10_PersistRuns_g86_e _ (fun i => l.getD i undef) _) h) ?_
  clear h hl
  intro l H hl h
  refine thenN ?_
  refine condI (c := sounderlaw10_PersistRuns_c6) rfl h ?_ ?_
  · clear h; intro h
    refine seqI (c := sounderlaw10_PersistRuns_c7) rfl ?_
    refine regI hl (Eq.mpr (sounderlaw10_PersistRuns_g87_e _ (fun i => l.getD i undef) _) h) ?_
    clear h hl
    intro l H hl h
    refine thenN ?_
    refine retI rfl ?_
    refine thenR ?_
    exact h
  · clear h; intro h
    refine skipI rfl ?_
    refine thenN ?_
    refine seqI (c := sounderlaw10_PersistRuns_c9) rfl ?_
    refine regI hl (Eq.mpr (sounderlaw10_PersistRuns_g88_e _ (fun i => l.getD i undef) _) h) ?_
    clear h hl
    intro l H hl h
    refine thenN ?_
    refine seqI (c := sounderlaw10_PersistRuns_c11) rfl ?_
    refine regI hl (Eq.mpr (sounderlaw10_PersistRuns_g89_e _ (fun i => l.getD i undef) _) h) ?_
    clear h hl
    intro l H hl h
    refine thenN ?_
    refine seqI (c := sounderlaw10_PersistRuns_c13) rfl ?_
    refine regI hl (Eq.mpr (sounderlaw10_PersistRuns_g90_e _ (fun i => l.getD i undef) _) h) ?_
    clear h hl
    intro l H hl h
    refine thenN ?_
    refine seqI (c := sounderlaw10_PersistRuns_c15) rfl ?_
    refine seqI (c := sounderlaw10_PersistRuns_c16) rfl ?_
    refine regI hl (Eq.mpr (sounderlaw10_PersistRuns_g91_e _ (fun i => l.getD i undef) _) h) ?_
    clear h hl
    intro l H hl h
    refine thenN ?_
    refine blockI (c := sounderlaw10_PersistRuns_c18) rfl ?_
    obtain ⟨I, μ, h0, hr⟩ := h
    refine loopI (c := sounderlaw10_PersistRuns_c19) rfl (fun l' H' => l'.getD 2 undef = l.getD 2 undef ∧ l'.getD 7 undef = l.getD 7 undef ∧ l'.getD 8 undef = l.getD 8 undef ∧ I (l'.getD 9 undef) (l'.getD 10 undef) (l'.getD 11 undef) (l'.getD 12 undef) (l'.getD 13 undef) H') (fun l' H' => μ (l'.getD 9 undef) (l'.getD 10 undef) (l'.getD 11 undef) (l'.getD 12 undef) (l'.getD 13 undef) H') hl ⟨rfl, rfl, rfl, h0⟩ ?_
    rintro l1 H1 hl1 ⟨e2, e7, e8, hI⟩
    have hb := hr (l1.getD 9 undef) (l1.getD 10 undef) (l1.getD 11 undef) (l1.getD 12 undef) (l1.getD 13 undef) H1 hI
    rw [← e2, ← e7, ← e8] at hb
    refine wpE_mono _ l1 H1 hl1 ?_ (sounderlaw10_PersistRuns_s92_i _ R l1 H1 hl1 hb)
    intro e l2 H2 hl2 hq
    cases e with
    | normal => exact fun _ => (by obtain ⟨d2, d7, d8, g1, g2⟩ := hq; exact ⟨⟨d2.trans e2, d7.trans e7, d8.trans e8, g1⟩, g2⟩)
    | _ => exact hq
theorem sounderlaw10_PersistRuns_ok : okB sounderlaw10_PersistRuns_pi sounderlaw10_PersistRuns_c1 = true := by kernel_rfl
theorem sounderlaw10_PersistRuns_ev0 (x0 x1 x2 : Value) (R : Value → Heap → Prop) (H : Heap) (h : sounderlaw10_PersistRuns x0 x1 x2 R H) : EvL P N.sounderlaw10_PersistRuns #[x0, x1, x2] H R :=
  EvF_intro (args := [x0, x1, x2]) (k := 155) (rs := sounderlaw10_PersistRuns_rs) tab_ok mixed Try.func6 (show Try.f6.body = some sounderlaw10_PersistRuns_c1 by kernel_rfl) Try.call6 Try.ntmps6 (by kernel_rfl) (okCode_of _ sounderlaw10_PersistRuns_ok) rfl (sounderlaw10_PersistRuns_i R x0 x1 x2 H h)
theorem sounderlaw10_PersistRuns_ev (x0 x1 x2 : Value) (R : Value → Heap → Prop) (H : Heap) (h : sounderlaw10_PersistRuns x0 x1 x2 R H) : EvF P N.sounderlaw10_PersistRuns #[x0, x1, x2] H R := .inl (sounderlaw10_PersistRuns_ev0 x0 x1 x2 R H h)
end Go.Hc
