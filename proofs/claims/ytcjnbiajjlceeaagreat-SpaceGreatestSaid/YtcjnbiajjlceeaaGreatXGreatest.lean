/- SpaceGreatest: the greatest number never falls, and was sent. -/
import Derived.Test.YtcjnbiajjlceeaaGreatX19
set_option maxRecDepth 100000
set_option linter.unusedSimpArgs false
set_option linter.unusedVariables false
namespace Go.Hc
open Go Go.Proofs
/- 4: sounder/sounderlaw17.SpaceGreatest -/
def z4_rs : List ResultVar := [.tmp 6]
noncomputable def z4_c2 := sc Tryz.f4 [0]
noncomputable def z4_c4 := sc Tryz.f4 [1,0]
noncomputable def z4_c7 := sc Tryz.f4 [1,1,0,0]
noncomputable def z4_c10 := sc Tryz.f4 [1,1,0,1,0,0]
noncomputable def z4_c9 : Code := .seq z4_c10 Code.ret
noncomputable def z4_c8 : Code := .cond (.tmp 26) z4_c9 Code.skip
noncomputable def z4_c6 : Code := .seq z4_c7 z4_c8
noncomputable def z4_c12 := sc Tryz.f4 [1,1,1,0]
noncomputable def z4_c14 := sc Tryz.f4 [1,1,1,1,0]
noncomputable def z4_c17 := sc Tryz.f4 [1,1,1,1,1,0,0]
noncomputable def z4_c22 := sc Tryz.f4 [1,1,1,1,1,0,1,0,0,0,0]
noncomputable def z4_c24 : Code := .exit 0
noncomputable def z4_c23 : Code := .cond (.tmp 37) Code.skip z4_c24
noncomputable def z4_c21 : Code := .seq z4_c22 z4_c23
noncomputable def z4_c29 := sc Tryz.f4 [1,1,1,1,1,0,1,0,0,1,0,0,0,0]
noncomputable def z4_c32 := sc Tryz.f4 [1,1,1,1,1,0,1,0,0,1,0,0,0,1,0,0]
noncomputable def z4_c31 : Code := .seq z4_c32 Code.ret
noncomputable def z4_c30 : Code := .cond (.tmp 76) z4_c31 Code.skip
noncomputable def z4_c28 : Code := .seq z4_c29 z4_c30
noncomputable def z4_c34 := sc Tryz.f4 [1,1,1,1,1,0,1,0,0,1,0,0,1,0]
noncomputable def z4_c36 := sc Tryz.f4 [1,1,1,1,1,0,1,0,0,1,0,0,1,1,0]
noncomputable def z4_c38 := sc Tryz.f4 [1,1,1,1,1,0,1,0,0,1,0,0,1,1,1,0]
noncomputable def z4_c40 := sc Tryz.f4 [1,1,1,1,1,0,1,0,0,1,0,0,1,1,1,1,0]
noncomputable def z4_c42 := sc Tryz.f4 [1,1,1,1,1,0,1,0,0,1,0,0,1,1,1,1,1,0]
noncomputable def z4_c44 := sc Tryz.f4 [1,1,1,1,1,0,1,0,0,1,0,0,1,1,1,1,1,1,0]
noncomputable def z4_c47 := sc Tryz.f4 [1,1,1,1,1,0,1,0,0,1,0,0,1,1,1,1,1,1,1,0,0]
noncomputable def z4_c46 : Code := .seq z4_c47 Code.ret
noncomputable def z4_c45 : Code := .cond (.tmp 161) z4_c46 Code.skip
noncomputable def z4_c43 : Code := .seq z4_c44 z4_c45
noncomputable def z4_c41 : Code := .seq z4_c42 z4_c43
noncomputable def z4_c39 : Code := .seq z4_c40 z4_c41
noncomputable def z4_c37 : Code := .seq z4_c38 z4_c39
noncomputable def z4_c35 : Code := .seq z4_c36 z4_c37
noncomputable def z4_c33 : Code := .seq z4_c34 z4_c35
noncomputable def z4_c27 : Code := .seq z4_c28 z4_c33
noncomputable def z4_c26 : Code := .block 1 z4_c27
noncomputable def z4_c48 := sc Tryz.f4 [1,1,1,1,1,0,1,0,0,1,1]
noncomputable def z4_c25 : Code := .seq z4_c26 z4_c48
noncomputable def z4_c20 : Code := .seq z4_c21 z4_c25
noncomputable def z4_c19 : Code := .loop z4_c20
noncomputable def z4_c18 : Code := .block 0 z4_c19
noncomputable def z4_c16 : Code := .seq z4_c17 z4_c18
noncomputable def z4_c50 := sc Tryz.f4 [1,1,1,1,1,1,0]
noncomputable def z4_c49 : Code := .seq z4_c50 Code.ret
noncomputable def z4_c15 : Code := .seq z4_c16 z4_c49
noncomputable def z4_c13 : Code := .seq z4_c14 z4_c15
noncomputable def z4_c11 : Code := .seq z4_c12 z4_c13
noncomputable def z4_c5 : Code := .seq z4_c6 z4_c11
noncomputable def z4_c3 : Code := .seq z4_c4 z4_c5
noncomputable def z4_c1 : Code := .seq z4_c2 z4_c3
def z4_pi (i : Nat) : Pl := match i with
  | 9 => (ones [0, 1, 2, 3, 4, 5, 6, 7, 8, 9, 10, 11, 13, 12, 14, 15, 16, 17, 18, 19, 20, 21, 22, 23, 24, 25, 26, 27, 28, 29, 30, 31, 32, 33, 34, 35, 36] .nil)
  | 14 => (ones [0, 1, 2, 3, 4, 5, 6, 7, 8, 9, 10, 11, 12, 13, 14] .nil)
  | 15 => (ones [0, 1, 2, 3, 4, 5, 6, 7, 10, 8, 9, 11, 12, 13, 14, 15, 16, 17, 18, 19] .nil)
  | 16 => (ones [0, 1, 2, 3, 4, 5, 6, 7, 8, 9, 10, 11, 12, 13, 14, 15, 16, 17, 18, 20, 19, 21, 22, 23, 24, 26, 27, 28, 29, 25, 30, 31, 32, 33, 34] .nil)
  | _ => .nil
noncomputable def z4_g51 (S : J3) (x0 x1 x2 : Value) (H : Heap) : Prop :=
  S x0 x1 x2 H
theorem z4_g51_e (S : J3) (x H) : WE z4_pi z4_c2 163 (fun l => S (gd l 0) (gd l 1) (gd l 2)) x H = z4_g51 S (x 0) (x 1) (x 2) H := by kernel_rfl
noncomputable def z4_g52 (S : J4) (x0 x1 x2 : Value) (H : Heap) : Prop :=
  EvF P N.sounderref00_Bring #[x0, (.int .i64 40)] H fun v20 H1 =>
  bnd (binV .int .add (.int .i64 1) v20) fun v21 =>
  EvF P N.space_New #[v21] H1 fun v22 H2 =>
  bnd (exV 0 v22) fun v23 =>
  bnd (exV 1 v22) fun v24 =>
  S x1 x2 v23 v24 H2
theorem z4_g52_e (S : J4) (x H) : WE z4_pi z4_c4 163 (fun l => S (gd l 1) (gd l 2) (gd l 7) (gd l 8)) x H = z4_g52 S (x 0) (x 1) (x 2) H := by kernel_rfl
noncomputable def z4_g53 (S : J4) (x1 x2 x7 x8 : Value) (H : Heap) : Prop :=
  bnd (binV .int .neq x8 (.int .i64 0)) fun v26 =>
  S x1 x2 x7 v26 H
theorem z4_g53_e (S : J4) (x H) : WE z4_pi z4_c7 163 (fun l => S (gd l 1) (gd l 2) (gd l 7) (gd l 26)) x H = z4_g53 S (x 1) (x 2) (x 7) (x 8) H := by kernel_rfl
noncomputable def z4_g54 (S : J1) (H : Heap) : Prop :=
  S (.bool false) H
theorem z4_g54_e (S : J1) (x H) : WE z4_pi z4_c10 163 (fun l => S (gd l 6)) x H = z4_g54 S  H := by kernel_rfl
noncomputable def z4_g55 (S : J3) (x1 x2 x7 : Value) (H : Heap) : Prop :=
  bnd (buildV #[(.pointer none), (.slice none 0 0), (.slice none 0 0), (.slice none 0 0), (.int .i64 0), (.int .i64 0)] (places [(0, 1), (1, 1), (2, 1), (3, 1), (4, 1), (5, 1)]) [(0, x7)]) fun v28 =>
  newE 31 (Value.cells v28) H fun v29 H1 =>
  S x1 x2 v29 H1
theorem z4_g55_e (S : J3) (x H) : WE z4_pi z4_c12 163 (fun l => S (gd l 1) (gd l 2) (gd l 9)) x H = z4_g55 S (x 1) (x 2) (x 7) H := by kernel_rfl
noncomputable def z4_g56 (S : J4) (x1 x2 x9 : Value) (H : Heap) : Prop :=
  S x1 x2 x9 (.int .i64 (-1)) H
theorem z4_g56_e (S : J4) (x H) : WE z4_pi z4_c14 163 (fun l => S (gd l 1) (gd l 2) (gd l 9) (gd l 10)) x H = z4_g56 S (x 1) (x 2) (x 9) H := by kernel_rfl
noncomputable def z4_g57 (S : J5) (x1 x2 x9 x10 : Value) (H : Heap) : Prop :=
  S x1 x2 x9 x10 (.int .i64 0) H
theorem z4_g57_e (S : J5) (x H) : WE z4_pi z4_c17 163 (fun l => S (gd l 1) (gd l 2) (gd l 9) (gd l 10) (gd l 11)) x H = z4_g57 S (x 1) (x 2) (x 9) (x 10) H := by kernel_rfl
noncomputable def z4_g59 (S : J6) (x1 x2 x9 x10 x11 : Value) (H : Heap) : Prop :=
  bnd (lenV x1) fun v32 =>
  bnd (binV .int .lss x11 v32) fun v33 =>
  brV v33
  (bnd (binV .int .lss x11 (.int .i64 60)) fun v36 =>
  S x1 x2 x9 x10 x11 v36 H)
  (S x1 x2 x9 x10 x11 (.bool false) H)
theorem z4_g59_e (S : J6) (x H) : WE z4_pi z4_c22 163 (fun l => S (gd l 1) (gd l 2) (gd l 9) (gd l 10) (gd l 11) (gd l 37)) x H = z4_g59 S (x 1) (x 2) (x 9) (x 10) (x 11) H := by kernel_rfl
noncomputable def z4_g60 (S : J5) (x1 x2 x9 x10 x11 : Value) (H : Heap) : Prop :=
  bnd (ixSV 5 x1 x11) fun v43 =>
  bnd (ldE true 5 v43 H) fun v44 =>
  EvF P N.sounderlaw17_run_step #[x9, v44] H fun v45 H1 =>
  bnd (unV .not v45) fun v46 =>
  brV v46
  (S x1 x2 x9 x11 (.bool true) H1)
  (bnd (nilV x9) fun v49 =>
  bnd (faV 0 v49) fun v50 =>
  bnd (ldE false 1 v50 H1) fun v51 =>
  EvF P N.space_Space_Greatest #[v51] H1 fun v52 H2 =>
  bnd (binV .int .lss v52 x10) fun v54 =>
  brV v54
  (S x1 x2 x9 x11 (.bool true) H2)
  (bnd (nilV x9) fun v58 =>
  bnd (faV 0 v58) fun v59 =>
  bnd (ldE false 1 v59 H2) fun v60 =>
  EvF P N.space_Space_Greatest #[v60] H2 fun v61 H3 =>
  bnd (binV .int .geq v61 (.int .i64 0)) fun v62 =>
  brG v62
  (bnd (nilV x9) fun v65 =>
  bnd (faV 1 v65) fun v66 =>
  bnd (ldE false 1 v66 H3) fun v67 =>
  bnd (nilV x9) fun v69 =>
  bnd (faV 0 v69) fun v70 =>
  bnd (ldE false 1 v70 H3) fun v71 =>
  EvF P N.space_Space_Greatest #[v71] H3 fun v72 H4 =>
  ((bnd (ldE false 1 v66 H4) fun v' => v' = v67) ∧
  EvF P N.sounderlaw17_has #[v67, v72] H4 fun v73 H5 =>
  bnd (unV .not v73) fun v74 =>
  S x1 x2 x9 x11 v74 H5))
  (S x1 x2 x9 x11 (.bool false) H3)
  (brG v62
  (bnd (nilV undef) fun v65_2 =>
  bnd (faV 1 v65_2) fun v66_2 =>
  bnd (ldE false 1 v66_2 H3) fun v67_2 =>
  bnd (nilV x9) fun v69_2 =>
  bnd (faV 0 v69_2) fun v70_2 =>
  bnd (ldE false 1 v70_2 H3) fun v71_2 =>
  EvF P N.space_Space_Greatest #[v71_2] H3 fun v72_2 H6 =>
  ((bnd (ldE false 1 v66_2 H6) fun v' => v' = v67_2) ∧
  EvF P N.sounderlaw17_has #[v67_2, v72_2] H6 fun v73_2 H7 =>
  bnd (unV .not v73_2) fun v74_2 =>
  S x1 x2 x9 x11 v74_2 H7))
  (S x1 x2 x9 x11 (.bool false) H3)
  (brG v62
  (bnd (faV 1 undef) fun v66_3 =>
  bnd (ldE false 1 v66_3 H3) fun v67_3 =>
  bnd (nilV x9) fun v69_3 =>
  bnd (faV 0 v69_3) fun v70_3 =>
  bnd (ldE false 1 v70_3 H3) fun v71_3 =>
  EvF P N.space_Space_Greatest #[v71_3] H3 fun v72_3 H8 =>
  ((bnd (ldE false 1 v66_3 H8) fun v' => v' = v67_3) ∧
  EvF P N.sounderlaw17_has #[v67_3, v72_3] H8 fun v73_3 H9 =>
  bnd (unV .not v73_3) fun v74_3 =>
  S x1 x2 x9 x11 v74_3 H9))
  (S x1 x2 x9 x11 (.bool false) H3)
  (brG v62
  (bnd (ldE false 1 undef H3) fun v67_4 =>
  bnd (nilV x9) fun v69_4 =>
  bnd (faV 0 v69_4) fun v70_4 =>
  bnd (ldE false 1 v70_4 H3) fun v71_4 =>
  EvF P N.space_Space_Greatest #[v71_4] H3 fun v72_4 H10 =>
  ((bnd (ldE false 1 undef H10) fun v' => v' = v67_4) ∧
  EvF P N.sounderlaw17_has #[v67_4, v72_4] H10 fun v73_4 H11 =>
  bnd (unV .not v73_4) fun v74_4 =>
  S x1 x2 x9 x11 v74_4 H11))
  (S x1 x2 x9 x11 (.bool false) H3)
  (brG v62
  (bnd (nilV x9) fun v69_5 =>
  bnd (faV 0 v69_5) fun v70_5 =>
  bnd (ldE false 1 v70_5 H3) fun v71_5 =>
  EvF P N.space_Space_Greatest #[v71_5] H3 fun v72_5 H12 =>
  EvF P N.sounderlaw17_has #[undef, v72_5] H12 fun v73_5 H13 =>
  bnd (unV .not v73_5) fun v74_5 =>
  S x1 x2 x9 x11 v74_5 H13)
  (S x1 x2 x9 x11 (.bool false) H3)
  (brG v62
  (bnd (nilV undef) fun v69_6 =>
  bnd (faV 0 v69_6) fun v70_6 =>
  bnd (ldE false 1 v70_6 H3) fun v71_6 =>
  EvF P N.space_Space_Greatest #[v71_6] H3 fun v72_6 H14 =>
  EvF P N.sounderlaw17_has #[undef, v72_6] H14 fun v73_6 H15 =>
  bnd (unV .not v73_6) fun v74_6 =>
  S x1 x2 x9 x11 v74_6 H15)
  (S x1 x2 x9 x11 (.bool false) H3)
  (brG v62
  (bnd (faV 0 undef) fun v70_7 =>
  bnd (ldE false 1 v70_7 H3) fun v71_7 =>
  EvF P N.space_Space_Greatest #[v71_7] H3 fun v72_7 H16 =>
  EvF P N.sounderlaw17_has #[undef, v72_7] H16 fun v73_7 H17 =>
  bnd (unV .not v73_7) fun v74_7 =>
  S x1 x2 x9 x11 v74_7 H17)
  (S x1 x2 x9 x11 (.bool false) H3)
  (brG v62
  (bnd (ldE false 1 undef H3) fun v71_8 =>
  EvF P N.space_Space_Greatest #[v71_8] H3 fun v72_8 H18 =>
  EvF P N.sounderlaw17_has #[undef, v72_8] H18 fun v73_8 H19 =>
  bnd (unV .not v73_8) fun v74_8 =>
  S x1 x2 x9 x11 v74_8 H19)
  (S x1 x2 x9 x11 (.bool false) H3)
  (brG v62
  (EvF P N.space_Space_Greatest #[undef] H3 fun v72_9 H20 =>
  EvF P N.sounderlaw17_has #[undef, v72_9] H20 fun v73_9 H21 =>
  bnd (unV .not v73_9) fun v74_9 =>
  S x1 x2 x9 x11 v74_9 H21)
  (S x1 x2 x9 x11 (.bool false) H3)
  (brG v62
  (EvF P N.sounderlaw17_has #[undef, undef] H3 fun v73_10 H22 =>
  bnd (unV .not v73_10) fun v74_10 =>
  S x1 x2 x9 x11 v74_10 H22)
  (S x1 x2 x9 x11 (.bool false) H3)
  (brG v62
  (bnd (unV .not undef) fun v74_11 =>
  S x1 x2 x9 x11 v74_11 H3)
  (S x1 x2 x9 x11 (.bool false) H3)
  (pickE v62 undef (.bool false) H3 fun v75 _ =>
  S x1 x2 x9 x11 v75 H3)))))))))))))
theorem z4_g60_e (S : J5) (x H) : WE z4_pi z4_c29 163 (fun l => S (gd l 1) (gd l 2) (gd l 9) (gd l 11) (gd l 76)) x H = z4_g60 S (x 1) (x 2) (x 9) (x 10) (x 11) H := by kernel_rfl
noncomputable def z4_g61 (S : J1) (H : Heap) : Prop :=
  S (.bool false) H
theorem z4_g61_e (S : J1) (x H) : WE z4_pi z4_c32 163 (fun l => S (gd l 6)) x H = z4_g61 S  H := by kernel_rfl
noncomputable def z4_g62 (S : J5) (x1 x2 x9 x11 : Value) (H : Heap) : Prop :=
  bnd (nilV x9) fun v78 =>
  bnd (faV 0 v78) fun v79 =>
  bnd (ldE false 1 v79 H) fun v80 =>
  EvF P N.space_Space_Greatest #[v80] H fun v81 H1 =>
  S x1 x2 x9 v81 x11 H1
theorem z4_g62_e (S : J5) (x H) : WE z4_pi z4_c34 163 (fun l => S (gd l 1) (gd l 2) (gd l 9) (gd l 10) (gd l 11)) x H = z4_g62 S (x 1) (x 2) (x 9) (x 11) H := by kernel_rfl
noncomputable def z4_g63 (S : J6) (x1 x2 x9 x10 x11 : Value) (H : Heap) : Prop :=
  bnd (nilV x9) fun v83 =>
  bnd (faV 0 v83) fun v84 =>
  bnd (ldE false 1 v84 H) fun v85 =>
  EvF P N.space_Space_Last #[v85] H fun v86 H1 =>
  bnd (binV .int .add v86 (.int .i64 1)) fun v87 =>
  EvF P N.sounderref00_Bring #[x2, (.int .i64 1000)] H1 fun v89 H2 =>
  bnd (binV .int .add v87 v89) fun v90 =>
  S x1 x2 x9 x10 x11 v90 H2
theorem z4_g63_e (S : J6) (x H) : WE z4_pi z4_c36 163 (fun l => S (gd l 1) (gd l 2) (gd l 9) (gd l 10) (gd l 11) (gd l 12)) x H = z4_g63 S (x 1) (x 2) (x 9) (x 10) (x 11) H := by kernel_rfl
noncomputable def z4_g64 (S : J7) (x1 x2 x9 x10 x11 x12 : Value) (H : Heap) : Prop :=
  bnd (nilV x9) fun v92 =>
  bnd (faV 0 v92) fun v93 =>
  bnd (ldE false 1 v93 H) fun v94 =>
  EvF P N.space_Space_All #[v94] H fun v95 H1 =>
  S x1 x2 x9 x10 x11 x12 v95 H1
theorem z4_g64_e (S : J7) (x H) : WE z4_pi z4_c38 163 (fun l => S (gd l 1) (gd l 2) (gd l 9) (gd l 10) (gd l 11) (gd l 12) (gd l 13)) x H = z4_g64 S (x 1) (x 2) (x 9) (x 10) (x 11) (x 12) H := by kernel_rfl
noncomputable def z4_g65 (S : J9) (x1 x2 x9 x10 x11 x12 x13 : Value) (H : Heap) : Prop :=
  bnd (nilV x9) fun v98 =>
  bnd (faV 0 v98) fun v99 =>
  bnd (ldE false 1 v99 H) fun v100 =>
  bnd (buildV #[(.int .i64 0), (.int .i64 0)] (every 1) [(0, x12), (1, x12)]) fun v103 =>
  bslE 54 #[(.int .i64 0), (.int .i64 0)] 2 1 [(0, v103)] H fun v104 H1 =>
  ((bnd (ldE false 1 v99 H1) fun v' => v' = v100) ∧
  EvF P N.sounderlaw17_ack #[v104] H1 fun v105 H2 =>
  ((bnd (ldE false 1 v99 H2) fun v' => v' = v100) ∧
  EvF P N.space_Space_Ack #[v100, v105] H2 fun v106 H3 =>
  bnd (exV 0 v106) fun v107 =>
  bnd (exV 1 v106) fun v108 =>
  S x1 x2 x9 x10 x11 x12 x13 v107 v108 H3))
theorem z4_g65_e (S : J9) (x H) : WE z4_pi z4_c40 163 (fun l => S (gd l 1) (gd l 2) (gd l 9) (gd l 10) (gd l 11) (gd l 12) (gd l 13) (gd l 14) (gd l 15)) x H = z4_g65 S (x 1) (x 2) (x 9) (x 10) (x 11) (x 12) (x 13) H := by kernel_rfl
noncomputable def z4_g66 (S : J10) (x1 x2 x9 x10 x11 x12 x13 x14 x15 : Value) (H : Heap) : Prop :=
  bnd (nilV x9) fun v111 =>
  bnd (faV 0 v111) fun v112 =>
  bnd (ldE false 1 v112 H) fun v113 =>
  bnd (nilV x9) fun v115 =>
  bnd (faV 0 v115) fun v116 =>
  bnd (ldE false 1 v116 H) fun v117 =>
  EvF P N.space_Space_Last #[v117] H fun v118 H1 =>
  ((bnd (ldE false 1 v112 H1) fun v' => v' = v113) ∧
  bnd (foldV max2V (.int .i64 0) [v118]) fun v119 =>
  bnd (buildV #[(.int .i64 0), (.int .i64 0)] (every 1) [(0, v119), (1, x12)]) fun v121 =>
  bslE 54 #[(.int .i64 0), (.int .i64 0)] 2 1 [(0, v121)] H1 fun v122 H2 =>
  ((bnd (ldE false 1 v112 H2) fun v' => v' = v113) ∧
  EvF P N.sounderlaw17_ack #[v122] H2 fun v123 H3 =>
  ((bnd (ldE false 1 v112 H3) fun v' => v' = v113) ∧
  EvF P N.space_Space_Ack #[v113, v123] H3 fun v124 H4 =>
  bnd (exV 0 v124) fun v125 =>
  bnd (exV 1 v124) fun v126 =>
  S x1 x2 x9 x10 x11 x13 x14 x15 v125 v126 H4)))
theorem z4_g66_e (S : J10) (x H) : WE z4_pi z4_c42 163 (fun l => S (gd l 1) (gd l 2) (gd l 9) (gd l 10) (gd l 11) (gd l 13) (gd l 14) (gd l 15) (gd l 16) (gd l 17)) x H = z4_g66 S (x 1) (x 2) (x 9) (x 10) (x 11) (x 12) (x 13) (x 14) (x 15) H := by kernel_rfl
noncomputable def z4_g67 (S : J6) (x1 x2 x9 x10 x11 x13 x14 x15 x16 x17 : Value) (H : Heap) : Prop :=
  bnd (binV .int .neq x15 (.int .i64 170)) fun v128 =>
  brV v128
  (S x1 x2 x9 x10 x11 (.bool true) H)
  (bnd (binV .int .neq x17 (.int .i64 170)) fun v131 =>
  brV v131
  (S x1 x2 x9 x10 x11 (.bool true) H)
  (bnd (lenV x14) fun v135 =>
  bnd (lenV x16) fun v137 =>
  bnd (binV .int .add v135 v137) fun v138 =>
  bnd (binV .int .neq v138 (.int .i64 0)) fun v139 =>
  brV v139
  (S x1 x2 x9 x10 x11 (.bool true) H)
  (bnd (nilV x9) fun v143 =>
  bnd (faV 0 v143) fun v144 =>
  bnd (ldE false 1 v144 H) fun v145 =>
  EvF P N.space_Space_Greatest #[v145] H fun v146 H1 =>
  bnd (binV .int .neq v146 x10) fun v148 =>
  brV v148
  (S x1 x2 x9 x10 x11 (.bool true) H1)
  (bnd (nilV x9) fun v154 =>
  bnd (faV 0 v154) fun v155 =>
  bnd (ldE false 1 v155 H1) fun v156 =>
  EvF P N.sounderlaw17_numbersOf #[x13] H1 fun v152 H2 =>
  ((bnd (ldE false 1 v155 H2) fun v' => v' = v156) ∧
  EvF P N.space_Space_All #[v156] H2 fun v157 H3 =>
  EvF P N.sounderlaw17_numbersOf #[v157] H3 fun v158 H4 =>
  EvF P N.sounderref00_EqInts #[v152, v158] H4 fun v159 H5 =>
  bnd (unV .not v159) fun v160 =>
  S x1 x2 x9 x10 x11 v160 H5)))))
theorem z4_g67_e (S : J6) (x H) : WE z4_pi z4_c44 163 (fun l => S (gd l 1) (gd l 2) (gd l 9) (gd l 10) (gd l 11) (gd l 161)) x H = z4_g67 S (x 1) (x 2) (x 9) (x 10) (x 11) (x 13) (x 14) (x 15) (x 16) (x 17) H := by kernel_rfl
noncomputable def z4_g68 (S : J1) (H : Heap) : Prop :=
  S (.bool false) H
theorem z4_g68_e (S : J1) (x H) : WE z4_pi z4_c47 163 (fun l => S (gd l 6)) x H = z4_g68 S  H := by kernel_rfl
noncomputable def z4_g69 (S : J5) (x1 x2 x9 x10 x11 : Value) (H : Heap) : Prop :=
  bnd (binV .int .add x11 (.int .i64 1)) fun v39 =>
  S x1 x2 x9 x10 v39 H
theorem z4_g69_e (S : J5) (x H) : WE z4_pi z4_c48 163 (fun l => S (gd l 1) (gd l 2) (gd l 9) (gd l 10) (gd l 11)) x H = z4_g69 S (x 1) (x 2) (x 9) (x 10) (x 11) H := by kernel_rfl
noncomputable def z4_g70 (S : J1) (H : Heap) : Prop :=
  EvF P N.sounderlaw17_works #[] H fun v162 H1 =>
  S v162 H1
theorem z4_g70_e (S : J1) (x H) : WE z4_pi z4_c50 163 (fun l => S (gd l 6)) x H = z4_g70 S  H := by kernel_rfl
noncomputable def z4_s58 (x1 x2 x9 x10 x11 : Value) (K1 : J5) (R : J1) (H : Heap) : Prop :=
  z4_g59 (fun x1 x2 x9 x10 x11 x37 H => brV x37
  (z4_g60 (fun x1 x2 x9 x11 x76 H => brV x76
  (z4_g61 (fun x6 H => R x6 H) H)
  (z4_g62 (fun x1 x2 x9 x10 x11 H => z4_g63 (fun x1 x2 x9 x10 x11 x12 H => z4_g64 (fun x1 x2 x9 x10 x11 x12 x13 H => z4_g65 (fun x1 x2 x9 x10 x11 x12 x13 x14 x15 H => z4_g66 (fun x1 x2 x9 x10 x11 x13 x14 x15 x16 x17 H => z4_g67 (fun x1 x2 x9 x10 x11 x161 H => brV x161
  (z4_g68 (fun x6 H => R x6 H) H)
  (z4_g69 (fun x1 x2 x9 x10 x11 H => K1 x1 x2 x9 x10 x11 H) x1 x2 x9 x10 x11 H)) x1 x2 x9 x10 x11 x13 x14 x15 x16 x17 H) x1 x2 x9 x10 x11 x12 x13 x14 x15 H) x1 x2 x9 x10 x11 x12 x13 H) x1 x2 x9 x10 x11 x12 H) x1 x2 x9 x10 x11 H) x1 x2 x9 x11 H)) x1 x2 x9 x10 x11 H)
  (z4_g70 (fun x6 H => R x6 H) H)) x1 x2 x9 x10 x11 H
noncomputable def z4_q71 (R : J1) : JQ := (retQ tab z4_rs R)
noncomputable def z4_q72 (R : J1) : JQ := (thenE (fun l H => wpE tab P z4_pi z4_c49 (z4_q71 R) l H) (z4_q71 R))
noncomputable def z4_q73 (R : J1) : JQ := (blkE 0 (z4_q72 R))
noncomputable def z4_q74 (K1 : J5) (R : J1) : JQ := (thenE (fun l H => K1 (gd l 1) (gd l 2) (gd l 9) (gd l 10) (gd l 11) H) (z4_q73 R))
theorem z4_s58_i (K1 : J5) (R : J1) (l : List Value) (H : Heap) (hl : l.length = 163) (h : z4_s58 (gd l 1) (gd l 2) (gd l 9) (gd l 10) (gd l 11) K1 R H) : wpE tab P z4_pi z4_c20 (z4_q74 K1 R) l H := sq rfl <| sr rfl hl (z4_g59_e _ (gd l) _) h fun l H hl h => cd rfl h (fun h => kN rfl <| sq rfl <| bl rfl <| sq rfl <| sr rfl hl (z4_g60_e _ (gd l) _) h fun l H hl h => cd rfl h (fun h => sr rfl hl (z4_g61_e _ (gd l) _) h fun l H hl h => rt rfl h) fun h => kN rfl <| sr rfl hl (z4_g62_e _ (gd l) _) h fun l H hl h => sr rfl hl (z4_g63_e _ (gd l) _) h fun l H hl h => sr rfl hl (z4_g64_e _ (gd l) _) h fun l H hl h => sr rfl hl (z4_g65_e _ (gd l) _) h fun l H hl h => sr rfl hl (z4_g66_e _ (gd l) _) h fun l H hl h => sr rfl hl (z4_g67_e _ (gd l) _) h fun l H hl h => cd rfl h (fun h => sr rfl hl (z4_g68_e _ (gd l) _) h fun l H hl h => rt rfl h) fun h => sk rfl <| bN <| tN <| rj hl (z4_g69_e _ (gd l) _) h fun l H hl h => tN <| h) fun h => ex rfl <| tX <| tX <| bX <| tN <| sr rfl hl (z4_g70_e _ (gd l) _) h fun l H hl h => rt rfl h
noncomputable def z4_l75 (x1 x2 x9 x10 x11 : Value) (R : J1) (H : Heap) : Prop :=
  ∃ (I : J2) (μ : M2), I x10 x11 H ∧ ∀ (y10 : Value) (y11 : Value) (H : Heap), I y10 y11 H → z4_s58 x1 x2 x9 y10 y11 (fun z1 z2 z9 z10 z11 H' => z1 = x1 ∧ z2 = x2 ∧ z9 = x9 ∧ (I z10 z11 H' ∧ μ z10 z11 H' < μ y10 y11 H)) R H
def sounderlaw17_SpaceGreatest (x0 x1 x2 : Value) (R : Value → Heap → Prop) (H : Heap) : Prop :=
  z4_g51 (fun x0 x1 x2 H => z4_g52 (fun x1 x2 x7 x8 H => z4_g53 (fun x1 x2 x7 x26 H => brV x26
  (z4_g54 (fun x6 H => R x6 H) H)
  (z4_g55 (fun x1 x2 x9 H => z4_g56 (fun x1 x2 x9 x10 H => z4_g57 (fun x1 x2 x9 x10 x11 H => z4_l75 x1 x2 x9 x10 x11 R H) x1 x2 x9 x10 H) x1 x2 x9 H) x1 x2 x7 H)) x1 x2 x7 x8 H) x0 x1 x2 H) x0 x1 x2 H
theorem z4_ev0 (x0 x1 x2 : Value) (R : J1) (H : Heap) (h : sounderlaw17_SpaceGreatest x0 x1 x2 R H) : EvL P N.sounderlaw17_SpaceGreatest #[x0, x1, x2] H R := EvF_intro (args := [x0, x1, x2]) (k := 160) (rs := z4_rs) tab_ok mixed Tryz.func4 (show Tryz.f4.body = some z4_c1 by kernel_rfl) Tryz.call4 Tryz.ntmps4 (by kernel_rfl) (okCode_of _ (show okB z4_pi z4_c1 = true by kernel_rfl)) (fr_eq _ _) (fj (n := 163) rfl (fun l hl (h : sounderlaw17_SpaceGreatest (gd l 0) (gd l 1) (gd l 2) R H) => sr rfl hl (z4_g51_e _ (gd l) _) h fun l H hl h => sr rfl hl (z4_g52_e _ (gd l) _) h fun l H hl h => sq rfl <| sr rfl hl (z4_g53_e _ (gd l) _) h fun l H hl h => cd rfl h (fun h => sr rfl hl (z4_g54_e _ (gd l) _) h fun l H hl h => rt rfl h) fun h => kN rfl <| sr rfl hl (z4_g55_e _ (gd l) _) h fun l H hl h => sr rfl hl (z4_g56_e _ (gd l) _) h fun l H hl h => sq rfl <| sr rfl hl (z4_g57_e _ (gd l) _) h fun l H hl h => bl rfl <| (by
    obtain ⟨I, μ, h0, hr⟩ := h
    refine loopI (c := z4_c19) rfl (fun l' H' => gd l' 1 = gd l 1 ∧ gd l' 2 = gd l 2 ∧ gd l' 9 = gd l 9 ∧ I (gd l' 10) (gd l' 11) H') (fun l' H' => μ (gd l' 10) (gd l' 11) H') hl ⟨rfl, rfl, rfl, h0⟩ ?_
    rintro l1 H1 hl1 ⟨e1, e2, e9, hI⟩
    have hb := hr (gd l1 10) (gd l1 11) H1 hI
    rw [← e1, ← e2, ← e9] at hb
    refine wpE_mono _ l1 H1 hl1 ?_ (z4_s58_i _ R l1 H1 hl1 hb)
    intro e l2 H2 hl2 hq
    cases e with
    | normal => exact fun _ => (by obtain ⟨d1, d2, d9, g1, g2⟩ := hq; exact ⟨⟨d1.trans e1, d2.trans e2, d9.trans e9, g1⟩, g2⟩)
    | _ => exact hq)) h)
theorem z4_ev (x0 x1 x2 : Value) (R : J1) (H : Heap) (h : sounderlaw17_SpaceGreatest x0 x1 x2 R H) : EvF P N.sounderlaw17_SpaceGreatest #[x0, x1, x2] H R := .inl (z4_ev0 x0 x1 x2 R H h)
end Go.Hc
set_option linter.unusedSimpArgs false
set_option linter.unusedVariables false
namespace Go.Hc
open Go

section
variable {H0 H : Heap} {s b : Nat} {sp : Sp} {vs va vl : Value} {now : Int} {Qs : List Asr} {R : Value → Heap → Prop}
theorem ack1p_sep {lo hi : Int} {t : TypeId} (h : Sep H0 H (cellsA b (runC s vs va vl now) :: spA s sp :: Qs)) (hE : ackE sp (ackOf [(lo, hi)]) = 170)
    (hR0 : ∀ H', Sep H0 H' (cellsA b (runC s vs va vl now) :: spA s sp :: Qs) → R (.tuple #[nilS, iv 170]) H') :
    bslE t #[(.int .i64 0), (.int .i64 0)] 2 1 [(0, .agg (rngC (lo, hi)))] H fun v H1 => ((bnd (ldE false 1 (.pointer (some ⟨b, 0, none⟩)) H1) fun v' => v' = ptr s) ∧ EvF P N.sounderlaw17_ack #[v] H1 fun a H2 => ((bnd (ldE false 1 (.pointer (some ⟨b, 0, none⟩)) H2) fun v' => v' = ptr s) ∧ EvF P N.space_Space_Ack #[ptr s, a] H2 R)) := by
  have l0 : ∀ {K : Heap} {Q : Asr} {Qs : List Asr}, Sep H0 K (Q :: cellsA b (runC s vs va vl now) :: Qs) → (bnd (ldE false 1 (.pointer (some ⟨b, 0, none⟩)) K) fun v' => v' = ptr s) := fun h => by
    rw [show ldE false 1 (.pointer (some ⟨b, 0, none⟩)) _ = some (ptr s) from ld_ptr (own_blk h.b1.cells) runC_0, bnd_some]
  refine bslE_sep (E := rngE) (vs := [_]) (l := [(lo, hi)]) h rfl rfl (fun i hi => ?_) (by decide) (by decide) fun K1 v h1 => ?_
  · match i, hi with
    | 0, _ => rfl
  refine ⟨l0 h1, ?_⟩
  refine ack_sep h1 (fun K h => h.shR) (by simp) fun K2 w h2 => ?_
  refine ⟨l0 h2.b1.drop, ?_⟩
  -- w, v, b, s
  refine Ack_sp' (h2.s4 [0, 3, 1, 2] rfl) (fun _ K h3 => ?_) (fun e => absurd e (by rw [hE]; decide))
  rw [hE]
  exact hR0 K (h3.s3 [2, 0, 1] rfl |>.b2.drop)
end
set_option maxHeartbeats 1000000 in
theorem Greatest17_ev {Hb : Heap} {v : Value} {room more : Int} {l : List (Fin 5 → Int)} {R : Value → Heap → Prop} (hroom : In64 room) (hv : ShowA (intsE 5) Hb v l) (hin : ∀ y ∈ l, ∀ i, In64 (y i)) (hmore : In64 more) (hR : ∀ H', Ext [] Hb H' → R (.bool true) H') :
    EvL P N.sounderlaw17_SpaceGreatest #[iv room, v, iv more] Hb R := by
  refine z4_ev0 _ _ _ _ _ ?_
  simp only [sounderlaw17_SpaceGreatest, z4_g51, z4_g52]
  refine Bring_ev hroom (by omega) ?_
  have hb := bring_r (i := room) (n := 40) (by omega)
  have w1 : IntKind.i64.wrap (1 + bring room 40) = 1 + bring room 40 := wrap_in (by omega)
  try simp only [ew, Nat.reduceAdd, Nat.reduceMul, Nat.reduceLeDiff, Int.reduceBNe, Int.reduceBEq, Int.reduceLT, Int.reduceLE, bin_add, w1]
  refine spNew_sep (Sep.nil Hb) (fun hbad => absurd ⟨by omega, by omega⟩ hbad) fun rm s K1 hr _ _ h => ?_
  have e0 : ((0 : Int) != 0) = false := rfl
  try simp only [ew, Nat.reduceAdd, Nat.reduceMul, Nat.reduceLeDiff, Int.reduceBNe, Int.reduceBEq, Int.reduceLT, Int.reduceLE, z4_g53]
  try simp only [ew, Nat.reduceAdd, Nat.reduceMul, Nat.reduceLeDiff, Int.reduceBNe, Int.reduceBEq, Int.reduceLT, Int.reduceLE, e0, z4_g55]
  try simp only [ew, Nat.reduceAdd, Nat.reduceMul, Nat.reduceLeDiff, Int.reduceBNe, Int.reduceBEq, Int.reduceLT, Int.reduceLE, run_build]
  generalize hK2 : newB K1 _ _ = K2
  have h2 := run_new (t := 31) h
  rw [hK2] at h2
  obtain ⟨b, hbb⟩ : ∃ b, b = K1.size := ⟨_, rfl⟩
  rw [← hbb] at h2 ⊢
  simp only [z4_g56, z4_g57, z4_l75]
  have hsm := hv.small
  refine ⟨fun x10 x11 K => ∃ (i : Nat) (r : Rn), x10 = iv r.s.gr ∧ x11 = iv i ∧ i ≤ 60 ∧ i ≤ l.length ∧ Inv r [] i i ∧ Sep Hb K [runA b r], fun _ x _ => (match x with | .int _ i => (60 - i).toNat | _ => 0), ⟨0, rn0 rm, rfl, rfl, by omega, by omega, inv0 rm, h2⟩, ?_⟩
  clear h h2 hK2
  rintro x10 x11 K ⟨i, r, rfl, rfl, hi60, hil, hI, h⟩
  have hvK := hv.ext h.only
  simp only [z4_s58, z4_g59]
  try simp only [ew, Nat.reduceAdd, Nat.reduceMul, Nat.reduceLeDiff, Int.reduceBNe, Int.reduceBEq, Int.reduceLT, Int.reduceLE, hvK.len]
  have fin : z4_g70 (fun x6 H => R x6 H) K := by
    simp only [z4_g70]
    exact works17_ev h fun K h => hR K h.only
  refine brV_d (fun hlt => ?_) (fun hge => fin)
  try simp only [ew, Nat.reduceAdd, Nat.reduceMul, Nat.reduceLeDiff, Int.reduceBNe, Int.reduceBEq, Int.reduceLT, Int.reduceLE]
  refine brV_d (fun hlt2 => ?_) (fun hge => fin)
  clear fin
  have hi' : i < l.length := by omega
  obtain ⟨bb, o, i1, i2⟩ := step_read hvK hi'
  simp only [z4_g60]
  try simp only [ew, Nat.reduceAdd, Nat.reduceMul, Nat.reduceLeDiff, Int.reduceBNe, Int.reduceBEq, Int.reduceLT, Int.reduceLE, i1, i2]
  refine step_sep h (hin _ (List.getElem_mem hi')) hI (by omega) fun K1 r1 hI1 hrel h1 => ?_
  obtain ⟨s, l0, vs, va, vl, ho⟩ := run_s h1
  have ho := ho.b1
  -- s, b, vs, va, vl
  have ld0 : ∀ {K : Heap} {Q : Asr} {Qs : List Asr}, Sep Hb K (Q :: cellsA b (runC s vs va vl r1.now) :: Qs) → ldE false 1 (.pointer (some ⟨b, 0, none⟩)) K = some (ptr s) := fun h => ld_ptr (own_blk h.b1.cells) runC_0
  have ld1 : ∀ {K : Heap} {Q : Asr} {Qs : List Asr}, Sep Hb K (Q :: cellsA b (runC s vs va vl r1.now) :: Qs) → ldE false 1 (.pointer (some ⟨b, 1, none⟩)) K = some vs := fun h => ld_ptr (own_blk h.b1.cells) runC_1
  have hnlt : decide (r1.s.gr < r.s.gr) = false := decide_eq_false (by have := hrel.1; omega)
  have hmay := sp_mayL ho
  have hkn := (sp_knL ho).1
  have hfew := hI1.few
  try simp only [ew, Nat.reduceAdd, Nat.reduceMul, Nat.reduceLeDiff, Int.reduceBNe, Int.reduceBEq, Int.reduceLT, Int.reduceLE, l0]
  refine Greatest_sp ho fun K2 h2 => ?_
  try simp only [ew, Nat.reduceAdd, Nat.reduceMul, Nat.reduceLeDiff, Int.reduceBNe, Int.reduceBEq, Int.reduceLT, Int.reduceLE, hnlt, ld0 h2]
  refine Greatest_sp h2 fun K3 h3 => ?_
  try simp only [ew, Nat.reduceAdd, Nat.reduceMul, Nat.reduceLeDiff, Int.reduceBNe, Int.reduceBEq, Int.reduceLT, Int.reduceLE]
  -- what is left of the round
  have rest : ∀ K, Sep Hb K (spA s r1.s :: cellsA b (runC s vs va vl r1.now) :: lstA intE vs r1.sent :: lstA intE va r1.acked :: lstA intE vl r1.lost :: []) →
      z4_g62 (fun x1 x2 x9 x10 x11 H => z4_g63 (fun x1 x2 x9 x10 x11 x12 H => z4_g64 (fun x1 x2 x9 x10 x11 x12 x13 H => z4_g65 (fun x1 x2 x9 x10 x11 x12 x13 x14 x15 H => z4_g66 (fun x1 x2 x9 x10 x11 x13 x14 x15 x16 x17 H => z4_g67 (fun x1 x2 x9 x10 x11 x161 H => brV x161
  (z4_g68 (fun x6 H => R x6 H) H)
  (z4_g69 (fun x1 x2 x9 x10 x11 H' => x1 = v ∧ x2 = iv more ∧ x9 = ptr b ∧ ((∃ (i : Nat) (r : Rn), x10 = iv r.s.gr ∧ x11 = iv i ∧ i ≤ 60 ∧ i ≤ l.length ∧ Inv r [] i i ∧ Sep Hb H' [runA b r]) ∧ (match x11 with | .int _ i => (60 - i).toNat | _ => 0) < (match iv (i : Int) with | .int _ i => (60 - i).toNat | _ => 0))) x1 x2 x9 x10 x11 H)) x1 x2 x9 x10 x11 x13 x14 x15 x16 x17 H) x1 x2 x9 x10 x11 x12 x13 x14 x15 H) x1 x2 x9 x10 x11 x12 x13 H) x1 x2 x9 x10 x11 x12 H) x1 x2 x9 x10 x11 H) v (iv more) (ptr b) (iv i) K := fun K h => by
    have nb : ∀ a : Int, (a != a) = false := fun a => by simp
    have hbR : ∀ x y : Int, buildV #[(.int .i64 0), (.int .i64 0)] (every 1) [(0, iv x), (1, iv y)] = some (.agg (rngC (x, y))) := fun _ _ => rfl
    have w4 : IntKind.i64.wrap ((i : Int) + 1) = ((i + 1 : Nat) : Int) := by rw [wrap_in (by omega)]; omega
    have hm := bring_r (i := more) (n := 1000) (by omega)
    obtain ⟨m, hmm⟩ : ∃ m, m = bring more 1000 := ⟨_, rfl⟩
    have w2 : IntKind.i64.wrap (r1.s.top + 1) = r1.s.top + 1 := wrap_in (by omega)
    have w3 : IntKind.i64.wrap (r1.s.top + 1 + m) = r1.s.top + 1 + m := by rw [← hmm] at hm; exact wrap_in (by omega)
    have hun : ¬ Mem r1.s.kn (r1.s.top + 1 + m) := fun hx => by
      have := (hI1.nn _ ((hI1.kn _).1 hx)).2
      rw [← hmm] at hm; omega
    have u1 : ackE r1.s (ackOf [(r1.s.top + 1 + m, r1.s.top + 1 + m)]) = 170 := by
      rw [← hmm] at hm
      exact ackE_un hkn (okA1 (by omega) (by omega) (by omega)) (List.mem_singleton.2 rfl) (n := r1.s.top + 1 + m) (by simp) hun
    have u2 : ackE r1.s (ackOf [(max 0 r1.s.top, r1.s.top + 1 + m)]) = 170 := by
      rw [← hmm] at hm
      exact ackE_un hkn (okA1 (by omega) (by omega) (by omega)) (List.mem_singleton.2 rfl) (n := r1.s.top + 1 + m) (by simp; omega) hun
    simp only [z4_g62]
    try simp only [ew, Nat.reduceAdd, Nat.reduceMul, Nat.reduceLeDiff, Int.reduceBNe, Int.reduceBEq, Int.reduceLT, Int.reduceLE, ld0 h]
    refine Greatest_sp h fun K h => ?_
    simp only [z4_g63]
    try simp only [ew, Nat.reduceAdd, Nat.reduceMul, Nat.reduceLeDiff, Int.reduceBNe, Int.reduceBEq, Int.reduceLT, Int.reduceLE, ld0 h]
    refine Last_sp h fun K h => ?_
    try simp only [ew, Nat.reduceAdd, Nat.reduceMul, Nat.reduceLeDiff, Int.reduceBNe, Int.reduceBEq, Int.reduceLT, Int.reduceLE, bin_add, w2]
    refine Bring_ev hmore (by omega) ?_
    rw [← hmm]
    try simp only [ew, Nat.reduceAdd, Nat.reduceMul, Nat.reduceLeDiff, Int.reduceBNe, Int.reduceBEq, Int.reduceLT, Int.reduceLE, bin_add, w3, z4_g64]
    try simp only [ew, Nat.reduceAdd, Nat.reduceMul, Nat.reduceLeDiff, Int.reduceBNe, Int.reduceBEq, Int.reduceLT, Int.reduceLE, ld0 h]
    refine All_sp h fun K w h => ?_
    -- w, s, b, ..
    simp only [z4_g65]
    try simp only [ew, Nat.reduceAdd, Nat.reduceMul, Nat.reduceLeDiff, Int.reduceBNe, Int.reduceBEq, Int.reduceLT, Int.reduceLE, ld0 h.drop, hbR]
    refine ack1p_sep (h.s3 [2, 1, 0] rfl) u1 fun K h => ?_
    -- b, s, w
    try simp only [ew, Nat.reduceAdd, Nat.reduceMul, Nat.reduceLeDiff, Int.reduceBNe, Int.reduceBEq, Int.reduceLT, Int.reduceLE, z4_g66]
    try simp only [ew, Nat.reduceAdd, Nat.reduceMul, Nat.reduceLeDiff, Int.reduceBNe, Int.reduceBEq, Int.reduceLT, Int.reduceLE, ld0 h.b1]
    refine Last_sp h.b1 fun K h => ?_
    try simp only [ew, Nat.reduceAdd, Nat.reduceMul, Nat.reduceLeDiff, Int.reduceBNe, Int.reduceBEq, Int.reduceLT, Int.reduceLE, ld0 h, max_iv, hbR]
    refine ack1p_sep h.b1 u2 fun K h => ?_
    -- b, s, w
    try simp only [ew, Nat.reduceAdd, Nat.reduceMul, Nat.reduceLeDiff, Int.reduceBNe, Int.reduceBEq, Int.reduceLT, Int.reduceLE, z4_g67]
    try simp only [ew, Nat.reduceAdd, Nat.reduceMul, Nat.reduceLeDiff, Int.reduceBNe, Int.reduceBEq, Int.reduceLT, Int.reduceLE, nb, bin_add, show IntKind.i64.wrap (((0 : Nat) : Int) + ((0 : Nat) : Int)) = 0 from rfl, ld0 h.b1]
    refine Greatest_sp h.b1 fun K h => ?_
    -- s, b, w
    have hLs : r1.s.L.length ≤ 10000 := by have := hmay.2.2.1; have := hmay.2.2.2.2; omega
    try simp only [ew, Nat.reduceAdd, Nat.reduceMul, Nat.reduceLeDiff, Int.reduceBNe, Int.reduceBEq, Int.reduceLT, Int.reduceLE, nb, ld0 h]
    refine numbers_sep h (fun K h => h.b2.shP) hLs fun K w1 h => ?_
    -- w1, s, b, w
    try simp only [ew, Nat.reduceAdd, Nat.reduceMul, Nat.reduceLeDiff, Int.reduceBNe, Int.reduceBEq, Int.reduceLT, Int.reduceLE, ld0 h.drop]
    refine All_sp h.b1 fun K w2 h => ?_
    -- w2, s, w1, b
    refine numbers_sep h (fun K h => h.shP) hLs fun K w3 h => ?_
    -- w3, w2, s, w1, b, w
    refine eqInts_ev h.b3.shI h.shI ?_
    rw [decide_eq_true rfl]
    try simp only [ew, Nat.reduceAdd, Nat.reduceMul, Nat.reduceLeDiff, Int.reduceBNe, Int.reduceBEq, Int.reduceLT, Int.reduceLE, z4_g69]
    try simp only [ew, Nat.reduceAdd, Nat.reduceMul, Nat.reduceLeDiff, Int.reduceBNe, Int.reduceBEq, Int.reduceLT, Int.reduceLE, bin_add, w4]
    refine ⟨⟨i + 1, r1, rfl, rfl, by omega, by omega, hI1, ?_⟩, by show _ < _; omega⟩
    exact runClose (h.s9 [4, 2, 6, 7, 8, 0, 1, 3, 5] rfl |>.s9 [5, 6, 7, 8, 0, 1, 2, 3, 4] rfl).drop.drop.drop.drop
  refine brG_d (fun hg => ?_) (fun hg => ?_)
  · have hmem : r1.s.gr ∈ r1.sent := by
      rcases hI1.gr with e | e
      · omega
      · exact e
    try simp only [ew, Nat.reduceAdd, Nat.reduceMul, Nat.reduceLeDiff, Int.reduceBNe, Int.reduceBEq, Int.reduceLT, Int.reduceLE, ld0 h3, ld1 h3]
    refine Greatest_sp h3 fun K4 h4 => ?_
    try simp only [ew, Nat.reduceAdd, Nat.reduceMul, Nat.reduceLeDiff, Int.reduceBNe, Int.reduceBEq, Int.reduceLT, Int.reduceLE, ld1 h4]
    refine has_ev h4.b2.shI ?_
    rw [decide_eq_true hmem]
    try simp only [ew, Nat.reduceAdd, Nat.reduceMul, Nat.reduceLeDiff, Int.reduceBNe, Int.reduceBEq, Int.reduceLT, Int.reduceLE]
    exact rest K4 h4
  · try simp only [ew, Nat.reduceAdd, Nat.reduceMul, Nat.reduceLeDiff, Int.reduceBNe, Int.reduceBEq, Int.reduceLT, Int.reduceLE]
    exact rest K3 h3
end Go.Hc
