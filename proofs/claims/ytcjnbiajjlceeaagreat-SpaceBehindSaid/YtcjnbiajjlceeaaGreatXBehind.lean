/- SpaceBehind: behind Lose no packet is three numbers behind the greatest one. -/
import Derived.Test.YtcjnbiajjlceeaaGreatX19
set_option maxRecDepth 100000
set_option linter.unusedSimpArgs false
set_option linter.unusedVariables false
namespace Go.Hc
open Go Go.Proofs
/- 3: sounder/sounderlaw17.SpaceBehind -/
def z3_rs : List ResultVar := [.tmp 4]
noncomputable def z3_c2 := sc Tryz.f3 [0]
noncomputable def z3_c4 := sc Tryz.f3 [1,0]
noncomputable def z3_c7 := sc Tryz.f3 [1,1,0,0]
noncomputable def z3_c10 := sc Tryz.f3 [1,1,0,1,0,0]
noncomputable def z3_c9 : Code := .seq z3_c10 Code.ret
noncomputable def z3_c8 : Code := .cond (.tmp 23) z3_c9 Code.skip
noncomputable def z3_c6 : Code := .seq z3_c7 z3_c8
noncomputable def z3_c12 := sc Tryz.f3 [1,1,1,0]
noncomputable def z3_c15 := sc Tryz.f3 [1,1,1,1,0,0]
noncomputable def z3_c20 := sc Tryz.f3 [1,1,1,1,0,1,0,0,0,0]
noncomputable def z3_c22 : Code := .exit 0
noncomputable def z3_c21 : Code := .cond (.tmp 34) Code.skip z3_c22
noncomputable def z3_c19 : Code := .seq z3_c20 z3_c21
noncomputable def z3_c26 := sc Tryz.f3 [1,1,1,1,0,1,0,0,1,0,0,0]
noncomputable def z3_c29 := sc Tryz.f3 [1,1,1,1,0,1,0,0,1,0,0,1,0,0]
noncomputable def z3_c28 : Code := .seq z3_c29 Code.ret
noncomputable def z3_c27 : Code := .cond (.tmp 43) z3_c28 Code.skip
noncomputable def z3_c25 : Code := .seq z3_c26 z3_c27
noncomputable def z3_c24 : Code := .block 1 z3_c25
noncomputable def z3_c30 := sc Tryz.f3 [1,1,1,1,0,1,0,0,1,1]
noncomputable def z3_c23 : Code := .seq z3_c24 z3_c30
noncomputable def z3_c18 : Code := .seq z3_c19 z3_c23
noncomputable def z3_c17 : Code := .loop z3_c18
noncomputable def z3_c16 : Code := .block 0 z3_c17
noncomputable def z3_c14 : Code := .seq z3_c15 z3_c16
noncomputable def z3_c32 := sc Tryz.f3 [1,1,1,1,1,0]
noncomputable def z3_c35 := sc Tryz.f3 [1,1,1,1,1,1,0,0]
noncomputable def z3_c38 := sc Tryz.f3 [1,1,1,1,1,1,0,1,0,0]
noncomputable def z3_c37 : Code := .seq z3_c38 Code.ret
noncomputable def z3_c36 : Code := .cond (.tmp 52) z3_c37 Code.skip
noncomputable def z3_c34 : Code := .seq z3_c35 z3_c36
noncomputable def z3_c40 := sc Tryz.f3 [1,1,1,1,1,1,1,0]
noncomputable def z3_c43 := sc Tryz.f3 [1,1,1,1,1,1,1,1,0,0]
noncomputable def z3_c46 := sc Tryz.f3 [1,1,1,1,1,1,1,1,0,1,0,0]
noncomputable def z3_c45 : Code := .seq z3_c46 Code.ret
noncomputable def z3_c44 : Code := .cond (.tmp 64) z3_c45 Code.skip
noncomputable def z3_c42 : Code := .seq z3_c43 z3_c44
noncomputable def z3_c49 := sc Tryz.f3 [1,1,1,1,1,1,1,1,1,0,0]
noncomputable def z3_c54 := sc Tryz.f3 [1,1,1,1,1,1,1,1,1,0,1,0,0,0,0]
noncomputable def z3_c56 : Code := .exit 2
noncomputable def z3_c55 : Code := .cond (.tmp 68) Code.skip z3_c56
noncomputable def z3_c53 : Code := .seq z3_c54 z3_c55
noncomputable def z3_c60 := sc Tryz.f3 [1,1,1,1,1,1,1,1,1,0,1,0,0,1,0,0,0]
noncomputable def z3_c63 := sc Tryz.f3 [1,1,1,1,1,1,1,1,1,0,1,0,0,1,0,0,1,0,0]
noncomputable def z3_c62 : Code := .seq z3_c63 Code.ret
noncomputable def z3_c61 : Code := .cond (.tmp 78) z3_c62 Code.skip
noncomputable def z3_c59 : Code := .seq z3_c60 z3_c61
noncomputable def z3_c58 : Code := .block 3 z3_c59
noncomputable def z3_c64 := sc Tryz.f3 [1,1,1,1,1,1,1,1,1,0,1,0,0,1,1]
noncomputable def z3_c57 : Code := .seq z3_c58 z3_c64
noncomputable def z3_c52 : Code := .seq z3_c53 z3_c57
noncomputable def z3_c51 : Code := .loop z3_c52
noncomputable def z3_c50 : Code := .block 2 z3_c51
noncomputable def z3_c48 : Code := .seq z3_c49 z3_c50
noncomputable def z3_c66 := sc Tryz.f3 [1,1,1,1,1,1,1,1,1,1,0]
noncomputable def z3_c69 := sc Tryz.f3 [1,1,1,1,1,1,1,1,1,1,1,0,0]
noncomputable def z3_c72 := sc Tryz.f3 [1,1,1,1,1,1,1,1,1,1,1,0,1,0,0]
noncomputable def z3_c71 : Code := .seq z3_c72 Code.ret
noncomputable def z3_c70 : Code := .cond (.tmp 85) z3_c71 Code.skip
noncomputable def z3_c68 : Code := .seq z3_c69 z3_c70
noncomputable def z3_c74 := sc Tryz.f3 [1,1,1,1,1,1,1,1,1,1,1,1,0]
noncomputable def z3_c76 := sc Tryz.f3 [1,1,1,1,1,1,1,1,1,1,1,1,1,0]
noncomputable def z3_c75 : Code := .seq z3_c76 Code.ret
noncomputable def z3_c73 : Code := .seq z3_c74 z3_c75
noncomputable def z3_c67 : Code := .seq z3_c68 z3_c73
noncomputable def z3_c65 : Code := .seq z3_c66 z3_c67
noncomputable def z3_c47 : Code := .seq z3_c48 z3_c65
noncomputable def z3_c41 : Code := .seq z3_c42 z3_c47
noncomputable def z3_c39 : Code := .seq z3_c40 z3_c41
noncomputable def z3_c33 : Code := .seq z3_c34 z3_c39
noncomputable def z3_c31 : Code := .seq z3_c32 z3_c33
noncomputable def z3_c13 : Code := .seq z3_c14 z3_c31
noncomputable def z3_c11 : Code := .seq z3_c12 z3_c13
noncomputable def z3_c5 : Code := .seq z3_c6 z3_c11
noncomputable def z3_c3 : Code := .seq z3_c4 z3_c5
noncomputable def z3_c1 : Code := .seq z3_c2 z3_c3
def z3_pi (i : Nat) : Pl := match i with
  | 24 => (ones [0, 1, 2, 3, 4, 5, 6, 7, 8, 9, 10, 11] .nil)
  | _ => .nil
noncomputable def z3_g77 (S : J2) (x0 x1 : Value) (H : Heap) : Prop :=
  S x0 x1 H
theorem z3_g77_e (S : J2) (x H) : WE z3_pi z3_c2 128 (fun l => S (gd l 0) (gd l 1)) x H = z3_g77 S (x 0) (x 1) H := by kernel_rfl
noncomputable def z3_g78 (S : J3) (x0 x1 : Value) (H : Heap) : Prop :=
  EvF P N.sounderref00_Bring #[x0, (.int .i64 40)] H fun v17 H1 =>
  bnd (binV .int .add (.int .i64 1) v17) fun v18 =>
  EvF P N.space_New #[v18] H1 fun v19 H2 =>
  bnd (exV 0 v19) fun v20 =>
  bnd (exV 1 v19) fun v21 =>
  S x1 v20 v21 H2
theorem z3_g78_e (S : J3) (x H) : WE z3_pi z3_c4 128 (fun l => S (gd l 1) (gd l 5) (gd l 6)) x H = z3_g78 S (x 0) (x 1) H := by kernel_rfl
noncomputable def z3_g79 (S : J3) (x1 x5 x6 : Value) (H : Heap) : Prop :=
  bnd (binV .int .neq x6 (.int .i64 0)) fun v23 =>
  S x1 x5 v23 H
theorem z3_g79_e (S : J3) (x H) : WE z3_pi z3_c7 128 (fun l => S (gd l 1) (gd l 5) (gd l 23)) x H = z3_g79 S (x 1) (x 5) (x 6) H := by kernel_rfl
noncomputable def z3_g80 (S : J1) (H : Heap) : Prop :=
  S (.bool false) H
theorem z3_g80_e (S : J1) (x H) : WE z3_pi z3_c10 128 (fun l => S (gd l 4)) x H = z3_g80 S  H := by kernel_rfl
noncomputable def z3_g81 (S : J2) (x1 x5 : Value) (H : Heap) : Prop :=
  bnd (buildV #[(.pointer none), (.slice none 0 0), (.slice none 0 0), (.slice none 0 0), (.int .i64 0), (.int .i64 0)] (places [(0, 1), (1, 1), (2, 1), (3, 1), (4, 1), (5, 1)]) [(0, x5)]) fun v25 =>
  newE 31 (Value.cells v25) H fun v26 H1 =>
  S x1 v26 H1
theorem z3_g81_e (S : J2) (x H) : WE z3_pi z3_c12 128 (fun l => S (gd l 1) (gd l 7)) x H = z3_g81 S (x 1) (x 5) H := by kernel_rfl
noncomputable def z3_g82 (S : J3) (x1 x7 : Value) (H : Heap) : Prop :=
  S x1 x7 (.int .i64 0) H
theorem z3_g82_e (S : J3) (x H) : WE z3_pi z3_c15 128 (fun l => S (gd l 1) (gd l 7) (gd l 8)) x H = z3_g82 S (x 1) (x 7) H := by kernel_rfl
noncomputable def z3_g84 (S : J4) (x1 x7 x8 : Value) (H : Heap) : Prop :=
  bnd (lenV x1) fun v29 =>
  bnd (binV .int .lss x8 v29) fun v30 =>
  brV v30
  (bnd (binV .int .lss x8 (.int .i64 60)) fun v33 =>
  S x1 x7 x8 v33 H)
  (S x1 x7 x8 (.bool false) H)
theorem z3_g84_e (S : J4) (x H) : WE z3_pi z3_c20 128 (fun l => S (gd l 1) (gd l 7) (gd l 8) (gd l 34)) x H = z3_g84 S (x 1) (x 7) (x 8) H := by kernel_rfl
noncomputable def z3_g85 (S : J4) (x1 x7 x8 : Value) (H : Heap) : Prop :=
  bnd (ixSV 5 x1 x8) fun v40 =>
  bnd (ldE true 5 v40 H) fun v41 =>
  EvF P N.sounderlaw17_run_step #[x7, v41] H fun v42 H1 =>
  bnd (unV .not v42) fun v43 =>
  S x1 x7 x8 v43 H1
theorem z3_g85_e (S : J4) (x H) : WE z3_pi z3_c26 128 (fun l => S (gd l 1) (gd l 7) (gd l 8) (gd l 43)) x H = z3_g85 S (x 1) (x 7) (x 8) H := by kernel_rfl
noncomputable def z3_g86 (S : J1) (H : Heap) : Prop :=
  S (.bool false) H
theorem z3_g86_e (S : J1) (x H) : WE z3_pi z3_c29 128 (fun l => S (gd l 4)) x H = z3_g86 S  H := by kernel_rfl
noncomputable def z3_g87 (S : J3) (x1 x7 x8 : Value) (H : Heap) : Prop :=
  bnd (binV .int .add x8 (.int .i64 1)) fun v36 =>
  S x1 x7 v36 H
theorem z3_g87_e (S : J3) (x H) : WE z3_pi z3_c30 128 (fun l => S (gd l 1) (gd l 7) (gd l 8)) x H = z3_g87 S (x 1) (x 7) (x 8) H := by kernel_rfl
noncomputable def z3_g88 (S : J2) (x7 : Value) (H : Heap) : Prop :=
  bnd (nilV x7) fun v45 =>
  bnd (faV 0 v45) fun v46 =>
  bnd (ldE false 1 v46 H) fun v47 =>
  EvF P N.space_Space_Greatest #[v47] H fun v48 H1 =>
  S x7 v48 H1
theorem z3_g88_e (S : J2) (x H) : WE z3_pi z3_c32 128 (fun l => S (gd l 7) (gd l 9)) x H = z3_g88 S (x 7) H := by kernel_rfl
noncomputable def z3_g89 (S : J3) (x7 x9 : Value) (H : Heap) : Prop :=
  bnd (buildV #[(.int .i64 0), (.int .i64 0), (.int .i64 0), (.int .i64 0), (.int .i64 0)] (places [(0, 1), (1, 1), (2, 3)]) [(0, (.int .i64 5))]) fun v50 =>
  EvF P N.sounderlaw17_run_step #[x7, v50] H fun v51 H1 =>
  bnd (unV .not v51) fun v52 =>
  S x7 x9 v52 H1
theorem z3_g89_e (S : J3) (x H) : WE z3_pi z3_c35 128 (fun l => S (gd l 7) (gd l 9) (gd l 52)) x H = z3_g89 S (x 7) (x 9) H := by kernel_rfl
noncomputable def z3_g90 (S : J1) (H : Heap) : Prop :=
  S (.bool false) H
theorem z3_g90_e (S : J1) (x H) : WE z3_pi z3_c38 128 (fun l => S (gd l 4)) x H = z3_g90 S  H := by kernel_rfl
noncomputable def z3_g91 (S : J3) (x7 x9 : Value) (H : Heap) : Prop :=
  bnd (nilV x7) fun v54 =>
  bnd (faV 0 v54) fun v55 =>
  bnd (ldE false 1 v55 H) fun v56 =>
  EvF P N.space_Space_All #[v56] H fun v57 H1 =>
  S x7 x9 v57 H1
theorem z3_g91_e (S : J3) (x H) : WE z3_pi z3_c40 128 (fun l => S (gd l 7) (gd l 9) (gd l 10)) x H = z3_g91 S (x 7) (x 9) H := by kernel_rfl
noncomputable def z3_g92 (S : J4) (x7 x9 x10 : Value) (H : Heap) : Prop :=
  bnd (nilV x7) fun v59 =>
  bnd (faV 0 v59) fun v60 =>
  bnd (ldE false 1 v60 H) fun v61 =>
  EvF P N.space_Space_Greatest #[v61] H fun v62 H1 =>
  bnd (binV .int .neq v62 x9) fun v64 =>
  S x7 x9 x10 v64 H1
theorem z3_g92_e (S : J4) (x H) : WE z3_pi z3_c43 128 (fun l => S (gd l 7) (gd l 9) (gd l 10) (gd l 64)) x H = z3_g92 S (x 7) (x 9) (x 10) H := by kernel_rfl
noncomputable def z3_g93 (S : J1) (H : Heap) : Prop :=
  S (.bool false) H
theorem z3_g93_e (S : J1) (x H) : WE z3_pi z3_c46 128 (fun l => S (gd l 4)) x H = z3_g93 S  H := by kernel_rfl
noncomputable def z3_g94 (S : J4) (x7 x9 x10 : Value) (H : Heap) : Prop :=
  S x7 x9 x10 (.int .i64 0) H
theorem z3_g94_e (S : J4) (x H) : WE z3_pi z3_c49 128 (fun l => S (gd l 7) (gd l 9) (gd l 10) (gd l 11)) x H = z3_g94 S (x 7) (x 9) (x 10) H := by kernel_rfl
noncomputable def z3_g96 (S : J5) (x7 x9 x10 x11 : Value) (H : Heap) : Prop :=
  bnd (lenV x10) fun v67 =>
  bnd (binV .int .lss x11 v67) fun v68 =>
  S x7 x9 x10 x11 v68 H
theorem z3_g96_e (S : J5) (x H) : WE z3_pi z3_c54 128 (fun l => S (gd l 7) (gd l 9) (gd l 10) (gd l 11) (gd l 68)) x H = z3_g96 S (x 7) (x 9) (x 10) (x 11) H := by kernel_rfl
noncomputable def z3_g97 (S : J5) (x7 x9 x10 x11 : Value) (H : Heap) : Prop :=
  bnd (ixSV 6 x10 x11) fun v73 =>
  bnd (faV 0 v73) fun v74 =>
  bnd (ldE false 1 v74 H) fun v75 =>
  bnd (binV .int .sub x9 (.int .i64 3)) fun v77 =>
  bnd (binV .int .leq v75 v77) fun v78 =>
  S x7 x9 x10 x11 v78 H
theorem z3_g97_e (S : J5) (x H) : WE z3_pi z3_c60 128 (fun l => S (gd l 7) (gd l 9) (gd l 10) (gd l 11) (gd l 78)) x H = z3_g97 S (x 7) (x 9) (x 10) (x 11) H := by kernel_rfl
noncomputable def z3_g98 (S : J1) (H : Heap) : Prop :=
  S (.bool false) H
theorem z3_g98_e (S : J1) (x H) : WE z3_pi z3_c63 128 (fun l => S (gd l 4)) x H = z3_g98 S  H := by kernel_rfl
noncomputable def z3_g99 (S : J4) (x7 x9 x10 x11 : Value) (H : Heap) : Prop :=
  bnd (binV .int .add x11 (.int .i64 1)) fun v70 =>
  S x7 x9 x10 v70 H
theorem z3_g99_e (S : J4) (x H) : WE z3_pi z3_c64 128 (fun l => S (gd l 7) (gd l 9) (gd l 10) (gd l 11)) x H = z3_g99 S (x 7) (x 9) (x 10) (x 11) H := by kernel_rfl
noncomputable def z3_g100 (S : J4) (x7 x9 x10 : Value) (H : Heap) : Prop :=
  bnd (nilV x7) fun v80 =>
  bnd (faV 0 v80) fun v81 =>
  bnd (ldE false 1 v81 H) fun v82 =>
  EvF P N.space_Space_Loss #[v82] H fun v83 H1 =>
  S x7 x9 x10 v83 H1
theorem z3_g100_e (S : J4) (x H) : WE z3_pi z3_c66 128 (fun l => S (gd l 7) (gd l 9) (gd l 10) (gd l 12)) x H = z3_g100 S (x 7) (x 9) (x 10) H := by kernel_rfl
noncomputable def z3_g101 (S : J5) (x7 x9 x10 x12 : Value) (H : Heap) : Prop :=
  bnd (binV .int .eql x12 (.int .i64 (-1))) fun v85 =>
  S x7 x9 x10 x12 v85 H
theorem z3_g101_e (S : J5) (x H) : WE z3_pi z3_c69 128 (fun l => S (gd l 7) (gd l 9) (gd l 10) (gd l 12) (gd l 85)) x H = z3_g101 S (x 7) (x 9) (x 10) (x 12) H := by kernel_rfl
noncomputable def z3_g102 (S : J1) (x9 x10 : Value) (H : Heap) : Prop :=
  bnd (lenV x10) fun v87 =>
  bnd (binV .int .eql v87 (.int .i64 0)) fun v88 =>
  brV v88
  (EvF P N.sounderlaw17_works #[] H fun v98 H1 =>
  S v98 H1)
  (bnd (ixSV 6 x10 (.int .i64 0)) fun v91 =>
  bnd (faV 0 v91) fun v92 =>
  bnd (ldE false 1 v92 H) fun v93 =>
  bnd (binV .int .gtr v93 x9) fun v95 =>
  brV v95
  (EvF P N.sounderlaw17_works #[] H fun v98_2 H2 =>
  S v98_2 H2)
  (S (.bool false) H))
theorem z3_g102_e (S : J1) (x H) : WE z3_pi z3_c72 128 (fun l => S (gd l 4)) x H = z3_g102 S (x 9) (x 10) H := by kernel_rfl
noncomputable def z3_g103 (S : J4) (x7 x12 : Value) (H : Heap) : Prop :=
  bnd (nilV x7) fun v102 =>
  bnd (faV 0 v102) fun v103 =>
  bnd (ldE false 1 v103 H) fun v104 =>
  EvF P N.sounderlaw17_steady #[] H fun v106 H1 =>
  ((bnd (ldE false 1 v103 H1) fun v' => v' = v104) ∧
  EvF P N.space_Space_Lose #[v104, x12, v106] H1 fun v107 H2 =>
  bnd (exV 0 v107) fun v108 =>
  bnd (exV 1 v107) fun v109 =>
  S x7 x12 v108 v109 H2)
theorem z3_g103_e (S : J4) (x H) : WE z3_pi z3_c74 128 (fun l => S (gd l 7) (gd l 12) (gd l 13) (gd l 14)) x H = z3_g103 S (x 7) (x 12) H := by kernel_rfl
noncomputable def z3_g104 (S : J1) (x7 x12 x13 x14 : Value) (H : Heap) : Prop :=
  bnd (nilV x7) fun v112 =>
  bnd (faV 5 v112) fun v113 =>
  bnd (ldE false 1 v113 H) fun v114 =>
  bnd (binV .int .gtr x12 v114) fun v115 =>
  brV v115
  (bnd (binV .int .eql x14 (.int .i64 0)) fun v118 =>
  brV v118
  (bnd (lenV x13) fun v122 =>
  bnd (binV .int .gtr v122 (.int .i64 0)) fun v123 =>
  brV v123
  (EvF P N.sounderlaw17_works #[] H fun v126 H1 =>
  S v126 H1)
  (S (.bool false) H))
  (S (.bool false) H))
  (S (.bool false) H)
theorem z3_g104_e (S : J1) (x H) : WE z3_pi z3_c76 128 (fun l => S (gd l 4)) x H = z3_g104 S (x 7) (x 12) (x 13) (x 14) H := by kernel_rfl
noncomputable def z3_s95 (x7 x9 x10 x11 : Value) (K2 : J4) (R : J1) (H : Heap) : Prop :=
  z3_g96 (fun x7 x9 x10 x11 x68 H => brV x68
  (z3_g97 (fun x7 x9 x10 x11 x78 H => brV x78
  (z3_g98 (fun x4 H => R x4 H) H)
  (z3_g99 (fun x7 x9 x10 x11 H => K2 x7 x9 x10 x11 H) x7 x9 x10 x11 H)) x7 x9 x10 x11 H)
  (z3_g100 (fun x7 x9 x10 x12 H => z3_g101 (fun x7 x9 x10 x12 x85 H => brV x85
  (z3_g102 (fun x4 H => R x4 H) x9 x10 H)
  (z3_g103 (fun x7 x12 x13 x14 H => z3_g104 (fun x4 H => R x4 H) x7 x12 x13 x14 H) x7 x12 H)) x7 x9 x10 x12 H) x7 x9 x10 H)) x7 x9 x10 x11 H
noncomputable def z3_q105 (R : J1) : JQ := (retQ tab z3_rs R)
noncomputable def z3_q106 (R : J1) : JQ := (thenE (fun l H => wpE tab P z3_pi z3_c65 (z3_q105 R) l H) (z3_q105 R))
noncomputable def z3_q107 (R : J1) : JQ := (blkE 2 (z3_q106 R))
noncomputable def z3_q108 (K2 : J4) (R : J1) : JQ := (thenE (fun l H => K2 (gd l 7) (gd l 9) (gd l 10) (gd l 11) H) (z3_q107 R))
theorem z3_s95_i (K2 : J4) (R : J1) (l : List Value) (H : Heap) (hl : l.length = 128) (h : z3_s95 (gd l 7) (gd l 9) (gd l 10) (gd l 11) K2 R H) : wpE tab P z3_pi z3_c52 (z3_q108 K2 R) l H := sq rfl <| sr rfl hl (z3_g96_e _ (gd l) _) h fun l H hl h => cd rfl h (fun h => kN rfl <| sq rfl <| bl rfl <| sr rfl hl (z3_g97_e _ (gd l) _) h fun l H hl h => cd rfl h (fun h => sr rfl hl (z3_g98_e _ (gd l) _) h fun l H hl h => rt rfl h) fun h => sk rfl <| bN <| tN <| rj hl (z3_g99_e _ (gd l) _) h fun l H hl h => tN <| h) fun h => ex rfl <| tX <| tX <| bX <| tN <| sr rfl hl (z3_g100_e _ (gd l) _) h fun l H hl h => sq rfl <| sr rfl hl (z3_g101_e _ (gd l) _) h fun l H hl h => cd rfl h (fun h => sr rfl hl (z3_g102_e _ (gd l) _) h fun l H hl h => rt rfl h) fun h => kN rfl <| sr rfl hl (z3_g103_e _ (gd l) _) h fun l H hl h => sr rfl hl (z3_g104_e _ (gd l) _) h fun l H hl h => rt rfl h
noncomputable def z3_l109 (x7 x9 x10 x11 : Value) (R : J1) (H : Heap) : Prop :=
  ∃ (I : J1) (μ : M1), I x11 H ∧ ∀ (y11 : Value) (H : Heap), I y11 H → z3_s95 x7 x9 x10 y11 (fun z7 z9 z10 z11 H' => z7 = x7 ∧ z9 = x9 ∧ z10 = x10 ∧ (I z11 H' ∧ μ z11 H' < μ y11 H)) R H
noncomputable def z3_s83 (x1 x7 x8 : Value) (K1 : J3) (R : J1) (H : Heap) : Prop :=
  z3_g84 (fun x1 x7 x8 x34 H => brV x34
  (z3_g85 (fun x1 x7 x8 x43 H => brV x43
  (z3_g86 (fun x4 H => R x4 H) H)
  (z3_g87 (fun x1 x7 x8 H => K1 x1 x7 x8 H) x1 x7 x8 H)) x1 x7 x8 H)
  (z3_g88 (fun x7 x9 H => z3_g89 (fun x7 x9 x52 H => brV x52
  (z3_g90 (fun x4 H => R x4 H) H)
  (z3_g91 (fun x7 x9 x10 H => z3_g92 (fun x7 x9 x10 x64 H => brV x64
  (z3_g93 (fun x4 H => R x4 H) H)
  (z3_g94 (fun x7 x9 x10 x11 H => z3_l109 x7 x9 x10 x11 R H) x7 x9 x10 H)) x7 x9 x10 H) x7 x9 H)) x7 x9 H) x7 H)) x1 x7 x8 H
noncomputable def z3_q110 (R : J1) : JQ := (thenE (fun l H => wpE tab P z3_pi z3_c31 (z3_q105 R) l H) (z3_q105 R))
noncomputable def z3_q111 (R : J1) : JQ := (blkE 0 (z3_q110 R))
noncomputable def z3_q112 (K1 : J3) (R : J1) : JQ := (thenE (fun l H => K1 (gd l 1) (gd l 7) (gd l 8) H) (z3_q111 R))
theorem z3_s83_i (K1 : J3) (R : J1) (l : List Value) (H : Heap) (hl : l.length = 128) (h : z3_s83 (gd l 1) (gd l 7) (gd l 8) K1 R H) : wpE tab P z3_pi z3_c18 (z3_q112 K1 R) l H := sq rfl <| sr rfl hl (z3_g84_e _ (gd l) _) h fun l H hl h => cd rfl h (fun h => kN rfl <| sq rfl <| bl rfl <| sr rfl hl (z3_g85_e _ (gd l) _) h fun l H hl h => cd rfl h (fun h => sr rfl hl (z3_g86_e _ (gd l) _) h fun l H hl h => rt rfl h) fun h => sk rfl <| bN <| tN <| rj hl (z3_g87_e _ (gd l) _) h fun l H hl h => tN <| h) fun h => ex rfl <| tX <| tX <| bX <| tN <| sr rfl hl (z3_g88_e _ (gd l) _) h fun l H hl h => sq rfl <| sr rfl hl (z3_g89_e _ (gd l) _) h fun l H hl h => cd rfl h (fun h => sr rfl hl (z3_g90_e _ (gd l) _) h fun l H hl h => rt rfl h) fun h => kN rfl <| sr rfl hl (z3_g91_e _ (gd l) _) h fun l H hl h => sq rfl <| sr rfl hl (z3_g92_e _ (gd l) _) h fun l H hl h => cd rfl h (fun h => sr rfl hl (z3_g93_e _ (gd l) _) h fun l H hl h => rt rfl h) fun h => kN rfl <| sq rfl <| sr rfl hl (z3_g94_e _ (gd l) _) h fun l H hl h => bl rfl <| (by
    obtain ⟨I, μ, h0, hr⟩ := h
    refine loopI (c := z3_c51) rfl (fun l' H' => gd l' 7 = gd l 7 ∧ gd l' 9 = gd l 9 ∧ gd l' 10 = gd l 10 ∧ I (gd l' 11) H') (fun l' H' => μ (gd l' 11) H') hl ⟨rfl, rfl, rfl, h0⟩ ?_
    rintro l1 H1 hl1 ⟨e7, e9, e10, hI⟩
    have hb := hr (gd l1 11) H1 hI
    rw [← e7, ← e9, ← e10] at hb
    refine wpE_mono _ l1 H1 hl1 ?_ (z3_s95_i _ R l1 H1 hl1 hb)
    intro e l2 H2 hl2 hq
    cases e with
    | normal => exact fun _ => (by obtain ⟨d7, d9, d10, g1, g2⟩ := hq; exact ⟨⟨d7.trans e7, d9.trans e9, d10.trans e10, g1⟩, g2⟩)
    | _ => exact hq)
noncomputable def z3_l113 (x1 x7 x8 : Value) (R : J1) (H : Heap) : Prop :=
  ∃ (I : J1) (μ : M1), I x8 H ∧ ∀ (y8 : Value) (H : Heap), I y8 H → z3_s83 x1 x7 y8 (fun z1 z7 z8 H' => z1 = x1 ∧ z7 = x7 ∧ (I z8 H' ∧ μ z8 H' < μ y8 H)) R H
def sounderlaw17_SpaceBehind (x0 x1 : Value) (R : Value → Heap → Prop) (H : Heap) : Prop :=
  z3_g77 (fun x0 x1 H => z3_g78 (fun x1 x5 x6 H => z3_g79 (fun x1 x5 x23 H => brV x23
  (z3_g80 (fun x4 H => R x4 H) H)
  (z3_g81 (fun x1 x7 H => z3_g82 (fun x1 x7 x8 H => z3_l113 x1 x7 x8 R H) x1 x7 H) x1 x5 H)) x1 x5 x6 H) x0 x1 H) x0 x1 H
theorem z3_ev0 (x0 x1 : Value) (R : J1) (H : Heap) (h : sounderlaw17_SpaceBehind x0 x1 R H) : EvL P N.sounderlaw17_SpaceBehind #[x0, x1] H R := EvF_intro (args := [x0, x1]) (k := 126) (rs := z3_rs) tab_ok mixed Tryz.func3 (show Tryz.f3.body = some z3_c1 by kernel_rfl) Tryz.call3 Tryz.ntmps3 (by kernel_rfl) (okCode_of _ (show okB z3_pi z3_c1 = true by kernel_rfl)) (fr_eq _ _) (fj (n := 128) rfl (fun l hl (h : sounderlaw17_SpaceBehind (gd l 0) (gd l 1) R H) => sr rfl hl (z3_g77_e _ (gd l) _) h fun l H hl h => sr rfl hl (z3_g78_e _ (gd l) _) h fun l H hl h => sq rfl <| sr rfl hl (z3_g79_e _ (gd l) _) h fun l H hl h => cd rfl h (fun h => sr rfl hl (z3_g80_e _ (gd l) _) h fun l H hl h => rt rfl h) fun h => kN rfl <| sr rfl hl (z3_g81_e _ (gd l) _) h fun l H hl h => sq rfl <| sr rfl hl (z3_g82_e _ (gd l) _) h fun l H hl h => bl rfl <| (by
    obtain ⟨I, μ, h0, hr⟩ := h
    refine loopI (c := z3_c17) rfl (fun l' H' => gd l' 1 = gd l 1 ∧ gd l' 7 = gd l 7 ∧ I (gd l' 8) H') (fun l' H' => μ (gd l' 8) H') hl ⟨rfl, rfl, h0⟩ ?_
    rintro l1 H1 hl1 ⟨e1, e7, hI⟩
    have hb := hr (gd l1 8) H1 hI
    rw [← e1, ← e7] at hb
    refine wpE_mono _ l1 H1 hl1 ?_ (z3_s83_i _ R l1 H1 hl1 hb)
    intro e l2 H2 hl2 hq
    cases e with
    | normal => exact fun _ => (by obtain ⟨d1, d7, g1, g2⟩ := hq; exact ⟨⟨d1.trans e1, d7.trans e7, g1⟩, g2⟩)
    | _ => exact hq)) h)
theorem z3_ev (x0 x1 : Value) (R : J1) (H : Heap) (h : sounderlaw17_SpaceBehind x0 x1 R H) : EvF P N.sounderlaw17_SpaceBehind #[x0, x1] H R := .inl (z3_ev0 x0 x1 R H h)
end Go.Hc
set_option linter.unusedSimpArgs false
set_option linter.unusedVariables false
namespace Go.Hc
open Go

theorem lossAt_spec {gr now w : Int} : ∀ (L : List Pkt) (a0 : Int), (∀ p ∈ L, 0 ≤ dueP w p) → (L.foldl (stepAt gr now w) a0 = a0 ∨ ∃ p ∈ L, lostP gr now w p = false ∧ p.num ≤ gr ∧ L.foldl (stepAt gr now w) a0 = dueP w p) ∧
    (L.foldl (stepAt gr now w) a0 = -1 → a0 = -1 ∧ ∀ p ∈ L, lostP gr now w p = false → gr < p.num)
  | [], a0, _ => ⟨.inl rfl, fun h => ⟨h, by simp⟩⟩
  | q :: L, a0, hd => by
    have ih := lossAt_spec (gr := gr) (now := now) (w := w) L (stepAt gr now w a0 q) fun p hp => hd p (by simp [hp])
    have hq := hd q (by simp)
    simp only [List.foldl_cons]
    have hst : (stepAt gr now w a0 q = a0 ∧ (lostP gr now w q = false → a0 = -1 → gr < q.num)) ∨ (stepAt gr now w a0 q = dueP w q ∧ lostP gr now w q = false ∧ q.num ≤ gr) := by
      unfold stepAt
      by_cases h1 : lostP gr now w q = true
      · rw [if_pos h1]; exact .inl ⟨rfl, fun h => by rw [h1] at h; cases h⟩
      · rw [if_neg h1]
        by_cases h2 : q.num ≤ gr ∧ (a0 = -1 ∨ dueP w q < a0)
        · rw [if_pos h2]; exact .inr ⟨rfl, by simpa using h1, h2.1⟩
        · rw [if_neg h2]; exact .inl ⟨rfl, fun _ e => by omega⟩
    refine ⟨?_, fun h => ?_⟩
    · rcases ih.1 with e | ⟨p, hp, h1, h2, h3⟩
      · rcases hst with ⟨e2, _⟩ | ⟨e2, h1, h2⟩
        · exact .inl (by rw [e, e2])
        · exact .inr ⟨q, by simp, h1, h2, by rw [e, e2]⟩
      · exact .inr ⟨p, by simp [hp], h1, h2, h3⟩
    · obtain ⟨h1, h2⟩ := ih.2 h
      rcases hst with ⟨e2, h3⟩ | ⟨e2, h3, h4⟩
      · rw [e2] at h1
        refine ⟨h1, fun p hp hl => ?_⟩
        rcases List.mem_cons.1 hp with rfl | hp
        · exact h3 hl h1
        · exact h2 p hp hl
      · rw [e2] at h1; omega
def y5 : Fin 5 → Int := fun i => if i = 0 then 5 else 0
theorem y5_b : buildV #[(.int .i64 0), (.int .i64 0), (.int .i64 0), (.int .i64 0), (.int .i64 0)] (places [(0, 1), (1, 1), (2, 3)]) [(0, (.int .i64 5))] = some (.agg ((intsE 5).c y5)) := by rw [ints5]; rfl
set_option maxHeartbeats 1000000 in
theorem Behind17_ev {H : Heap} {v : Value} {room : Int} {l : List (Fin 5 → Int)} {R : Value → Heap → Prop} (hroom : In64 room) (hv : ShowA (intsE 5) H v l) (hin : ∀ y ∈ l, ∀ i, In64 (y i)) (hR : ∀ H', Ext [] H H' → R (.bool true) H') : EvL P N.sounderlaw17_SpaceBehind #[iv room, v] H R := by
  refine z3_ev0 _ _ _ _ ?_
  simp only [sounderlaw17_SpaceBehind, z3_g77, z3_g78]
  refine Bring_ev hroom (by omega) ?_
  have hb := bring_r (i := room) (n := 40) (by omega)
  have w1 : IntKind.i64.wrap (1 + bring room 40) = 1 + bring room 40 := wrap_in (by omega)
  try simp only [ew, Nat.reduceAdd, Nat.reduceMul, Nat.reduceLeDiff, Int.reduceBNe, Int.reduceBEq, Int.reduceLT, Int.reduceLE, bin_add, w1]
  refine spNew_sep (Sep.nil H) (fun hbad => absurd ⟨by omega, by omega⟩ hbad) fun rm s K1 hr _ _ h => ?_
  have e0 : ((0 : Int) != 0) = false := rfl
  try simp only [ew, Nat.reduceAdd, Nat.reduceMul, Nat.reduceLeDiff, Int.reduceBNe, Int.reduceBEq, Int.reduceLT, Int.reduceLE, z3_g79]
  try simp only [ew, Nat.reduceAdd, Nat.reduceMul, Nat.reduceLeDiff, Int.reduceBNe, Int.reduceBEq, Int.reduceLT, Int.reduceLE, e0, z3_g81]
  try simp only [ew, Nat.reduceAdd, Nat.reduceMul, Nat.reduceLeDiff, Int.reduceBNe, Int.reduceBEq, Int.reduceLT, Int.reduceLE, run_build]
  generalize hK2 : newB K1 _ _ = K2
  have h2 := run_new (t := 31) h
  rw [hK2] at h2
  obtain ⟨b, hbb⟩ : ∃ b, b = K1.size := ⟨_, rfl⟩
  rw [← hbb] at h2 ⊢
  simp only [z3_g82, z3_l113]
  have hsm := hv.small
  refine ⟨fun x K => ∃ (i : Nat) (r : Rn), x = iv i ∧ i ≤ 60 ∧ i ≤ l.length ∧ Inv r [] i i ∧ Sep H K [runA b r], fun x _ => (match x with | .int _ i => (60 - i).toNat | _ => 0), ⟨0, rn0 rm, rfl, by omega, by omega, inv0 rm, h2⟩, ?_⟩
  clear h h2 hK2
  rintro x K ⟨i, r, rfl, hi60, hil, hI, h⟩
  have hvK := hv.ext h.only
  simp only [z3_s83, z3_g84]
  try simp only [ew, Nat.reduceAdd, Nat.reduceMul, Nat.reduceLeDiff, Int.reduceBNe, Int.reduceBEq, Int.reduceLT, Int.reduceLE, hvK.len]
  have nb : ∀ a : Int, (a != a) = false := fun a => by simp
  -- behind the steps
  have second : z3_g88 (fun x7 x9 H => z3_g89 (fun x7 x9 x52 H => brV x52
  (z3_g90 (fun x4 H => R x4 H) H)
  (z3_g91 (fun x7 x9 x10 H => z3_g92 (fun x7 x9 x10 x64 H => brV x64
  (z3_g93 (fun x4 H => R x4 H) H)
  (z3_g94 (fun x7 x9 x10 x11 H => z3_l109 x7 x9 x10 x11 R H) x7 x9 x10 H)) x7 x9 x10 H) x7 x9 H)) x7 x9 H) (ptr b) K := by
    obtain ⟨s, l0, vs, va, vl, ho⟩ := run_s h
    simp only [z3_g88]
    try simp only [ew, Nat.reduceAdd, Nat.reduceMul, Nat.reduceLeDiff, Int.reduceBNe, Int.reduceBEq, Int.reduceLT, Int.reduceLE, l0]
    refine Greatest_sp ho.b1 fun K1 h1 => ?_
    have h1 := runClose h1.b1
    simp only [z3_g89]
    simp only [y5_b, bnd_some]
    refine step_sep h1 (fun i => by unfold y5 In64; split <;> omega) hI (by omega) fun K2 r1 hI1 hrel h2 => ?_
    obtain ⟨hnow, hs⟩ := hrel.2 (by decide)
    clear h1 ho l0
    obtain ⟨s, l0, vs, va, vl, ho⟩ := run_s h2
    -- what is there
    have hmay0 : RiseL r1.s.L ∧ _ := sp_mayL ho.b1
    have hb1 : ∀ p ∈ r1.s.L, p ∈ r.s.L ∧ lostP r.s.gr r1.now 1000000 p = false := fun p hp => by
      rw [hs] at hp
      have := List.mem_filter.1 hp
      exact ⟨this.1, by simpa using this.2⟩
    have hgr : r1.s.gr = r.s.gr := by rw [hs]; rfl
    have hlo : r1.s.lo = lossAt r.s.gr r1.now 1000000 r.s.L := by rw [hs]; rfl
    have hn1 := hI1.now
    have hn0 := hI.now
    have hnow' : r1.now = r.now := by
      rw [hnow, show bring (y5 1) 1073741824 = 0 from by decide]
      exact Int.add_zero _
    have htime : ∀ p ∈ r.s.L, 0 ≤ p.time ∧ p.time + 1000000 ≤ 9007199254740991 := fun p hp => by have := hI.time p hp; omega
    have hdue : ∀ p ∈ r.s.L, dueP 1000000 p = p.time + 1000000 := fun p hp => by have := htime p hp; unfold dueP; omega
    have spec := lossAt_spec (gr := r.s.gr) (now := r1.now) (w := 1000000) r.s.L (-1) fun p hp => by rw [hdue p hp]; have := htime p hp; omega
    have hge : ∀ p ∈ r1.s.L, ¬ p.num ≤ r.s.gr - 3 := fun p hp hle => by
      have := (hb1 p hp).2
      unfold lostP at this
      rw [decide_eq_true (show p.num ≤ r.s.gr by omega), decide_eq_true (show 3 ≤ r.s.gr - p.num by omega)] at this
      simp at this
    have hgb : -1 ≤ r.s.gr ∧ r.s.gr ≤ 1000000 := by
      rcases hI.gr with e | e
      · omega
      · have := hI.bd (by omega) _ e; omega
    try simp only [ew, Nat.reduceAdd, Nat.reduceMul, Nat.reduceLeDiff, Int.reduceBNe, Int.reduceBEq, Int.reduceLT, Int.reduceLE, z3_g91]
    try simp only [ew, Nat.reduceAdd, Nat.reduceMul, Nat.reduceLeDiff, Int.reduceBNe, Int.reduceBEq, Int.reduceLT, Int.reduceLE, l0]
    refine All_sp ho.b1 fun K3 w h3 => ?_
    -- w, s, b, vs, va, vl
    have l0 : ldE false 1 (.pointer (some ⟨b, 0, none⟩)) K3 = some (ptr s) := ld_ptr (own_blk h3.b2.cells) runC_0
    simp only [z3_g92]
    try simp only [ew, Nat.reduceAdd, Nat.reduceMul, Nat.reduceLeDiff, Int.reduceBNe, Int.reduceBEq, Int.reduceLT, Int.reduceLE, l0]
    refine Greatest_sp h3.b1 fun K4 h4 => ?_
    -- s, w, b
    rw [hgr]
    try simp only [ew, Nat.reduceAdd, Nat.reduceMul, Nat.reduceLeDiff, Int.reduceBNe, Int.reduceBEq, Int.reduceLT, Int.reduceLE, nb, z3_g94, z3_l109]
    refine ⟨fun x K => K = K4 ∧ ∃ k : Nat, x = iv k ∧ k ≤ r1.s.L.length, fun x _ => (match x with | .int _ k => (r1.s.L.length - k).toNat | _ => 0), ⟨rfl, 0, rfl, by omega⟩, ?_⟩
    rintro x K ⟨rfl, k, rfl, hk⟩
    have hw := h4.b1.shP
    have hwsm := hw.small
    simp only [z3_s95, z3_g96]
    try simp only [ew, Nat.reduceAdd, Nat.reduceMul, Nat.reduceLeDiff, Int.reduceBNe, Int.reduceBEq, Int.reduceLT, Int.reduceLE, hw.len]
    refine brV_d (fun hlt => ?_) (fun hge2 => ?_)
    · have hk' : k < r1.s.L.length := by omega
      obtain ⟨b6, o6, j1, j2, _⟩ := hw.at6 hk' (rfl : (k : Int) = k)
      have w3 : IntKind.i64.wrap (r.s.gr - 3) = r.s.gr - 3 := wrap_in (by omega)
      have w4 : IntKind.i64.wrap ((k : Int) + 1) = ((k + 1 : Nat) : Int) := by rw [wrap_in (by omega)]; omega
      simp only [z3_g97]
      try simp only [ew, Nat.reduceAdd, Nat.reduceMul, Nat.reduceLeDiff, Int.reduceBNe, Int.reduceBEq, Int.reduceLT, Int.reduceLE, j1, j2, bin_sub, w3]
      rw [decide_eq_false (hge _ (List.getElem_mem hk'))]
      try simp only [ew, Nat.reduceAdd, Nat.reduceMul, Nat.reduceLeDiff, Int.reduceBNe, Int.reduceBEq, Int.reduceLT, Int.reduceLE, z3_g99]
      try simp only [ew, Nat.reduceAdd, Nat.reduceMul, Nat.reduceLeDiff, Int.reduceBNe, Int.reduceBEq, Int.reduceLT, Int.reduceLE, bin_add, w4]
      exact ⟨⟨k + 1, rfl, by omega⟩, by show _ < _; omega⟩
    · have l0 : ldE false 1 (.pointer (some ⟨b, 0, none⟩)) K = some (ptr s) := ld_ptr (own_blk h4.b2.cells) runC_0
      simp only [z3_g100]
      try simp only [ew, Nat.reduceAdd, Nat.reduceMul, Nat.reduceLeDiff, Int.reduceBNe, Int.reduceBEq, Int.reduceLT, Int.reduceLE, l0]
      refine Loss_sp h4 fun K5 h5 => ?_
      rw [hlo]
      simp only [z3_g101]
      try simp only [ew, Nat.reduceAdd, Nat.reduceMul, Nat.reduceLeDiff, Int.reduceBNe, Int.reduceBEq, Int.reduceLT, Int.reduceLE]
      have fin : ∀ K {Q : List Asr}, Sep H K Q → EvF P N.sounderlaw17_works #[] K fun v98 H1 => R v98 H1 := fun K _ h => works17_ev h fun K h => hR K h.only
      have hw5 := h5.b1.shP
      refine brV_i (fun hat => ?_) (fun hat => ?_)
      · have hat' : lossAt r.s.gr r1.now 1000000 r.s.L = -1 := by simpa using hat
        have hall := (spec.2 hat').2
        simp only [z3_g102]
        try simp only [ew, Nat.reduceAdd, Nat.reduceMul, Nat.reduceLeDiff, Int.reduceBNe, Int.reduceBEq, Int.reduceLT, Int.reduceLE, hw5.len]
        refine brV_i (fun _ => fin K5 h5) (fun hne => ?_)
        have hpos : 0 < r1.s.L.length := by have : (r1.s.L.length : Int) ≠ 0 := by simpa using hne
                                            omega
        obtain ⟨b6, o6, j1, j2, _⟩ := hw5.at6 hpos (rfl : (0 : Int) = (0 : Nat))
        have hm := hb1 _ (List.getElem_mem hpos)
        try simp only [ew, Nat.reduceAdd, Nat.reduceMul, Nat.reduceLeDiff, Int.reduceBNe, Int.reduceBEq, Int.reduceLT, Int.reduceLE, j1, j2]
        rw [decide_eq_true (hall _ hm.1 hm.2)]
        try simp only [ew, Nat.reduceAdd, Nat.reduceMul, Nat.reduceLeDiff, Int.reduceBNe, Int.reduceBEq, Int.reduceLT, Int.reduceLE]
        exact fin K5 h5
      · have hat' : lossAt r.s.gr r1.now 1000000 r.s.L ≠ -1 := by simpa using hat
        obtain ⟨p, hp, hpl, hpg, hpe⟩ : ∃ p ∈ r.s.L, lostP r.s.gr r1.now 1000000 p = false ∧ p.num ≤ r.s.gr ∧ lossAt r.s.gr r1.now 1000000 r.s.L = dueP 1000000 p := by
          rcases spec.1 with e | e
          · exact absurd e hat'
          · exact e
        rw [hdue p hp] at hpe
        have hpt := htime p hp
        have hlate : r1.now < p.time + 1000000 := by
          unfold lostP at hpl
          rw [decide_eq_true hpg, Bool.true_and] at hpl
          simp at hpl; omega
        obtain ⟨at_, hatq⟩ : ∃ a, a = lossAt r.s.gr r1.now 1000000 r.s.L := ⟨_, rfl⟩
        rw [← hatq] at hpe hat' ⊢
        have hp1 : p ∈ r1.s.L := by rw [hs]; exact List.mem_filter.2 ⟨hp, by simp [hpl]⟩
        have hmay := sp_mayL h5
        have hF : findE r1.s.L r1.s.gr at_ stdy = 0 := by
          unfold findE
          have hle := hmay.2.2.1
          have hle2 := hmay.2.2.2.2
          rw [if_neg (by rw [checkE_rise hmay.1 (fun p hp => (hmay.2.1 p hp).1) (by omega)]; simp), if_neg (by unfold badT; rw [hgr]; omega), if_pos stdy_ok]
        have hlostp : p ∈ r1.s.L.filter (lostP r1.s.gr at_ 1000000) := by
          refine List.mem_filter.2 ⟨hp1, ?_⟩
          unfold lostP
          rw [hgr, decide_eq_true hpg, decide_eq_true (show p.time + 1000000 ≤ at_ by omega)]
          simp
        have hlenp := List.length_pos_of_mem hlostp
        have l0 : ldE false 1 (.pointer (some ⟨b, 0, none⟩)) K5 = some (ptr s) := ld_ptr (own_blk h5.b2.cells) runC_0
        simp only [z3_g103]
        try simp only [ew, Nat.reduceAdd, Nat.reduceMul, Nat.reduceLeDiff, Int.reduceBNe, Int.reduceBEq, Int.reduceLT, Int.reduceLE, l0]
        refine steady_sep h5 fun K6 h6 => ?_
        have l0 : ldE false 1 (.pointer (some ⟨b, 0, none⟩)) K6 = some (ptr s) := ld_ptr (own_blk h6.b2.cells) runC_0
        try simp only [ew, Nat.reduceAdd, Nat.reduceMul, Nat.reduceLeDiff, Int.reduceBNe, Int.reduceBEq, Int.reduceLT, Int.reduceLE, l0]
        refine Lose_sp h6 stdy_in (fun e => absurd hF e) (fun _ K7 u h7 => ?_)
        rw [stdy_w] at h7
        -- u, s, w, b
        have l5 : ldE false 1 (.pointer (some ⟨b, 5, none⟩)) K7 = some (iv r1.now) := ld_ptr (own_blk h7.b3.cells) runC_5
        have e00 : ((0 : Int) == 0) = true := rfl
        try simp only [ew, Nat.reduceAdd, Nat.reduceMul, Nat.reduceLeDiff, Int.reduceBNe, Int.reduceBEq, Int.reduceLT, Int.reduceLE, z3_g104]
        try simp only [ew, Nat.reduceAdd, Nat.reduceMul, Nat.reduceLeDiff, Int.reduceBNe, Int.reduceBEq, Int.reduceLT, Int.reduceLE, l5]
        rw [decide_eq_true (show r1.now < at_ by omega)]
        try simp only [ew, Nat.reduceAdd, Nat.reduceMul, Nat.reduceLeDiff, Int.reduceBNe, Int.reduceBEq, Int.reduceLT, Int.reduceLE, e00, h7.shP.len]
        rw [decide_eq_true (show (0 : Int) < ((r1.s.L.filter (lostP r1.s.gr at_ 1000000)).length : Int) by omega)]
        try simp only [ew, Nat.reduceAdd, Nat.reduceMul, Nat.reduceLeDiff, Int.reduceBNe, Int.reduceBEq, Int.reduceLT, Int.reduceLE]
        exact works17_ev h7 fun K h => hR K h.only
  refine brV_d (fun hlt => ?_) (fun hge => second)
  try simp only [ew, Nat.reduceAdd, Nat.reduceMul, Nat.reduceLeDiff, Int.reduceBNe, Int.reduceBEq, Int.reduceLT, Int.reduceLE]
  refine brV_d (fun hlt2 => ?_) (fun hge => second)
  clear second
  have hi' : i < l.length := by omega
  have w4 : IntKind.i64.wrap ((i : Int) + 1) = ((i + 1 : Nat) : Int) := by rw [wrap_in (by omega)]; omega
  obtain ⟨bb, o, i1, i2⟩ := step_read hvK hi'
  simp only [z3_g85]
  try simp only [ew, Nat.reduceAdd, Nat.reduceMul, Nat.reduceLeDiff, Int.reduceBNe, Int.reduceBEq, Int.reduceLT, Int.reduceLE, i1, i2]
  refine step_sep h (hin _ (List.getElem_mem hi')) hI (by omega) fun K1 r1 hI1 _ h1 => ?_
  try simp only [ew, Nat.reduceAdd, Nat.reduceMul, Nat.reduceLeDiff, Int.reduceBNe, Int.reduceBEq, Int.reduceLT, Int.reduceLE, z3_g87]
  try simp only [ew, Nat.reduceAdd, Nat.reduceMul, Nat.reduceLeDiff, Int.reduceBNe, Int.reduceBEq, Int.reduceLT, Int.reduceLE, bin_add, w4]
  exact ⟨⟨i + 1, r1, rfl, by omega, by omega, hI1, h1⟩, by show _ < _; omega⟩
end Go.Hc
