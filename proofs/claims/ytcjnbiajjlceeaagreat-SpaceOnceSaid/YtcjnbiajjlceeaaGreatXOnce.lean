/- SpaceOnce: each number is answered once at most. -/
import Derived.Test.YtcjnbiajjlceeaaGreatX19
set_option maxRecDepth 100000
set_option linter.unusedSimpArgs false
set_option linter.unusedVariables false
namespace Go.Hc
open Go Go.Proofs
/- 6: sounder/sounderlaw17.SpaceOnce -/
def z6_rs : List ResultVar := [.tmp 4]
noncomputable def z6_c2 := sc Tryz.f6 [0]
noncomputable def z6_c5 := sc Tryz.f6 [1,0,0]
noncomputable def z6_c8 := sc Tryz.f6 [1,0,1,0,0]
noncomputable def z6_c7 : Code := .seq z6_c8 Code.ret
noncomputable def z6_c6 : Code := .cond (.tmp 14) z6_c7 Code.skip
noncomputable def z6_c4 : Code := .seq z6_c5 z6_c6
noncomputable def z6_c10 := sc Tryz.f6 [1,1,0]
noncomputable def z6_c13 := sc Tryz.f6 [1,1,1,0,0]
noncomputable def z6_c16 := sc Tryz.f6 [1,1,1,0,1,0,0]
noncomputable def z6_c15 : Code := .seq z6_c16 Code.ret
noncomputable def z6_c14 : Code := .cond (.tmp 23) z6_c15 Code.skip
noncomputable def z6_c12 : Code := .seq z6_c13 z6_c14
noncomputable def z6_c18 := sc Tryz.f6 [1,1,1,1,0]
noncomputable def z6_c21 := sc Tryz.f6 [1,1,1,1,1,0,0]
noncomputable def z6_c26 := sc Tryz.f6 [1,1,1,1,1,0,1,0,0,0,0]
noncomputable def z6_c28 : Code := .exit 0
noncomputable def z6_c27 : Code := .cond (.tmp 34) Code.skip z6_c28
noncomputable def z6_c25 : Code := .seq z6_c26 z6_c27
noncomputable def z6_c33 := sc Tryz.f6 [1,1,1,1,1,0,1,0,0,1,0,0,0,0]
noncomputable def z6_c36 := sc Tryz.f6 [1,1,1,1,1,0,1,0,0,1,0,0,0,1,0,0]
noncomputable def z6_c35 : Code := .seq z6_c36 Code.ret
noncomputable def z6_c34 : Code := .cond (.tmp 43) z6_c35 Code.skip
noncomputable def z6_c32 : Code := .seq z6_c33 z6_c34
noncomputable def z6_c38 := sc Tryz.f6 [1,1,1,1,1,0,1,0,0,1,0,0,1,0]
noncomputable def z6_c40 := sc Tryz.f6 [1,1,1,1,1,0,1,0,0,1,0,0,1,1,0]
noncomputable def z6_c43 := sc Tryz.f6 [1,1,1,1,1,0,1,0,0,1,0,0,1,1,1,0,0]
noncomputable def z6_c48 := sc Tryz.f6 [1,1,1,1,1,0,1,0,0,1,0,0,1,1,1,0,1,0,0,0,0]
noncomputable def z6_c50 : Code := .exit 2
noncomputable def z6_c49 : Code := .cond (.tmp 52) Code.skip z6_c50
noncomputable def z6_c47 : Code := .seq z6_c48 z6_c49
noncomputable def z6_c55 := sc Tryz.f6 [1,1,1,1,1,0,1,0,0,1,0,0,1,1,1,0,1,0,0,1,0,0,0,0]
noncomputable def z6_c57 := sc Tryz.f6 [1,1,1,1,1,0,1,0,0,1,0,0,1,1,1,0,1,0,0,1,0,0,0,1,0]
noncomputable def z6_c56 : Code := .cond (.tmp 59) z6_c57 Code.skip
noncomputable def z6_c54 : Code := .seq z6_c55 z6_c56
noncomputable def z6_c60 := sc Tryz.f6 [1,1,1,1,1,0,1,0,0,1,0,0,1,1,1,0,1,0,0,1,0,0,1,0,0]
noncomputable def z6_c62 := sc Tryz.f6 [1,1,1,1,1,0,1,0,0,1,0,0,1,1,1,0,1,0,0,1,0,0,1,0,1,0]
noncomputable def z6_c61 : Code := .cond (.tmp 78) z6_c62 Code.skip
noncomputable def z6_c59 : Code := .seq z6_c60 z6_c61
noncomputable def z6_c64 := sc Tryz.f6 [1,1,1,1,1,0,1,0,0,1,0,0,1,1,1,0,1,0,0,1,0,0,1,1,0]
noncomputable def z6_c67 := sc Tryz.f6 [1,1,1,1,1,0,1,0,0,1,0,0,1,1,1,0,1,0,0,1,0,0,1,1,1,0,0]
noncomputable def z6_c66 : Code := .seq z6_c67 Code.ret
noncomputable def z6_c65 : Code := .cond (.tmp 102) z6_c66 Code.skip
noncomputable def z6_c63 : Code := .seq z6_c64 z6_c65
noncomputable def z6_c58 : Code := .seq z6_c59 z6_c63
noncomputable def z6_c53 : Code := .seq z6_c54 z6_c58
noncomputable def z6_c52 : Code := .block 3 z6_c53
noncomputable def z6_c68 := sc Tryz.f6 [1,1,1,1,1,0,1,0,0,1,0,0,1,1,1,0,1,0,0,1,1]
noncomputable def z6_c51 : Code := .seq z6_c52 z6_c68
noncomputable def z6_c46 : Code := .seq z6_c47 z6_c51
noncomputable def z6_c45 : Code := .loop z6_c46
noncomputable def z6_c44 : Code := .block 2 z6_c45
noncomputable def z6_c42 : Code := .seq z6_c43 z6_c44
noncomputable def z6_c70 := sc Tryz.f6 [1,1,1,1,1,0,1,0,0,1,0,0,1,1,1,1,0]
noncomputable def z6_c73 := sc Tryz.f6 [1,1,1,1,1,0,1,0,0,1,0,0,1,1,1,1,1,0,0]
noncomputable def z6_c72 : Code := .seq z6_c73 Code.ret
noncomputable def z6_c71 : Code := .cond (.tmp 140) z6_c72 Code.skip
noncomputable def z6_c69 : Code := .seq z6_c70 z6_c71
noncomputable def z6_c41 : Code := .seq z6_c42 z6_c69
noncomputable def z6_c39 : Code := .seq z6_c40 z6_c41
noncomputable def z6_c37 : Code := .seq z6_c38 z6_c39
noncomputable def z6_c31 : Code := .seq z6_c32 z6_c37
noncomputable def z6_c30 : Code := .block 1 z6_c31
noncomputable def z6_c74 := sc Tryz.f6 [1,1,1,1,1,0,1,0,0,1,1]
noncomputable def z6_c29 : Code := .seq z6_c30 z6_c74
noncomputable def z6_c24 : Code := .seq z6_c25 z6_c29
noncomputable def z6_c23 : Code := .loop z6_c24
noncomputable def z6_c22 : Code := .block 0 z6_c23
noncomputable def z6_c20 : Code := .seq z6_c21 z6_c22
noncomputable def z6_c76 := sc Tryz.f6 [1,1,1,1,1,1,0]
noncomputable def z6_c75 : Code := .seq z6_c76 Code.ret
noncomputable def z6_c19 : Code := .seq z6_c20 z6_c75
noncomputable def z6_c17 : Code := .seq z6_c18 z6_c19
noncomputable def z6_c11 : Code := .seq z6_c12 z6_c17
noncomputable def z6_c9 : Code := .seq z6_c10 z6_c11
noncomputable def z6_c3 : Code := .seq z6_c4 z6_c9
noncomputable def z6_c1 : Code := .seq z6_c2 z6_c3
def z6_pi (i : Nat) : Pl := match i with
  | 21 => (ones [0, 1, 2, 3, 4, 5, 6, 7, 8, 9, 10, 11, 12, 13, 14, 15, 16, 17, 18, 19, 20, 21] .nil)
  | 23 => (ones [0, 1, 2, 3, 4, 5, 6, 7, 8, 9, 10, 11, 12, 13, 14, 15, 16, 17, 18, 19, 20, 21, 22, 23, 24, 25, 26, 27, 28, 29, 30, 31, 32, 33, 34, 35, 36, 37] .nil)
  | _ => .nil
noncomputable def z6_g77 (S : J2) (x0 x1 : Value) (H : Heap) : Prop :=
  S x0 x1 H
theorem z6_g77_e (S : J2) (x H) : WE z6_pi z6_c2 141 (fun l => S (gd l 0) (gd l 1)) x H = z6_g77 S (x 0) (x 1) H := by kernel_rfl
noncomputable def z6_g78 (S : J3) (x0 x1 : Value) (H : Heap) : Prop :=
  EvF P N.sounderlaw17_works #[] H fun v13 H1 =>
  bnd (unV .not v13) fun v14 =>
  S x0 x1 v14 H1
theorem z6_g78_e (S : J3) (x H) : WE z6_pi z6_c5 141 (fun l => S (gd l 0) (gd l 1) (gd l 14)) x H = z6_g78 S (x 0) (x 1) H := by kernel_rfl
noncomputable def z6_g79 (S : J1) (H : Heap) : Prop :=
  S (.bool false) H
theorem z6_g79_e (S : J1) (x H) : WE z6_pi z6_c8 141 (fun l => S (gd l 4)) x H = z6_g79 S  H := by kernel_rfl
noncomputable def z6_g80 (S : J3) (x0 x1 : Value) (H : Heap) : Prop :=
  EvF P N.sounderref00_Bring #[x0, (.int .i64 40)] H fun v17 H1 =>
  bnd (binV .int .add (.int .i64 1) v17) fun v18 =>
  EvF P N.space_New #[v18] H1 fun v19 H2 =>
  bnd (exV 0 v19) fun v20 =>
  bnd (exV 1 v19) fun v21 =>
  S x1 v20 v21 H2
theorem z6_g80_e (S : J3) (x H) : WE z6_pi z6_c10 141 (fun l => S (gd l 1) (gd l 5) (gd l 6)) x H = z6_g80 S (x 0) (x 1) H := by kernel_rfl
noncomputable def z6_g81 (S : J3) (x1 x5 x6 : Value) (H : Heap) : Prop :=
  bnd (binV .int .neq x6 (.int .i64 0)) fun v23 =>
  S x1 x5 v23 H
theorem z6_g81_e (S : J3) (x H) : WE z6_pi z6_c13 141 (fun l => S (gd l 1) (gd l 5) (gd l 23)) x H = z6_g81 S (x 1) (x 5) (x 6) H := by kernel_rfl
noncomputable def z6_g82 (S : J1) (H : Heap) : Prop :=
  S (.bool false) H
theorem z6_g82_e (S : J1) (x H) : WE z6_pi z6_c16 141 (fun l => S (gd l 4)) x H = z6_g82 S  H := by kernel_rfl
noncomputable def z6_g83 (S : J2) (x1 x5 : Value) (H : Heap) : Prop :=
  bnd (buildV #[(.pointer none), (.slice none 0 0), (.slice none 0 0), (.slice none 0 0), (.int .i64 0), (.int .i64 0)] (places [(0, 1), (1, 1), (2, 1), (3, 1), (4, 1), (5, 1)]) [(0, x5)]) fun v25 =>
  newE 31 (Value.cells v25) H fun v26 H1 =>
  S x1 v26 H1
theorem z6_g83_e (S : J2) (x H) : WE z6_pi z6_c18 141 (fun l => S (gd l 1) (gd l 7)) x H = z6_g83 S (x 1) (x 5) H := by kernel_rfl
noncomputable def z6_g84 (S : J3) (x1 x7 : Value) (H : Heap) : Prop :=
  S x1 x7 (.int .i64 0) H
theorem z6_g84_e (S : J3) (x H) : WE z6_pi z6_c21 141 (fun l => S (gd l 1) (gd l 7) (gd l 8)) x H = z6_g84 S (x 1) (x 7) H := by kernel_rfl
noncomputable def z6_g86 (S : J4) (x1 x7 x8 : Value) (H : Heap) : Prop :=
  bnd (lenV x1) fun v29 =>
  bnd (binV .int .lss x8 v29) fun v30 =>
  brV v30
  (bnd (binV .int .lss x8 (.int .i64 60)) fun v33 =>
  S x1 x7 x8 v33 H)
  (S x1 x7 x8 (.bool false) H)
theorem z6_g86_e (S : J4) (x H) : WE z6_pi z6_c26 141 (fun l => S (gd l 1) (gd l 7) (gd l 8) (gd l 34)) x H = z6_g86 S (x 1) (x 7) (x 8) H := by kernel_rfl
noncomputable def z6_g87 (S : J4) (x1 x7 x8 : Value) (H : Heap) : Prop :=
  bnd (ixSV 5 x1 x8) fun v40 =>
  bnd (ldE true 5 v40 H) fun v41 =>
  EvF P N.sounderlaw17_run_step #[x7, v41] H fun v42 H1 =>
  bnd (unV .not v42) fun v43 =>
  S x1 x7 x8 v43 H1
theorem z6_g87_e (S : J4) (x H) : WE z6_pi z6_c33 141 (fun l => S (gd l 1) (gd l 7) (gd l 8) (gd l 43)) x H = z6_g87 S (x 1) (x 7) (x 8) H := by kernel_rfl
noncomputable def z6_g88 (S : J1) (H : Heap) : Prop :=
  S (.bool false) H
theorem z6_g88_e (S : J1) (x H) : WE z6_pi z6_c36 141 (fun l => S (gd l 4)) x H = z6_g88 S  H := by kernel_rfl
noncomputable def z6_g89 (S : J4) (x1 x7 x8 : Value) (H : Heap) : Prop :=
  bnd (nilV x7) fun v45 =>
  bnd (faV 0 v45) fun v46 =>
  bnd (ldE false 1 v46 H) fun v47 =>
  EvF P N.space_Space_All #[v47] H fun v48 H1 =>
  S x1 x7 x8 v48 H1
theorem z6_g89_e (S : J4) (x H) : WE z6_pi z6_c38 141 (fun l => S (gd l 1) (gd l 7) (gd l 8) (gd l 9)) x H = z6_g89 S (x 1) (x 7) (x 8) H := by kernel_rfl
noncomputable def z6_g90 (S : J6) (x1 x7 x8 x9 : Value) (H : Heap) : Prop :=
  S x1 x7 x8 x9 (.int .i64 0) (.int .i64 0) H
theorem z6_g90_e (S : J6) (x H) : WE z6_pi z6_c40 141 (fun l => S (gd l 1) (gd l 7) (gd l 8) (gd l 9) (gd l 10) (gd l 11)) x H = z6_g90 S (x 1) (x 7) (x 8) (x 9) H := by kernel_rfl
noncomputable def z6_g91 (S : J7) (x1 x7 x8 x9 x10 x11 : Value) (H : Heap) : Prop :=
  S x1 x7 x8 x9 x10 x11 (.int .i64 0) H
theorem z6_g91_e (S : J7) (x H) : WE z6_pi z6_c43 141 (fun l => S (gd l 1) (gd l 7) (gd l 8) (gd l 9) (gd l 10) (gd l 11) (gd l 12)) x H = z6_g91 S (x 1) (x 7) (x 8) (x 9) (x 10) (x 11) H := by kernel_rfl
noncomputable def z6_g93 (S : J8) (x1 x7 x8 x9 x10 x11 x12 : Value) (H : Heap) : Prop :=
  bnd (lenV x9) fun v51 =>
  bnd (binV .int .lss x12 v51) fun v52 =>
  S x1 x7 x8 x9 x10 x11 x12 v52 H
theorem z6_g93_e (S : J8) (x H) : WE z6_pi z6_c48 141 (fun l => S (gd l 1) (gd l 7) (gd l 8) (gd l 9) (gd l 10) (gd l 11) (gd l 12) (gd l 52)) x H = z6_g93 S (x 1) (x 7) (x 8) (x 9) (x 10) (x 11) (x 12) H := by kernel_rfl
noncomputable def z6_g96 (S : J8) (x1 x7 x8 x9 x10 x11 x12 : Value) (H : Heap) : Prop :=
  bnd (nilV x7) fun v82 =>
  bnd (faV 2 v82) fun v83 =>
  bnd (ldE false 1 v83 H) fun v84 =>
  bnd (ixSV 6 x9 x12) fun v87 =>
  bnd (faV 0 v87) fun v88 =>
  bnd (ldE false 1 v88 H) fun v89 =>
  EvF P N.sounderlaw17_has #[v84, v89] H fun v90 H1 =>
  brV v90
  (S x1 x7 x8 x9 x10 x11 x12 (.bool true) H1)
  (bnd (nilV x7) fun v93 =>
  bnd (faV 3 v93) fun v94 =>
  bnd (ldE false 1 v94 H1) fun v95 =>
  bnd (ixSV 6 x9 x12) fun v98 =>
  bnd (faV 0 v98) fun v99 =>
  bnd (ldE false 1 v99 H1) fun v100 =>
  EvF P N.sounderlaw17_has #[v95, v100] H1 fun v101 H2 =>
  S x1 x7 x8 x9 x10 x11 x12 v101 H2)
theorem z6_g96_e (S : J8) (x H) : WE z6_pi z6_c64 141 (fun l => S (gd l 1) (gd l 7) (gd l 8) (gd l 9) (gd l 10) (gd l 11) (gd l 12) (gd l 102)) x H = z6_g96 S (x 1) (x 7) (x 8) (x 9) (x 10) (x 11) (x 12) H := by kernel_rfl
noncomputable def z6_g97 (S : J1) (H : Heap) : Prop :=
  S (.bool false) H
theorem z6_g97_e (S : J1) (x H) : WE z6_pi z6_c67 141 (fun l => S (gd l 4)) x H = z6_g97 S  H := by kernel_rfl
noncomputable def z6_g98 (S : J7) (x1 x7 x8 x9 x10 x11 x12 : Value) (H : Heap) : Prop :=
  bnd (binV .int .add x12 (.int .i64 1)) fun v54 =>
  S x1 x7 x8 x9 x10 x11 v54 H
theorem z6_g98_e (S : J7) (x H) : WE z6_pi z6_c68 141 (fun l => S (gd l 1) (gd l 7) (gd l 8) (gd l 9) (gd l 10) (gd l 11) (gd l 12)) x H = z6_g98 S (x 1) (x 7) (x 8) (x 9) (x 10) (x 11) (x 12) H := by kernel_rfl
noncomputable def z6_s95 (x1 x7 x8 x9 x10 x11 x12 : Value) (_K1 : J3) (K2 : J7) (R : J1) (H : Heap) : Prop :=
  z6_g96 (fun x1 x7 x8 x9 x10 x11 x12 x102 H => brV x102
  (z6_g97 (fun x4 H => R x4 H) H)
  (z6_g98 (fun x1 x7 x8 x9 x10 x11 x12 H => K2 x1 x7 x8 x9 x10 x11 x12 H) x1 x7 x8 x9 x10 x11 x12 H)) x1 x7 x8 x9 x10 x11 x12 H
noncomputable def z6_q99 (R : J1) : JQ := (retQ tab z6_rs R)
noncomputable def z6_q100 (R : J1) : JQ := (thenE (fun l H => wpE tab P z6_pi z6_c75 (z6_q99 R) l H) (z6_q99 R))
noncomputable def z6_q101 (R : J1) : JQ := (blkE 0 (z6_q100 R))
noncomputable def z6_q102 (K1 : J3) (R : J1) : JQ := (thenE (fun l H => K1 (gd l 1) (gd l 7) (gd l 8) H) (z6_q101 R))
noncomputable def z6_q103 (K1 : J3) (R : J1) : JQ := (thenE (fun l H => wpE tab P z6_pi z6_c74 (z6_q102 K1 R) l H) (z6_q102 K1 R))
noncomputable def z6_q104 (K1 : J3) (R : J1) : JQ := (blkE 1 (z6_q103 K1 R))
noncomputable def z6_q105 (K1 : J3) (R : J1) : JQ := (thenE (fun l H => wpE tab P z6_pi z6_c69 (z6_q104 K1 R) l H) (z6_q104 K1 R))
noncomputable def z6_q106 (K1 : J3) (R : J1) : JQ := (blkE 2 (z6_q105 K1 R))
noncomputable def z6_q107 (K1 : J3) (K2 : J7) (R : J1) : JQ := (thenE (fun l H => K2 (gd l 1) (gd l 7) (gd l 8) (gd l 9) (gd l 10) (gd l 11) (gd l 12) H) (z6_q106 K1 R))
noncomputable def z6_q108 (K1 : J3) (K2 : J7) (R : J1) : JQ := (thenE (fun l H => wpE tab P z6_pi z6_c68 (z6_q107 K1 K2 R) l H) (z6_q107 K1 K2 R))
noncomputable def z6_q109 (K1 : J3) (K2 : J7) (R : J1) : JQ := (blkE 3 (z6_q108 K1 K2 R))
theorem z6_s95_i (K1 : J3) (K2 : J7) (R : J1) (l : List Value) (H : Heap) (hl : l.length = 141) (h : z6_s95 (gd l 1) (gd l 7) (gd l 8) (gd l 9) (gd l 10) (gd l 11) (gd l 12) K1 K2 R H) : wpE tab P z6_pi z6_c63 (z6_q109 K1 K2 R) l H := sr rfl hl (z6_g96_e _ (gd l) _) h fun l H hl h => cd rfl h (fun h => sr rfl hl (z6_g97_e _ (gd l) _) h fun l H hl h => rt rfl h) fun h => sk rfl <| bN <| tN <| rj hl (z6_g98_e _ (gd l) _) h fun l H hl h => tN <| h
noncomputable def z6_g110 (S : J8) (x1 x7 x8 x9 x10 x11 x12 : Value) (H : Heap) : Prop :=
  bnd (ixSV 6 x9 x12) fun v69 =>
  bnd (faV 4 v69) fun v70 =>
  bnd (ldE false 1 v70 H) fun v71 =>
  brV v71
  (bnd (ixSV 6 x9 x12) fun v75 =>
  bnd (faV 3 v75) fun v76 =>
  bnd (ldE false 1 v76 H) fun v77 =>
  S x1 x7 x8 x9 x10 x11 x12 v77 H)
  (S x1 x7 x8 x9 x10 x11 x12 (.bool false) H)
theorem z6_g110_e (S : J8) (x H) : WE z6_pi z6_c60 141 (fun l => S (gd l 1) (gd l 7) (gd l 8) (gd l 9) (gd l 10) (gd l 11) (gd l 12) (gd l 78)) x H = z6_g110 S (x 1) (x 7) (x 8) (x 9) (x 10) (x 11) (x 12) H := by kernel_rfl
noncomputable def z6_g111 (S : J7) (x1 x7 x8 x9 x10 x11 x12 : Value) (H : Heap) : Prop :=
  bnd (binV .int .add x11 (.int .i64 1)) fun v80 =>
  S x1 x7 x8 x9 x10 v80 x12 H
theorem z6_g111_e (S : J7) (x H) : WE z6_pi z6_c62 141 (fun l => S (gd l 1) (gd l 7) (gd l 8) (gd l 9) (gd l 10) (gd l 11) (gd l 12)) x H = z6_g111 S (x 1) (x 7) (x 8) (x 9) (x 10) (x 11) (x 12) H := by kernel_rfl
noncomputable def z6_s94 (x1 x7 x8 x9 x10 x11 x12 : Value) (K1 : J3) (K2 : J7) (R : J1) (H : Heap) : Prop :=
  z6_g110 (fun x1 x7 x8 x9 x10 x11 x12 x78 H => brV x78
  (z6_g111 (fun x1 x7 x8 x9 x10 x11 x12 H => z6_s95 x1 x7 x8 x9 x10 x11 x12 K1 K2 R H) x1 x7 x8 x9 x10 x11 x12 H)
  (z6_s95 x1 x7 x8 x9 x10 x11 x12 K1 K2 R H)) x1 x7 x8 x9 x10 x11 x12 H
theorem z6_s94_i (K1 : J3) (K2 : J7) (R : J1) (l : List Value) (H : Heap) (hl : l.length = 141) (h : z6_s94 (gd l 1) (gd l 7) (gd l 8) (gd l 9) (gd l 10) (gd l 11) (gd l 12) K1 K2 R H) : wpE tab P z6_pi z6_c58 (z6_q109 K1 K2 R) l H := sq rfl <| sr rfl hl (z6_g110_e _ (gd l) _) h fun l H hl h => cd rfl h (fun h => rj hl (z6_g111_e _ (gd l) _) h fun l H hl h => tN <| z6_s95_i K1 K2 R l H hl h) fun h => kN rfl <| z6_s95_i K1 K2 R l H hl h
noncomputable def z6_g112 (S : J8) (x1 x7 x8 x9 x10 x11 x12 : Value) (H : Heap) : Prop :=
  bnd (ixSV 6 x9 x12) fun v57 =>
  bnd (faV 4 v57) fun v58 =>
  bnd (ldE false 1 v58 H) fun v59 =>
  S x1 x7 x8 x9 x10 x11 x12 v59 H
theorem z6_g112_e (S : J8) (x H) : WE z6_pi z6_c55 141 (fun l => S (gd l 1) (gd l 7) (gd l 8) (gd l 9) (gd l 10) (gd l 11) (gd l 12) (gd l 59)) x H = z6_g112 S (x 1) (x 7) (x 8) (x 9) (x 10) (x 11) (x 12) H := by kernel_rfl
noncomputable def z6_g113 (S : J7) (x1 x7 x8 x9 x10 x11 x12 : Value) (H : Heap) : Prop :=
  bnd (ixSV 6 x9 x12) fun v63 =>
  bnd (faV 2 v63) fun v64 =>
  bnd (ldE false 1 v64 H) fun v65 =>
  bnd (binV .int .add x10 v65) fun v66 =>
  S x1 x7 x8 x9 v66 x11 x12 H
theorem z6_g113_e (S : J7) (x H) : WE z6_pi z6_c57 141 (fun l => S (gd l 1) (gd l 7) (gd l 8) (gd l 9) (gd l 10) (gd l 11) (gd l 12)) x H = z6_g113 S (x 1) (x 7) (x 8) (x 9) (x 10) (x 11) (x 12) H := by kernel_rfl
noncomputable def z6_g114 (S : J4) (x1 x7 x8 x9 x10 x11 : Value) (H : Heap) : Prop :=
  bnd (nilV x7) fun v105 =>
  bnd (faV 0 v105) fun v106 =>
  bnd (ldE false 1 v106 H) fun v107 =>
  EvF P N.space_Space_Flight #[v107] H fun v108 H1 =>
  bnd (binV .int .neq x10 v108) fun v109 =>
  brV v109
  (S x1 x7 x8 (.bool true) H1)
  (bnd (nilV x7) fun v113 =>
  bnd (faV 0 v113) fun v114 =>
  bnd (ldE false 1 v114 H1) fun v115 =>
  EvF P N.space_Space_Eliciting #[v115] H1 fun v116 H2 =>
  bnd (binV .int .neq x11 v116) fun v117 =>
  brV v117
  (S x1 x7 x8 (.bool true) H2)
  (bnd (lenV x9) fun v121 =>
  bnd (nilV x7) fun v123 =>
  bnd (faV 2 v123) fun v124 =>
  bnd (ldE false 1 v124 H2) fun v125 =>
  bnd (lenV v125) fun v126 =>
  bnd (binV .int .add v121 v126) fun v127 =>
  bnd (nilV x7) fun v129 =>
  bnd (faV 3 v129) fun v130 =>
  bnd (ldE false 1 v130 H2) fun v131 =>
  bnd (lenV v131) fun v132 =>
  bnd (binV .int .add v127 v132) fun v133 =>
  bnd (nilV x7) fun v135 =>
  bnd (faV 1 v135) fun v136 =>
  bnd (ldE false 1 v136 H2) fun v137 =>
  bnd (lenV v137) fun v138 =>
  bnd (binV .int .neq v133 v138) fun v139 =>
  S x1 x7 x8 v139 H2))
theorem z6_g114_e (S : J4) (x H) : WE z6_pi z6_c70 141 (fun l => S (gd l 1) (gd l 7) (gd l 8) (gd l 140)) x H = z6_g114 S (x 1) (x 7) (x 8) (x 9) (x 10) (x 11) H := by kernel_rfl
noncomputable def z6_g115 (S : J1) (H : Heap) : Prop :=
  S (.bool false) H
theorem z6_g115_e (S : J1) (x H) : WE z6_pi z6_c73 141 (fun l => S (gd l 4)) x H = z6_g115 S  H := by kernel_rfl
noncomputable def z6_g116 (S : J3) (x1 x7 x8 : Value) (H : Heap) : Prop :=
  bnd (binV .int .add x8 (.int .i64 1)) fun v36 =>
  S x1 x7 v36 H
theorem z6_g116_e (S : J3) (x H) : WE z6_pi z6_c74 141 (fun l => S (gd l 1) (gd l 7) (gd l 8)) x H = z6_g116 S (x 1) (x 7) (x 8) H := by kernel_rfl
noncomputable def z6_s92 (x1 x7 x8 x9 x10 x11 x12 : Value) (K1 : J3) (K2 : J7) (R : J1) (H : Heap) : Prop :=
  z6_g93 (fun x1 x7 x8 x9 x10 x11 x12 x52 H => brV x52
  (z6_g112 (fun x1 x7 x8 x9 x10 x11 x12 x59 H => brV x59
  (z6_g113 (fun x1 x7 x8 x9 x10 x11 x12 H => z6_s94 x1 x7 x8 x9 x10 x11 x12 K1 K2 R H) x1 x7 x8 x9 x10 x11 x12 H)
  (z6_s94 x1 x7 x8 x9 x10 x11 x12 K1 K2 R H)) x1 x7 x8 x9 x10 x11 x12 H)
  (z6_g114 (fun x1 x7 x8 x140 H => brV x140
  (z6_g115 (fun x4 H => R x4 H) H)
  (z6_g116 (fun x1 x7 x8 H => K1 x1 x7 x8 H) x1 x7 x8 H)) x1 x7 x8 x9 x10 x11 H)) x1 x7 x8 x9 x10 x11 x12 H
theorem z6_s92_i (K1 : J3) (K2 : J7) (R : J1) (l : List Value) (H : Heap) (hl : l.length = 141) (h : z6_s92 (gd l 1) (gd l 7) (gd l 8) (gd l 9) (gd l 10) (gd l 11) (gd l 12) K1 K2 R H) : wpE tab P z6_pi z6_c46 (z6_q107 K1 K2 R) l H := sq rfl <| sr rfl hl (z6_g93_e _ (gd l) _) h fun l H hl h => cd rfl h (fun h => kN rfl <| sq rfl <| bl rfl <| sq rfl <| sr rfl hl (z6_g112_e _ (gd l) _) h fun l H hl h => cd rfl h (fun h => rj hl (z6_g113_e _ (gd l) _) h fun l H hl h => tN <| z6_s94_i K1 K2 R l H hl h) fun h => kN rfl <| z6_s94_i K1 K2 R l H hl h) fun h => ex rfl <| tX <| tX <| bX <| tN <| sr rfl hl (z6_g114_e _ (gd l) _) h fun l H hl h => cd rfl h (fun h => sr rfl hl (z6_g115_e _ (gd l) _) h fun l H hl h => rt rfl h) fun h => sk rfl <| bN <| tN <| rj hl (z6_g116_e _ (gd l) _) h fun l H hl h => tN <| h
noncomputable def z6_l117 (x1 x7 x8 x9 x10 x11 x12 : Value) (K1 : J3) (R : J1) (H : Heap) : Prop :=
  ∃ (I : J3) (μ : M3), I x10 x11 x12 H ∧ ∀ (y10 : Value) (y11 : Value) (y12 : Value) (H : Heap), I y10 y11 y12 H → z6_s92 x1 x7 x8 x9 y10 y11 y12 K1 (fun z1 z7 z8 z9 z10 z11 z12 H' => z1 = x1 ∧ z7 = x7 ∧ z8 = x8 ∧ z9 = x9 ∧ (I z10 z11 z12 H' ∧ μ z10 z11 z12 H' < μ y10 y11 y12 H)) R H
noncomputable def z6_g118 (S : J1) (H : Heap) : Prop :=
  S (.bool true) H
theorem z6_g118_e (S : J1) (x H) : WE z6_pi z6_c76 141 (fun l => S (gd l 4)) x H = z6_g118 S  H := by kernel_rfl
noncomputable def z6_s85 (x1 x7 x8 : Value) (K1 : J3) (R : J1) (H : Heap) : Prop :=
  z6_g86 (fun x1 x7 x8 x34 H => brV x34
  (z6_g87 (fun x1 x7 x8 x43 H => brV x43
  (z6_g88 (fun x4 H => R x4 H) H)
  (z6_g89 (fun x1 x7 x8 x9 H => z6_g90 (fun x1 x7 x8 x9 x10 x11 H => z6_g91 (fun x1 x7 x8 x9 x10 x11 x12 H => z6_l117 x1 x7 x8 x9 x10 x11 x12 K1 R H) x1 x7 x8 x9 x10 x11 H) x1 x7 x8 x9 H) x1 x7 x8 H)) x1 x7 x8 H)
  (z6_g118 (fun x4 H => R x4 H) H)) x1 x7 x8 H
theorem z6_s85_i (K1 : J3) (R : J1) (l : List Value) (H : Heap) (hl : l.length = 141) (h : z6_s85 (gd l 1) (gd l 7) (gd l 8) K1 R H) : wpE tab P z6_pi z6_c24 (z6_q102 K1 R) l H := sq rfl <| sr rfl hl (z6_g86_e _ (gd l) _) h fun l H hl h => cd rfl h (fun h => kN rfl <| sq rfl <| bl rfl <| sq rfl <| sr rfl hl (z6_g87_e _ (gd l) _) h fun l H hl h => cd rfl h (fun h => sr rfl hl (z6_g88_e _ (gd l) _) h fun l H hl h => rt rfl h) fun h => kN rfl <| sr rfl hl (z6_g89_e _ (gd l) _) h fun l H hl h => sr rfl hl (z6_g90_e _ (gd l) _) h fun l H hl h => sq rfl <| sr rfl hl (z6_g91_e _ (gd l) _) h fun l H hl h => bl rfl <| (by
    obtain ⟨I, μ, h0, hr⟩ := h
    refine loopI (c := z6_c45) rfl (fun l' H' => gd l' 1 = gd l 1 ∧ gd l' 7 = gd l 7 ∧ gd l' 8 = gd l 8 ∧ gd l' 9 = gd l 9 ∧ I (gd l' 10) (gd l' 11) (gd l' 12) H') (fun l' H' => μ (gd l' 10) (gd l' 11) (gd l' 12) H') hl ⟨rfl, rfl, rfl, rfl, h0⟩ ?_
    rintro l1 H1 hl1 ⟨e1, e7, e8, e9, hI⟩
    have hb := hr (gd l1 10) (gd l1 11) (gd l1 12) H1 hI
    rw [← e1, ← e7, ← e8, ← e9] at hb
    refine wpE_mono _ l1 H1 hl1 ?_ (z6_s92_i K1 _ R l1 H1 hl1 hb)
    intro e l2 H2 hl2 hq
    cases e with
    | normal => exact fun _ => (by obtain ⟨d1, d7, d8, d9, g1, g2⟩ := hq; exact ⟨⟨d1.trans e1, d7.trans e7, d8.trans e8, d9.trans e9, g1⟩, g2⟩)
    | _ => exact hq)) fun h => ex rfl <| tX <| tX <| bX <| tN <| sr rfl hl (z6_g118_e _ (gd l) _) h fun l H hl h => rt rfl h
noncomputable def z6_l119 (x1 x7 x8 : Value) (R : J1) (H : Heap) : Prop :=
  ∃ (I : J1) (μ : M1), I x8 H ∧ ∀ (y8 : Value) (H : Heap), I y8 H → z6_s85 x1 x7 y8 (fun z1 z7 z8 H' => z1 = x1 ∧ z7 = x7 ∧ (I z8 H' ∧ μ z8 H' < μ y8 H)) R H
def sounderlaw17_SpaceOnce (x0 x1 : Value) (R : Value → Heap → Prop) (H : Heap) : Prop :=
  z6_g77 (fun x0 x1 H => z6_g78 (fun x0 x1 x14 H => brV x14
  (z6_g79 (fun x4 H => R x4 H) H)
  (z6_g80 (fun x1 x5 x6 H => z6_g81 (fun x1 x5 x23 H => brV x23
  (z6_g82 (fun x4 H => R x4 H) H)
  (z6_g83 (fun x1 x7 H => z6_g84 (fun x1 x7 x8 H => z6_l119 x1 x7 x8 R H) x1 x7 H) x1 x5 H)) x1 x5 x6 H) x0 x1 H)) x0 x1 H) x0 x1 H
theorem z6_ev0 (x0 x1 : Value) (R : J1) (H : Heap) (h : sounderlaw17_SpaceOnce x0 x1 R H) : EvL P N.sounderlaw17_SpaceOnce #[x0, x1] H R := EvF_intro (args := [x0, x1]) (k := 139) (rs := z6_rs) tab_ok mixed Tryz.func6 (show Tryz.f6.body = some z6_c1 by kernel_rfl) Tryz.call6 Tryz.ntmps6 (by kernel_rfl) (okCode_of _ (show okB z6_pi z6_c1 = true by kernel_rfl)) (fr_eq _ _) (fj (n := 141) rfl (fun l hl (h : sounderlaw17_SpaceOnce (gd l 0) (gd l 1) R H) => sr rfl hl (z6_g77_e _ (gd l) _) h fun l H hl h => sq rfl <| sr rfl hl (z6_g78_e _ (gd l) _) h fun l H hl h => cd rfl h (fun h => sr rfl hl (z6_g79_e _ (gd l) _) h fun l H hl h => rt rfl h) fun h => kN rfl <| sr rfl hl (z6_g80_e _ (gd l) _) h fun l H hl h => sq rfl <| sr rfl hl (z6_g81_e _ (gd l) _) h fun l H hl h => cd rfl h (fun h => sr rfl hl (z6_g82_e _ (gd l) _) h fun l H hl h => rt rfl h) fun h => kN rfl <| sr rfl hl (z6_g83_e _ (gd l) _) h fun l H hl h => sq rfl <| sr rfl hl (z6_g84_e _ (gd l) _) h fun l H hl h => bl rfl <| (by
    obtain ⟨I, μ, h0, hr⟩ := h
    refine loopI (c := z6_c23) rfl (fun l' H' => gd l' 1 = gd l 1 ∧ gd l' 7 = gd l 7 ∧ I (gd l' 8) H') (fun l' H' => μ (gd l' 8) H') hl ⟨rfl, rfl, h0⟩ ?_
    rintro l1 H1 hl1 ⟨e1, e7, hI⟩
    have hb := hr (gd l1 8) H1 hI
    rw [← e1, ← e7] at hb
    refine wpE_mono _ l1 H1 hl1 ?_ (z6_s85_i _ R l1 H1 hl1 hb)
    intro e l2 H2 hl2 hq
    cases e with
    | normal => exact fun _ => (by obtain ⟨d1, d7, g1, g2⟩ := hq; exact ⟨⟨d1.trans e1, d7.trans e7, g1⟩, g2⟩)
    | _ => exact hq)) h)
theorem z6_ev (x0 x1 : Value) (R : J1) (H : Heap) (h : sounderlaw17_SpaceOnce x0 x1 R H) : EvF P N.sounderlaw17_SpaceOnce #[x0, x1] H R := .inl (z6_ev0 x0 x1 R H h)
end Go.Hc
set_option linter.unusedSimpArgs false
set_option linter.unusedVariables false
namespace Go.Hc
open Go

theorem flight_take {L : List Pkt} {k : Nat} (hk : k < L.length) : flight (L.take (k + 1)) = flight (L.take k) + (if L[k].fl = true then L[k].size else 0) ∧ elic (L.take (k + 1)) = elic (L.take k) + (if (L[k].fl && L[k].el) = true then 1 else 0) := by
  rw [List.take_add_one, List.getElem?_eq_getElem hk, Option.toList_some, flight_app, elic_app]
  simp [flight, elic]
section
variable {K : Heap} {x1 x8 x9 x10 x11 va vl : Value} {b k : Nat} {K1 : Value → Value → Value → Heap → Prop} {K2 : Value → Value → Value → Value → Value → Value → Value → Heap → Prop} {R : Value → Heap → Prop} {L : List Pkt} {acked lost : List Int}
theorem s95o_ev (h9 : ShowA pktE K x9 L) (hk : k < L.length) (hsm : k < 100000) (l2 : ldE false 1 (.pointer (some ⟨b, 2, none⟩)) K = some va) (l3 : ldE false 1 (.pointer (some ⟨b, 3, none⟩)) K = some vl) (ha : ShowA intE K va acked) (hl : ShowA intE K vl lost)
    (h1 : L[k].num ∉ acked) (h2 : L[k].num ∉ lost) (hK : K2 x1 (ptr b) x8 x9 x10 x11 (iv ((k + 1 : Nat) : Int)) K) : z6_s95 x1 (ptr b) x8 x9 x10 x11 (iv k) K1 K2 R K := by
  obtain ⟨bb, o, i1, i2, _⟩ := h9.at6 hk (rfl : (k : Int) = k)
  have w4 : IntKind.i64.wrap ((k : Int) + 1) = ((k + 1 : Nat) : Int) := by rw [wrap_in (by omega)]; omega
  simp only [z6_s95, z6_g96]
  try simp only [ew, Nat.reduceAdd, Nat.reduceMul, Nat.reduceLeDiff, Int.reduceBNe, Int.reduceBEq, Int.reduceLT, Int.reduceLE, l2, i1, i2]
  refine has_ev ha ?_
  rw [decide_eq_false h1]
  try simp only [ew, Nat.reduceAdd, Nat.reduceMul, Nat.reduceLeDiff, Int.reduceBNe, Int.reduceBEq, Int.reduceLT, Int.reduceLE, l3, i1, i2]
  refine has_ev hl ?_
  rw [decide_eq_false h2]
  try simp only [ew, Nat.reduceAdd, Nat.reduceMul, Nat.reduceLeDiff, Int.reduceBNe, Int.reduceBEq, Int.reduceLT, Int.reduceLE, z6_g98]
  try simp only [ew, Nat.reduceAdd, Nat.reduceMul, Nat.reduceLeDiff, Int.reduceBNe, Int.reduceBEq, Int.reduceLT, Int.reduceLE, bin_add, w4]
  exact hK
theorem s94o_ev {e : Int} (h9 : ShowA pktE K x9 L) (hk : k < L.length) (hsm : k < 100000) (he : 0 ≤ e ∧ e ≤ 100000) (l2 : ldE false 1 (.pointer (some ⟨b, 2, none⟩)) K = some va) (l3 : ldE false 1 (.pointer (some ⟨b, 3, none⟩)) K = some vl) (ha : ShowA intE K va acked) (hl : ShowA intE K vl lost)
    (h1 : L[k].num ∉ acked) (h2 : L[k].num ∉ lost) (hK : K2 x1 (ptr b) x8 x9 x10 (iv (e + if (L[k].fl && L[k].el) = true then 1 else 0)) (iv ((k + 1 : Nat) : Int)) K) : z6_s94 x1 (ptr b) x8 x9 x10 (iv e) (iv k) K1 K2 R K := by
  obtain ⟨bb, o, i1, i2, i3, i4, i5⟩ := h9.at6 hk (rfl : (k : Int) = k)
  have w4 : IntKind.i64.wrap (e + 1) = e + 1 := wrap_in (by omega)
  simp only [z6_s94, z6_g110]
  try simp only [ew, Nat.reduceAdd, Nat.reduceMul, Nat.reduceLeDiff, Int.reduceBNe, Int.reduceBEq, Int.reduceLT, Int.reduceLE, i1, i5]
  refine brV_i (fun hf => ?_) (fun hf => ?_)
  · try simp only [ew, Nat.reduceAdd, Nat.reduceMul, Nat.reduceLeDiff, Int.reduceBNe, Int.reduceBEq, Int.reduceLT, Int.reduceLE, i1, i4]
    refine brV_i (fun hel => ?_) (fun hel => ?_)
    · rw [hf, hel] at hK
      simp only [z6_g111]
      try simp only [ew, Nat.reduceAdd, Nat.reduceMul, Nat.reduceLeDiff, Int.reduceBNe, Int.reduceBEq, Int.reduceLT, Int.reduceLE, bin_add, w4]
      exact s95o_ev h9 hk hsm l2 l3 ha hl h1 h2 hK
    · rw [hf, hel] at hK
      have e0 : e + (if (true && false) = true then (1 : Int) else 0) = e := by simp
      rw [e0] at hK
      exact s95o_ev h9 hk hsm l2 l3 ha hl h1 h2 hK
  · rw [hf] at hK
    have e0 : e + (if (false && L[k].el) = true then (1 : Int) else 0) = e := by simp
    rw [e0] at hK
    try simp only [ew, Nat.reduceAdd, Nat.reduceMul, Nat.reduceLeDiff, Int.reduceBNe, Int.reduceBEq, Int.reduceLT, Int.reduceLE]
    exact s95o_ev h9 hk hsm l2 l3 ha hl h1 h2 hK
end
set_option maxHeartbeats 1000000 in
theorem Once17_ev {H : Heap} {v : Value} {room : Int} {l : List (Fin 5 → Int)} {R : Value → Heap → Prop} (hroom : In64 room) (hv : ShowA (intsE 5) H v l) (hin : ∀ y ∈ l, ∀ i, In64 (y i)) (hR : ∀ H', Ext [] H H' → R (.bool true) H') : EvL P N.sounderlaw17_SpaceOnce #[iv room, v] H R := by
  refine z6_ev0 _ _ _ _ ?_
  simp only [sounderlaw17_SpaceOnce, z6_g77, z6_g78]
  refine works17_ev (Sep.nil H) fun K0 h => ?_
  try simp only [ew, Nat.reduceAdd, Nat.reduceMul, Nat.reduceLeDiff, Int.reduceBNe, Int.reduceBEq, Int.reduceLT, Int.reduceLE, z6_g80]
  refine Bring_ev hroom (by omega) ?_
  have hb := bring_r (i := room) (n := 40) (by omega)
  have w1 : IntKind.i64.wrap (1 + bring room 40) = 1 + bring room 40 := wrap_in (by omega)
  try simp only [ew, Nat.reduceAdd, Nat.reduceMul, Nat.reduceLeDiff, Int.reduceBNe, Int.reduceBEq, Int.reduceLT, Int.reduceLE, bin_add, w1]
  refine spNew_sep h (fun hbad => absurd ⟨by omega, by omega⟩ hbad) fun rm s K1 hr _ _ h => ?_
  have e0 : ((0 : Int) != 0) = false := rfl
  try simp only [ew, Nat.reduceAdd, Nat.reduceMul, Nat.reduceLeDiff, Int.reduceBNe, Int.reduceBEq, Int.reduceLT, Int.reduceLE, z6_g81]
  try simp only [ew, Nat.reduceAdd, Nat.reduceMul, Nat.reduceLeDiff, Int.reduceBNe, Int.reduceBEq, Int.reduceLT, Int.reduceLE, e0, z6_g83]
  try simp only [ew, Nat.reduceAdd, Nat.reduceMul, Nat.reduceLeDiff, Int.reduceBNe, Int.reduceBEq, Int.reduceLT, Int.reduceLE, run_build]
  generalize hK2 : newB K1 _ _ = K2
  have h2 := run_new (t := 31) h
  rw [hK2] at h2
  obtain ⟨b, hbb⟩ : ∃ b, b = K1.size := ⟨_, rfl⟩
  rw [← hbb] at h2 ⊢
  simp only [z6_g84, z6_l119]
  have hsm := hv.small
  refine ⟨fun x K => ∃ (i : Nat) (r : Rn), x = iv i ∧ i ≤ 60 ∧ i ≤ l.length ∧ Inv r [] i i ∧ Sep H K [runA b r], fun x _ => (match x with | .int _ i => (60 - i).toNat | _ => 0), ⟨0, rn0 rm, rfl, by omega, by omega, inv0 rm, h2⟩, ?_⟩
  clear h h2 hK2
  rintro x K ⟨i, r, rfl, hi60, hil, hI, h⟩
  have hvK := hv.ext h.only
  simp only [z6_s85, z6_g86]
  try simp only [ew, Nat.reduceAdd, Nat.reduceMul, Nat.reduceLeDiff, Int.reduceBNe, Int.reduceBEq, Int.reduceLT, Int.reduceLE, hvK.len]
  have fin : z6_g118 (fun x4 H => R x4 H) K := by
    simp only [z6_g118]
    exact hR K h.only
  refine brV_d (fun hlt => ?_) (fun hge => fin)
  try simp only [ew, Nat.reduceAdd, Nat.reduceMul, Nat.reduceLeDiff, Int.reduceBNe, Int.reduceBEq, Int.reduceLT, Int.reduceLE]
  refine brV_d (fun hlt2 => ?_) (fun hge => fin)
  clear fin
  have hi' : i < l.length := by omega
  obtain ⟨bb, o, i1, i2⟩ := step_read hvK hi'
  simp only [z6_g87]
  try simp only [ew, Nat.reduceAdd, Nat.reduceMul, Nat.reduceLeDiff, Int.reduceBNe, Int.reduceBEq, Int.reduceLT, Int.reduceLE, i1, i2]
  refine step_sep h (hin _ (List.getElem_mem hi')) hI (by omega) fun K1 r1 hI1 _ h1 => ?_
  obtain ⟨s, l0, vs, va, vl, ho⟩ := run_s h1
  try simp only [ew, Nat.reduceAdd, Nat.reduceMul, Nat.reduceLeDiff, Int.reduceBNe, Int.reduceBEq, Int.reduceLT, Int.reduceLE, z6_g89]
  try simp only [ew, Nat.reduceAdd, Nat.reduceMul, Nat.reduceLeDiff, Int.reduceBNe, Int.reduceBEq, Int.reduceLT, Int.reduceLE, l0]
  refine All_sp ho.b1 fun K2 w h2 => ?_
  -- w, s, b, vs, va, vl
  have hmay := sp_mayL h2.b1
  have hlenI := hI1.len
  have hfew := hI1.few
  have hfl := flight_le (L := r1.s.L) fun p hp => (hmay.2.1 p hp).1
  have hel := elic_le (L := r1.s.L)
  have hL100 : r1.s.L.length ≤ 256 := by omega
  simp only [List.length_nil, Nat.add_zero] at hlenI
  simp only [z6_g90, z6_g91, z6_l117]
  refine ⟨fun x10 x11 x12 K => K = K2 ∧ ∃ k : Nat, k ≤ r1.s.L.length ∧ x12 = iv k ∧ x10 = iv (flight (r1.s.L.take k)) ∧ x11 = iv (elic (r1.s.L.take k)), fun _ _ x12 _ => (match x12 with | .int _ k => (r1.s.L.length - k).toNat | _ => 0),
    ⟨rfl, 0, by omega, rfl, rfl, rfl⟩, ?_⟩
  rintro x10 x11 x12 K ⟨rfl, k, hk, rfl, rfl, rfl⟩
  have hw := h2.shP
  have c := own_blk h2.b2.cells
  have l2 : ldE false 1 (.pointer (some ⟨b, 2, none⟩)) K = some va := ld_ptr c runC_2
  have l3 : ldE false 1 (.pointer (some ⟨b, 3, none⟩)) K = some vl := ld_ptr c runC_3
  simp only [z6_s92, z6_g93]
  try simp only [ew, Nat.reduceAdd, Nat.reduceMul, Nat.reduceLeDiff, Int.reduceBNe, Int.reduceBEq, Int.reduceLT, Int.reduceLE, hw.len]
  refine brV_d (fun hlt => ?_) (fun hge => ?_)
  · have hk' : k < r1.s.L.length := by omega
    obtain ⟨b6, o6, j1, j2, j3, j4, j5⟩ := hw.at6 hk' (rfl : (k : Int) = k)
    have hap := hI1.apart _ (mem_ints.2 ⟨_, List.getElem_mem hk', rfl⟩)
    have ht := flight_take hk'
    have hflk := flight_le (L := r1.s.L.take k) fun p hp => (hmay.2.1 p (List.mem_of_mem_take hp)).1
    have helk := elic_le (L := r1.s.L.take k)
    have hlk : (r1.s.L.take k).length ≤ 256 := by rw [List.length_take]; omega
    have hpm := (hmay.2.1 _ (List.getElem_mem hk')).1
    unfold May at hpm
    have tail : ∀ f : Int, f = flight (r1.s.L.take k) + (if r1.s.L[k].fl = true then r1.s.L[k].size else 0) → _ := fun f hf => s94o_ev (x1 := v) (x8 := iv i) (x10 := iv f) (e := elic (r1.s.L.take k)) (R := R) (K1 := fun z1 z7 z8 H' => z1 = v ∧ z7 = ptr b ∧ ((∃ (i : Nat) (r : Rn), z8 = iv i ∧ i ≤ 60 ∧ i ≤ l.length ∧ Inv r [] i i ∧ Sep H H' [runA b r]) ∧ (match z8 with | .int _ i => (60 - i).toNat | _ => 0) < (60 - (i : Int)).toNat))
      (K2 := fun z1 z7 z8 z9 z10 z11 z12 H' => z1 = v ∧ z7 = ptr b ∧ z8 = iv i ∧ z9 = w ∧ ((H' = K ∧ ∃ k : Nat, k ≤ r1.s.L.length ∧ z12 = iv k ∧ z10 = iv (flight (r1.s.L.take k)) ∧ z11 = iv (elic (r1.s.L.take k))) ∧ (match z12 with | .int _ k => (r1.s.L.length - k).toNat | _ => 0) < (r1.s.L.length - (k : Int)).toNat))
      hw hk' (by omega) (by omega) l2 l3 h2.b4.shI (h2.s6 [5, 0, 1, 2, 3, 4] rfl).shI hap.1 hap.2.1 ⟨rfl, rfl, rfl, rfl, ⟨rfl, k + 1, by omega, rfl, by rw [ht.1, hf], by rw [ht.2]⟩, (show ((r1.s.L.length : Int) - ((k + 1 : Nat) : Int)).toNat < ((r1.s.L.length : Int) - (k : Int)).toNat by omega)⟩
    simp only [z6_g112]
    try simp only [ew, Nat.reduceAdd, Nat.reduceMul, Nat.reduceLeDiff, Int.reduceBNe, Int.reduceBEq, Int.reduceLT, Int.reduceLE, j1, j5]
    refine brV_i (fun hf => ?_) (fun hf => ?_)
    · have w5 : IntKind.i64.wrap (flight (r1.s.L.take k) + r1.s.L[k].size) = flight (r1.s.L.take k) + r1.s.L[k].size := wrap_in (by omega)
      simp only [z6_g113]
      try simp only [ew, Nat.reduceAdd, Nat.reduceMul, Nat.reduceLeDiff, Int.reduceBNe, Int.reduceBEq, Int.reduceLT, Int.reduceLE, j1, j3, bin_add, w5]
      exact tail _ (by rw [if_pos hf])
    · exact tail _ (by rw [if_neg (by simp [hf])]; omega)
  · have hk' : k = r1.s.L.length := by omega
    subst hk'
    rw [List.take_length]
    have nb : ∀ a b : Int, a = b → (a != b) = false := fun a b e => by subst e; simp
    have l0' : ldE false 1 (.pointer (some ⟨b, 0, none⟩)) K = some (ptr s) := ld_ptr c runC_0
    have w4 : IntKind.i64.wrap ((i : Int) + 1) = ((i + 1 : Nat) : Int) := by rw [wrap_in (by omega)]; omega
    simp only [z6_g114]
    try simp only [ew, Nat.reduceAdd, Nat.reduceMul, Nat.reduceLeDiff, Int.reduceBNe, Int.reduceBEq, Int.reduceLT, Int.reduceLE, l0']
    refine Flight_sp h2.b1 fun K3 h3 => ?_
    -- s, w, b, vs, va, vl
    have l0'' : ldE false 1 (.pointer (some ⟨b, 0, none⟩)) K3 = some (ptr s) := ld_ptr (own_blk h3.b2.cells) runC_0
    try simp only [ew, Nat.reduceAdd, Nat.reduceMul, Nat.reduceLeDiff, Int.reduceBNe, Int.reduceBEq, Int.reduceLT, Int.reduceLE, nb _ _ rfl, l0'']
    refine Elic_sp h3 fun K4 h4 => ?_
    have c4 := own_blk h4.b2.cells
    have m1 : ldE false 1 (.pointer (some ⟨b, 1, none⟩)) K4 = some vs := ld_ptr c4 runC_1
    have m2 : ldE false 1 (.pointer (some ⟨b, 2, none⟩)) K4 = some va := ld_ptr c4 runC_2
    have m3 : ldE false 1 (.pointer (some ⟨b, 3, none⟩)) K4 = some vl := ld_ptr c4 runC_3
    have w6 : IntKind.i64.wrap ((r1.s.L.length : Int) + r1.acked.length) = (r1.s.L.length : Int) + r1.acked.length := wrap_in (by omega)
    have w7 : IntKind.i64.wrap ((r1.s.L.length : Int) + r1.acked.length + r1.lost.length) = (r1.s.L.length : Int) + r1.acked.length + r1.lost.length := wrap_in (by omega)
    try simp only [ew, Nat.reduceAdd, Nat.reduceMul, Nat.reduceLeDiff, Int.reduceBNe, Int.reduceBEq, Int.reduceLT, Int.reduceLE, nb _ _ rfl, h4.b1.shP.len, m1, m2, m3, h4.b3.shI.len, h4.b4.shI.len, (h4.s6 [5, 0, 1, 2, 3, 4] rfl).shI.len, bin_add, w6, w7]
    rw [nb _ _ (show (r1.s.L.length : Int) + r1.acked.length + r1.lost.length = r1.sent.length by omega)]
    try simp only [ew, Nat.reduceAdd, Nat.reduceMul, Nat.reduceLeDiff, Int.reduceBNe, Int.reduceBEq, Int.reduceLT, Int.reduceLE, z6_g116]
    try simp only [ew, Nat.reduceAdd, Nat.reduceMul, Nat.reduceLeDiff, Int.reduceBNe, Int.reduceBEq, Int.reduceLT, Int.reduceLE, bin_add, w4]
    exact ⟨⟨i + 1, r1, rfl, by omega, by omega, hI1, runClose (h4.s6 [2, 0, 3, 4, 5, 1] rfl |>.s6 [5, 0, 1, 2, 3, 4] rfl).drop⟩, by show _ < _; omega⟩
end Go.Hc
