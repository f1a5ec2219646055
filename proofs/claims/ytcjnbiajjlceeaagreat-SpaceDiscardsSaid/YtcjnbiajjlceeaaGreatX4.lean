/- Functions, printed by gen.py. -/
import Derived.Test.YtcjnbiajjlceeaaGreatX2
set_option linter.unusedSimpArgs false
set_option linter.unusedVariables false
set_option maxRecDepth 100000
namespace Go.Hc
open Go Go.Proofs
/- 10: sounder/space.New -/
def z10_rs : List ResultVar := [.tmp 2, .tmp 3]
noncomputable def z10_c2 := sc Tryz.f10 [0]
noncomputable def z10_c4 := sc Tryz.f10 [1,0]
noncomputable def z10_c7 := sc Tryz.f10 [1,1,0,0]
noncomputable def z10_c10 := sc Tryz.f10 [1,1,0,1,0,0]
noncomputable def z10_c9 : Code := .seq z10_c10 Code.ret
noncomputable def z10_c8 : Code := .cond (.tmp 16) z10_c9 Code.skip
noncomputable def z10_c6 : Code := .seq z10_c7 z10_c8
noncomputable def z10_c12 := sc Tryz.f10 [1,1,1,0]
noncomputable def z10_c14 := sc Tryz.f10 [1,1,1,1,0]
noncomputable def z10_c16 := sc Tryz.f10 [1,1,1,1,1,0]
noncomputable def z10_c15 : Code := .seq z10_c16 Code.ret
noncomputable def z10_c13 : Code := .seq z10_c14 z10_c15
noncomputable def z10_c11 : Code := .seq z10_c12 z10_c13
noncomputable def z10_c5 : Code := .seq z10_c6 z10_c11
noncomputable def z10_c3 : Code := .seq z10_c4 z10_c5
noncomputable def z10_c1 : Code := .seq z10_c2 z10_c3
def z10_pi (_ : Nat) : Pl := .nil
noncomputable def z10_g17 (S : J1) (x0 : Value) (H : Heap) : Prop :=
  S x0 H
theorem z10_g17_e (S : J1) (x H) : WE z10_pi z10_c2 31 (fun l => S (gd l 0)) x H = z10_g17 S (x 0) H := by kernel_rfl
noncomputable def z10_g18 (S : J2) (x0 : Value) (H : Heap) : Prop :=
  EvF P N.sent_New #[x0] H fun v12 H1 =>
  bnd (exV 0 v12) fun v13 =>
  bnd (exV 1 v12) fun v14 =>
  S v13 v14 H1
theorem z10_g18_e (S : J2) (x H) : WE z10_pi z10_c4 31 (fun l => S (gd l 4) (gd l 5)) x H = z10_g18 S (x 0) H := by kernel_rfl
noncomputable def z10_g19 (S : J3) (x4 x5 : Value) (H : Heap) : Prop :=
  bnd (binV .int .neq x5 (.int .i64 0)) fun v16 =>
  S x4 x5 v16 H
theorem z10_g19_e (S : J3) (x H) : WE z10_pi z10_c7 31 (fun l => S (gd l 4) (gd l 5) (gd l 16)) x H = z10_g19 S (x 4) (x 5) H := by kernel_rfl
noncomputable def z10_g20 (S : J2) (x5 : Value) (H : Heap) : Prop :=
  S (.pointer none) x5 H
theorem z10_g20_e (S : J2) (x H) : WE z10_pi z10_c10 31 (fun l => S (gd l 2) (gd l 3)) x H = z10_g20 S (x 5) H := by kernel_rfl
noncomputable def z10_g21 (S : J2) (x4 : Value) (H : Heap) : Prop :=
  EvF P N.span_New #[(.int .i64 256)] H fun v19 H1 =>
  bnd (exV 0 v19) fun v20 =>
  bnd (exV 1 v19) fun _ =>
  S x4 v20 H1
theorem z10_g21_e (S : J2) (x H) : WE z10_pi z10_c12 31 (fun l => S (gd l 4) (gd l 6)) x H = z10_g21 S (x 4) H := by kernel_rfl
noncomputable def z10_g22 (S : J3) (x4 x6 : Value) (H : Heap) : Prop :=
  EvF P N.span_New #[(.int .i64 256)] H fun v23 H1 =>
  bnd (exV 0 v23) fun v24 =>
  bnd (exV 1 v23) fun _ =>
  S x4 x6 v24 H1
theorem z10_g22_e (S : J3) (x H) : WE z10_pi z10_c14 31 (fun l => S (gd l 4) (gd l 6) (gd l 8)) x H = z10_g22 S (x 4) (x 6) H := by kernel_rfl
noncomputable def z10_g23 (S : J2) (x4 x6 x8 : Value) (H : Heap) : Prop :=
  bnd (buildV #[(.pointer none), (.pointer none), (.pointer none), (.int .i64 0), (.int .i64 0), (.int .i64 0)] (places [(0, 1), (1, 1), (2, 1), (3, 1), (4, 1), (5, 1)]) [(0, x4), (1, x6), (2, x8), (3, (.int .i64 (-1))), (4, (.int .i64 (-1))), (5, (.int .i64 (-1)))]) fun v29 =>
  newE 78 (Value.cells v29) H fun v30 H1 =>
  S v30 (.int .i64 0) H1
theorem z10_g23_e (S : J2) (x H) : WE z10_pi z10_c16 31 (fun l => S (gd l 2) (gd l 3)) x H = z10_g23 S (x 4) (x 6) (x 8) H := by kernel_rfl
def space_New (x0 : Value) (R : Value → Heap → Prop) (H : Heap) : Prop :=
  z10_g17 (fun x0 H => z10_g18 (fun x4 x5 H => z10_g19 (fun x4 x5 x16 H => brV x16
  (z10_g20 (fun x2 x3 H => R (.tuple #[x2, x3]) H) x5 H)
  (z10_g21 (fun x4 x6 H => z10_g22 (fun x4 x6 x8 H => z10_g23 (fun x2 x3 H => R (.tuple #[x2, x3]) H) x4 x6 x8 H) x4 x6 H) x4 H)) x4 x5 H) x0 H) x0 H
theorem z10_ev (x0 : Value) (R : J1) (H : Heap) (h : space_New x0 R H) : EvF P N.space_New #[x0] H R := .inl (EvF_intro (args := [x0]) (k := 30) (rs := z10_rs) tab_ok mixed Tryz.func10 (show Tryz.f10.body = some z10_c1 by kernel_rfl) Tryz.call10 Tryz.ntmps10 (by kernel_rfl) (okCode_of _ (show okB z10_pi z10_c1 = true by kernel_rfl)) (fr_eq _ _) (fj (n := 31) rfl (fun l hl (h : space_New (gd l 0) R H) => sr rfl hl (z10_g17_e _ (gd l) _) h fun l H hl h => sr rfl hl (z10_g18_e _ (gd l) _) h fun l H hl h => sq rfl <| sr rfl hl (z10_g19_e _ (gd l) _) h fun l H hl h => cd rfl h (fun h => sr rfl hl (z10_g20_e _ (gd l) _) h fun l H hl h => rt rfl h) fun h => kN rfl <| sr rfl hl (z10_g21_e _ (gd l) _) h fun l H hl h => sr rfl hl (z10_g22_e _ (gd l) _) h fun l H hl h => sr rfl hl (z10_g23_e _ (gd l) _) h fun l H hl h => rt rfl h) h))
/- 11: sounder/sounderref00.Bring -/
def z11_rs : List ResultVar := [.tmp 4]
noncomputable def z11_c2 := sc Tryz.f11 [0]
noncomputable def z11_c4 := sc Tryz.f11 [1,0]
noncomputable def z11_c7 := sc Tryz.f11 [1,1,0,0]
noncomputable def z11_c9 := sc Tryz.f11 [1,1,0,1,0]
noncomputable def z11_c8 : Code := .cond (.tmp 9) z11_c9 Code.skip
noncomputable def z11_c6 : Code := .seq z11_c7 z11_c8
noncomputable def z11_c11 := sc Tryz.f11 [1,1,1,0]
noncomputable def z11_c10 : Code := .seq z11_c11 Code.ret
noncomputable def z11_c5 : Code := .seq z11_c6 z11_c10
noncomputable def z11_c3 : Code := .seq z11_c4 z11_c5
noncomputable def z11_c1 : Code := .seq z11_c2 z11_c3
def z11_pi (_ : Nat) : Pl := .nil
noncomputable def z11_g12 (S : J2) (x0 x1 : Value) (H : Heap) : Prop :=
  S x0 x1 H
theorem z11_g12_e (S : J2) (x H) : WE z11_pi z11_c2 14 (fun l => S (gd l 0) (gd l 1)) x H = z11_g12 S (x 0) (x 1) H := by kernel_rfl
noncomputable def z11_g13 (S : J2) (x0 x1 : Value) (H : Heap) : Prop :=
  bnd (binV .int .rem x0 x1) fun v7 =>
  S v7 x1 H
theorem z11_g13_e (S : J2) (x H) : WE z11_pi z11_c4 14 (fun l => S (gd l 0) (gd l 1)) x H = z11_g13 S (x 0) (x 1) H := by kernel_rfl
noncomputable def z11_g15 (S : J1) (x0 : Value) (H : Heap) : Prop :=
  S x0 H
theorem z11_g15_e (S : J1) (x H) : WE z11_pi z11_c11 14 (fun l => S (gd l 4)) x H = z11_g15 S (x 0) H := by kernel_rfl
noncomputable def z11_s14 (x0 : Value) (R : J1) (H : Heap) : Prop :=
  z11_g15 (fun x4 H => R x4 H) x0 H
noncomputable def z11_q16 (R : J1) : JQ := (retQ tab z11_rs R)
theorem z11_s14_i (R : J1) (l : List Value) (H : Heap) (hl : l.length = 14) (h : z11_s14 (gd l 0) R H) : wpE tab P z11_pi z11_c10 (z11_q16 R) l H := sr rfl hl (z11_g15_e _ (gd l) _) h fun l H hl h => rt rfl h
noncomputable def z11_g17 (S : J3) (x0 x1 : Value) (H : Heap) : Prop :=
  bnd (binV .int .lss x0 (.int .i64 0)) fun v9 =>
  S x0 x1 v9 H
theorem z11_g17_e (S : J3) (x H) : WE z11_pi z11_c7 14 (fun l => S (gd l 0) (gd l 1) (gd l 9)) x H = z11_g17 S (x 0) (x 1) H := by kernel_rfl
noncomputable def z11_g18 (S : J1) (x0 x1 : Value) (H : Heap) : Prop :=
  bnd (binV .int .add x0 x1) fun v12 =>
  S v12 H
theorem z11_g18_e (S : J1) (x H) : WE z11_pi z11_c9 14 (fun l => S (gd l 0)) x H = z11_g18 S (x 0) (x 1) H := by kernel_rfl
def sounderref00_Bring (x0 x1 : Value) (R : Value → Heap → Prop) (H : Heap) : Prop :=
  z11_g12 (fun x0 x1 H => z11_g13 (fun x0 x1 H => z11_g17 (fun x0 x1 x9 H => brV x9
  (z11_g18 (fun x0 H => z11_s14 x0 R H) x0 x1 H)
  (z11_s14 x0 R H)) x0 x1 H) x0 x1 H) x0 x1 H
theorem z11_ev (x0 x1 : Value) (R : J1) (H : Heap) (h : sounderref00_Bring x0 x1 R H) : EvF P N.sounderref00_Bring #[x0, x1] H R := .inl (EvF_intro (args := [x0, x1]) (k := 12) (rs := z11_rs) tab_ok mixed Tryz.func11 (show Tryz.f11.body = some z11_c1 by kernel_rfl) Tryz.call11 Tryz.ntmps11 (by kernel_rfl) (okCode_of _ (show okB z11_pi z11_c1 = true by kernel_rfl)) (fr_eq _ _) (fj (n := 14) rfl (fun l hl (h : sounderref00_Bring (gd l 0) (gd l 1) R H) => sr rfl hl (z11_g12_e _ (gd l) _) h fun l H hl h => sr rfl hl (z11_g13_e _ (gd l) _) h fun l H hl h => sq rfl <| sr rfl hl (z11_g17_e _ (gd l) _) h fun l H hl h => cd rfl h (fun h => rj hl (z11_g18_e _ (gd l) _) h fun l H hl h => tN <| z11_s14_i R l H hl h) fun h => kN rfl <| z11_s14_i R l H hl h) h))
/- 12: (*sounder/sounderlaw17.run).step -/
def z12_rs : List ResultVar := [.tmp 4]
noncomputable def z12_c2 := sc Tryz.f12 [0]
noncomputable def z12_c4 := sc Tryz.f12 [1,0]
noncomputable def z12_c7 := sc Tryz.f12 [1,1,0,0]
noncomputable def z12_c11 := sc Tryz.f12 [1,1,0,1,0,0,0]
noncomputable def z12_c14 := sc Tryz.f12 [1,1,0,1,0,0,1,1,0]
noncomputable def z12_c16 := sc Tryz.f12 [1,1,0,1,0,0,1,1,1,1]
noncomputable def z12_c15 : Code := .cond (.tmp 26) Code.skip z12_c16
noncomputable def z12_c13 : Code := .seq z12_c14 z12_c15
noncomputable def z12_c12 : Code := .cond (.tmp 26) Code.skip z12_c13
noncomputable def z12_c10 : Code := .seq z12_c11 z12_c12
noncomputable def z12_c19 := sc Tryz.f12 [1,1,0,1,0,1,0,0]
noncomputable def z12_c22 := sc Tryz.f12 [1,1,0,1,0,1,0,1,0,0]
noncomputable def z12_c24 := sc Tryz.f12 [1,1,0,1,0,1,0,1,0,1,0]
noncomputable def z12_c23 : Code := .cond (.tmp 40) z12_c24 Code.skip
noncomputable def z12_c21 : Code := .seq z12_c22 z12_c23
noncomputable def z12_c26 := sc Tryz.f12 [1,1,0,1,0,1,0,1,1,0]
noncomputable def z12_c28 := sc Tryz.f12 [1,1,0,1,0,1,0,1,1,1,0]
noncomputable def z12_c30 := sc Tryz.f12 [1,1,0,1,0,1,0,1,1,1,1,0]
noncomputable def z12_c33 := sc Tryz.f12 [1,1,0,1,0,1,0,1,1,1,1,1,0,0]
noncomputable def z12_c35 := sc Tryz.f12 [1,1,0,1,0,1,0,1,1,1,1,1,0,1,0]
noncomputable def z12_c34 : Code := .cond (.tmp 82) z12_c35 Code.skip
noncomputable def z12_c32 : Code := .seq z12_c33 z12_c34
noncomputable def z12_c37 := sc Tryz.f12 [1,1,0,1,0,1,0,1,1,1,1,1,1,0]
noncomputable def z12_c36 : Code := .seq z12_c37 Code.ret
noncomputable def z12_c31 : Code := .seq z12_c32 z12_c36
noncomputable def z12_c29 : Code := .seq z12_c30 z12_c31
noncomputable def z12_c27 : Code := .seq z12_c28 z12_c29
noncomputable def z12_c25 : Code := .seq z12_c26 z12_c27
noncomputable def z12_c20 : Code := .seq z12_c21 z12_c25
noncomputable def z12_c18 : Code := .seq z12_c19 z12_c20
noncomputable def z12_c40 := sc Tryz.f12 [1,1,0,1,0,1,1,0,0]
noncomputable def z12_c42 := sc Tryz.f12 [1,1,0,1,0,1,1,0,1,1]
noncomputable def z12_c41 : Code := .cond (.tmp 99) Code.skip z12_c42
noncomputable def z12_c39 : Code := .seq z12_c40 z12_c41
noncomputable def z12_c46 := sc Tryz.f12 [1,1,0,1,0,1,1,1,0,0,0]
noncomputable def z12_c49 := sc Tryz.f12 [1,1,0,1,0,1,1,1,0,0,1,0,0]
noncomputable def z12_c48 : Code := .seq z12_c49 Code.ret
noncomputable def z12_c47 : Code := .cond (.tmp 107) z12_c48 Code.skip
noncomputable def z12_c45 : Code := .seq z12_c46 z12_c47
noncomputable def z12_c51 := sc Tryz.f12 [1,1,0,1,0,1,1,1,0,1,0]
noncomputable def z12_c53 := sc Tryz.f12 [1,1,0,1,0,1,1,1,0,1,1,0]
noncomputable def z12_c52 : Code := .seq z12_c53 Code.ret
noncomputable def z12_c50 : Code := .seq z12_c51 z12_c52
noncomputable def z12_c44 : Code := .seq z12_c45 z12_c50
noncomputable def z12_c43 : Code := .cond (.tmp 99) z12_c44 Code.skip
noncomputable def z12_c38 : Code := .seq z12_c39 z12_c43
noncomputable def z12_c17 : Code := .cond (.tmp 26) z12_c18 z12_c38
noncomputable def z12_c9 : Code := .seq z12_c10 z12_c17
noncomputable def z12_c8 : Code := .block 0 z12_c9
noncomputable def z12_c6 : Code := .seq z12_c7 z12_c8
noncomputable def z12_c55 := sc Tryz.f12 [1,1,1,0]
noncomputable def z12_c57 := sc Tryz.f12 [1,1,1,1,0]
noncomputable def z12_c56 : Code := .seq z12_c57 Code.ret
noncomputable def z12_c54 : Code := .seq z12_c55 z12_c56
noncomputable def z12_c5 : Code := .seq z12_c6 z12_c54
noncomputable def z12_c3 : Code := .seq z12_c4 z12_c5
noncomputable def z12_c1 : Code := .seq z12_c2 z12_c3
def z12_pi (i : Nat) : Pl := match i with
  | 1 => (ones [0, 1, 2, 3, 4, 5, 6, 7, 8, 9, 10, 11] .nil)
  | 9 => (ones [0, 1, 2, 3, 4, 5, 6, 7, 10, 11, 12, 13, 14, 15, 16, 17, 18, 19] (.two 8 (ones [9, 20, 21, 22] .nil) 21 (ones [8, 9, 20, 22] .nil)))
  | 11 => (ones [0, 1, 2, 3, 4, 5, 6] .nil)
  | 19 => (ones [0, 1, 2, 3, 4, 5, 6, 7, 8, 9, 10, 11, 12, 13, 14] .nil)
  | 21 => (ones [0, 1, 2, 3, 4, 5, 6, 7, 8, 9, 10, 11, 12, 13, 14] .nil)
  | _ => .nil
noncomputable def z12_g58 (S : J2) (x0 x1 : Value) (H : Heap) : Prop :=
  newE 35 (Value.cells x1) H fun v3 H1 =>
  S x0 v3 H1
theorem z12_g58_e (S : J2) (x H) : WE z12_pi z12_c2 148 (fun l => S (gd l 0) (gd l 3)) x H = z12_g58 S (x 0) (x 1) H := by kernel_rfl
noncomputable def z12_g59 (S : J2) (x0 x3 : Value) (H : Heap) : Prop :=
  bnd (nilV x0) fun v14 =>
  bnd (faV 5 v14) fun v15 =>
  bnd (ldE false 1 v15 H) fun v16 =>
  bnd (faV 1 x3) fun v17 =>
  bnd (ldE false 1 v17 H) fun v18 =>
  EvF P N.sounderref00_Bring #[v18, (.int .i64 1073741824)] H fun v19 H1 =>
  ((bnd (ldE false 1 v15 H1) fun v' => v' = v16) ∧
  bnd (binV .int .add v16 v19) fun v20 =>
  bnd (nilV x0) fun v21 =>
  bnd (faV 5 v21) fun v22 =>
  bnd (stE 1 v22 v20 H1) fun H2 =>
  S x0 x3 H2)
theorem z12_g59_e (S : J2) (x H) : WE z12_pi z12_c4 148 (fun l => S (gd l 0) (gd l 3)) x H = z12_g59 S (x 0) (x 3) H := by kernel_rfl
noncomputable def z12_g60 (S : J3) (x0 x3 : Value) (H : Heap) : Prop :=
  bnd (faV 0 x3) fun v23 =>
  bnd (ldE false 1 v23 H) fun v24 =>
  EvF P N.sounderref00_Bring #[v24, (.int .i64 6)] H fun v25 H1 =>
  S x0 x3 v25 H1
theorem z12_g60_e (S : J3) (x H) : WE z12_pi z12_c7 148 (fun l => S (gd l 0) (gd l 3) (gd l 25)) x H = z12_g60 S (x 0) (x 3) H := by kernel_rfl
noncomputable def z12_g62 (S : J3) (x0 x3 : Value) (H : Heap) : Prop :=
  bnd (nilV x0) fun v31 =>
  bnd (faV 0 v31) fun v32 =>
  bnd (ldE false 1 v32 H) fun v33 =>
  EvF P N.space_Space_Last #[v33] H fun v34 H1 =>
  bnd (binV .int .add v34 (.int .i64 1)) fun v35 =>
  S x0 x3 v35 H1
theorem z12_g62_e (S : J3) (x H) : WE z12_pi z12_c19 148 (fun l => S (gd l 0) (gd l 3) (gd l 5)) x H = z12_g62 S (x 0) (x 3) H := by kernel_rfl
noncomputable def z12_g64 (S : J3) (x0 x3 x5 : Value) (H : Heap) : Prop :=
  bnd (nilV x0) fun v49 =>
  bnd (faV 5 v49) fun v50 =>
  bnd (ldE false 1 v50 H) fun v51 =>
  bnd (faV 2 x3) fun v52 =>
  bnd (ixAV 1 3 v52 (.int .i64 2)) fun v53 =>
  bnd (ldE false 1 v53 H) fun v54 =>
  bnd (faV 2 x3) fun v57 =>
  bnd (ixAV 1 3 v57 (.int .i64 0)) fun v58 =>
  bnd (ldE false 1 v58 H) fun v59 =>
  bnd (binV .int .rem v59 (.int .i64 3)) fun v60 =>
  bnd (binV .int .neq v60 (.int .i64 0)) fun v61 =>
  bnd (faV 2 x3) fun v62 =>
  bnd (ixAV 1 3 v62 (.int .i64 0)) fun v63 =>
  bnd (ldE false 1 v63 H) fun v64 =>
  bnd (binV .int .rem v64 (.int .i64 5)) fun v65 =>
  bnd (binV .int .neq v65 (.int .i64 0)) fun v66 =>
  ((EvF P N.sounderref00_Bring #[v54, (.int .i64 2000)] H fun v55 H1 =>
  ((bnd (ldE false 1 v63 H1) fun v' => v' = v64) ∧
  ((bnd (ldE false 1 v58 H1) fun v' => v' = v59) ∧
  ((bnd (ldE false 1 v50 H1) fun v' => v' = v51) ∧
  bnd (binV .int .add (.int .i64 1) v55) fun v56 =>
  bnd (buildV #[(.int .i64 0), (.int .i64 0), (.int .i64 0), (.bool false), (.bool false), (.bool false)] (places [(0, 1), (1, 1), (2, 1), (3, 1), (4, 1), (5, 1)]) [(0, x5), (1, v51), (2, v56), (3, v61), (4, v66)]) fun v67 =>
  newE 40 #[(.int .i64 0), (.int .i64 0), (.int .i64 0), (.bool false), (.bool false), (.bool false)] H1 fun v6 H2 =>
  ((bnd (ldE false 1 v63 H2) fun v' => v' = v64) ∧
  ((bnd (ldE false 1 v58 H2) fun v' => v' = v59) ∧
  ((bnd (ldE false 1 v50 H2) fun v' => v' = v51) ∧
  bnd (stE 6 v6 v67 H2) fun H3 =>
  S x0 x5 v6 H3))))))) ∧
  (newE 40 #[(.int .i64 0), (.int .i64 0), (.int .i64 0), (.bool false), (.bool false), (.bool false)] H fun v6_2 H4 =>
  ((bnd (ldE false 1 v63 H4) fun v' => v' = v64) ∧
  ((bnd (ldE false 1 v58 H4) fun v' => v' = v59) ∧
  ((bnd (ldE false 1 v53 H4) fun v' => v' = v54) ∧
  ((bnd (ldE false 1 v50 H4) fun v' => v' = v51) ∧
  EvF P N.sounderref00_Bring #[v54, (.int .i64 2000)] H4 fun v55_2 H5 =>
  ((bnd (ldE false 1 v63 H5) fun v' => v' = v64) ∧
  ((bnd (ldE false 1 v58 H5) fun v' => v' = v59) ∧
  ((bnd (ldE false 1 v50 H5) fun v' => v' = v51) ∧
  bnd (binV .int .add (.int .i64 1) v55_2) fun v56_2 =>
  bnd (buildV #[(.int .i64 0), (.int .i64 0), (.int .i64 0), (.bool false), (.bool false), (.bool false)] (places [(0, 1), (1, 1), (2, 1), (3, 1), (4, 1), (5, 1)]) [(0, x5), (1, v51), (2, v56_2), (3, v61), (4, v66)]) fun v67_2 =>
  bnd (stE 6 v6_2 v67_2 H5) fun H6 =>
  S x0 x5 v6_2 H6)))))))))
theorem z12_g64_e (S : J3) (x H) : WE z12_pi z12_c26 148 (fun l => S (gd l 0) (gd l 5) (gd l 6)) x H = z12_g64 S (x 0) (x 3) (x 5) H := by kernel_rfl
noncomputable def z12_g65 (S : J3) (x0 x5 x6 : Value) (H : Heap) : Prop :=
  bnd (faV 3 x6) fun v68 =>
  bnd (ldE false 1 v68 H) fun v69 =>
  brV v69
  (bnd (faV 4 x6) fun v71 =>
  bnd (ldE false 1 v71 H) fun v72 =>
  bnd (faV 3 x6) fun v74 =>
  bnd (stE 1 v74 v72 H) fun H1 =>
  S x0 x5 x6 H1)
  (bnd (faV 3 x6) fun v74_2 =>
  bnd (stE 1 v74_2 (.bool false) H) fun H2 =>
  S x0 x5 x6 H2)
theorem z12_g65_e (S : J3) (x H) : WE z12_pi z12_c28 148 (fun l => S (gd l 0) (gd l 5) (gd l 6)) x H = z12_g65 S (x 0) (x 5) (x 6) H := by kernel_rfl
noncomputable def z12_g66 (S : J3) (x0 x5 x6 : Value) (H : Heap) : Prop :=
  bnd (nilV x0) fun v76 =>
  bnd (faV 0 v76) fun v77 =>
  bnd (ldE false 1 v77 H) fun v78 =>
  bnd (ldE true 6 x6 H) fun v79 =>
  EvF P N.space_Space_Sent #[v78, v79] H fun v80 H1 =>
  S x0 x5 v80 H1
theorem z12_g66_e (S : J3) (x H) : WE z12_pi z12_c30 148 (fun l => S (gd l 0) (gd l 5) (gd l 7)) x H = z12_g66 S (x 0) (x 5) (x 6) H := by kernel_rfl
noncomputable def z12_g68 (S : J1) (x7 : Value) (H : Heap) : Prop :=
  bnd (binV .int .eql x7 (.int .i64 0)) fun v94 =>
  brV v94
  (S (.bool true) H)
  (bnd (binV .int .eql x7 (.int .i64 5)) fun v97 =>
  S v97 H)
theorem z12_g68_e (S : J1) (x H) : WE z12_pi z12_c37 148 (fun l => S (gd l 4)) x H = z12_g68 S (x 7) H := by kernel_rfl
noncomputable def z12_s67 (x7 : Value) (R : J1) (H : Heap) : Prop :=
  z12_g68 (fun x4 H => R x4 H) x7 H
noncomputable def z12_q69 (R : J1) : JQ := (retQ tab z12_rs R)
noncomputable def z12_q70 (R : J1) : JQ := (thenE (fun l H => wpE tab P z12_pi z12_c54 (z12_q69 R) l H) (z12_q69 R))
noncomputable def z12_q71 (R : J1) : JQ := (blkE 0 (z12_q70 R))
theorem z12_s67_i (R : J1) (l : List Value) (H : Heap) (hl : l.length = 148) (h : z12_s67 (gd l 7) R H) : wpE tab P z12_pi z12_c36 (z12_q71 R) l H := sr rfl hl (z12_g68_e _ (gd l) _) h fun l H hl h => rt rfl h
noncomputable def z12_g72 (S : J4) (x0 x5 x7 : Value) (H : Heap) : Prop :=
  bnd (binV .int .eql x7 (.int .i64 0)) fun v82 =>
  S x0 x5 x7 v82 H
theorem z12_g72_e (S : J4) (x H) : WE z12_pi z12_c33 148 (fun l => S (gd l 0) (gd l 5) (gd l 7) (gd l 82)) x H = z12_g72 S (x 0) (x 5) (x 7) H := by kernel_rfl
noncomputable def z12_g73 (S : J1) (x0 x5 x7 : Value) (H : Heap) : Prop :=
  bnd (nilV x0) fun v85 =>
  bnd (faV 1 v85) fun v86 =>
  bnd (ldE false 1 v86 H) fun v87 =>
  bslE 3 #[(.int .i64 0)] 1 1 [(0, x5)] H fun v89 H1 =>
  appE 3 #[(.int .i64 0)] 1 8 v87 v89 H1 fun v90 H2 =>
  bnd (nilV x0) fun v91 =>
  bnd (faV 1 v91) fun v92 =>
  bnd (stE 1 v92 v90 H2) fun H3 =>
  S x7 H3
theorem z12_g73_e (S : J1) (x H) : WE z12_pi z12_c35 148 (fun l => S (gd l 7)) x H = z12_g73 S (x 0) (x 5) (x 7) H := by kernel_rfl
noncomputable def z12_s63 (x0 x3 x5 : Value) (R : J1) (H : Heap) : Prop :=
  z12_g64 (fun x0 x5 x6 H => z12_g65 (fun x0 x5 x6 H => z12_g66 (fun x0 x5 x7 H => z12_g72 (fun x0 x5 x7 x82 H => brV x82
  (z12_g73 (fun x7 H => z12_s67 x7 R H) x0 x5 x7 H)
  (z12_s67 x7 R H)) x0 x5 x7 H) x0 x5 x6 H) x0 x5 x6 H) x0 x3 x5 H
theorem z12_s63_i (R : J1) (l : List Value) (H : Heap) (hl : l.length = 148) (h : z12_s63 (gd l 0) (gd l 3) (gd l 5) R H) : wpE tab P z12_pi z12_c25 (z12_q71 R) l H := sr rfl hl (z12_g64_e _ (gd l) _) h fun l H hl h => sr rfl hl (z12_g65_e _ (gd l) _) h fun l H hl h => sr rfl hl (z12_g66_e _ (gd l) _) h fun l H hl h => sq rfl <| sr rfl hl (z12_g72_e _ (gd l) _) h fun l H hl h => cd rfl h (fun h => rj hl (z12_g73_e _ (gd l) _) h fun l H hl h => tN <| z12_s67_i R l H hl h) fun h => kN rfl <| z12_s67_i R l H hl h
noncomputable def z12_g74 (S : J4) (x0 x3 x5 : Value) (H : Heap) : Prop :=
  bnd (faV 2 x3) fun v36 =>
  bnd (ixAV 1 3 v36 (.int .i64 0)) fun v37 =>
  bnd (ldE false 1 v37 H) fun v38 =>
  EvF P N.sounderref00_Bring #[v38, (.int .i64 4)] H fun v39 H1 =>
  bnd (binV .int .eql v39 (.int .i64 0)) fun v40 =>
  S x0 x3 x5 v40 H1
theorem z12_g74_e (S : J4) (x H) : WE z12_pi z12_c22 148 (fun l => S (gd l 0) (gd l 3) (gd l 5) (gd l 40)) x H = z12_g74 S (x 0) (x 3) (x 5) H := by kernel_rfl
noncomputable def z12_g75 (S : J3) (x0 x3 x5 : Value) (H : Heap) : Prop :=
  bnd (faV 2 x3) fun v42 =>
  bnd (ixAV 1 3 v42 (.int .i64 1)) fun v43 =>
  bnd (ldE false 1 v43 H) fun v44 =>
  EvF P N.sounderref00_Bring #[v44, (.int .i64 3)] H fun v45 H1 =>
  bnd (binV .int .add x5 v45) fun v46 =>
  S x0 x3 v46 H1
theorem z12_g75_e (S : J3) (x H) : WE z12_pi z12_c24 148 (fun l => S (gd l 0) (gd l 3) (gd l 5)) x H = z12_g75 S (x 0) (x 3) (x 5) H := by kernel_rfl
noncomputable def z12_g77 (S : J3) (x0 x3 : Value) (H : Heap) : Prop :=
  bnd (nilV x0) fun v103 =>
  bnd (faV 1 v103) fun v104 =>
  bnd (ldE false 1 v104 H) fun v105 =>
  bnd (lenV v105) fun v106 =>
  bnd (binV .int .eql v106 (.int .i64 0)) fun v107 =>
  S x0 x3 v107 H
theorem z12_g77_e (S : J3) (x H) : WE z12_pi z12_c46 148 (fun l => S (gd l 0) (gd l 3) (gd l 107)) x H = z12_g77 S (x 0) (x 3) H := by kernel_rfl
noncomputable def z12_g78 (S : J1) (H : Heap) : Prop :=
  S (.bool true) H
theorem z12_g78_e (S : J1) (x H) : WE z12_pi z12_c49 148 (fun l => S (gd l 4)) x H = z12_g78 S  H := by kernel_rfl
noncomputable def z12_g79 (S : J3) (x0 x3 : Value) (H : Heap) : Prop :=
  bnd (nilV x0) fun v110 =>
  bnd (faV 0 v110) fun v111 =>
  bnd (ldE false 1 v111 H) fun v112 =>
  bnd (faV 2 x3) fun v114 =>
  bnd (ldE true 3 v114 H) fun v115 =>
  EvF P N.sounderlaw17_run_ranges #[x0, v115] H fun v116 H1 =>
  ((bnd (ldE false 1 v111 H1) fun v' => v' = v112) ∧
  EvF P N.sounderlaw17_ack #[v116] H1 fun v117 H2 =>
  ((bnd (ldE false 1 v111 H2) fun v' => v' = v112) ∧
  EvF P N.space_Space_Ack #[v112, v117] H2 fun v118 H3 =>
  bnd (exV 0 v118) fun v119 =>
  bnd (exV 1 v118) fun v120 =>
  S x0 v119 v120 H3))
theorem z12_g79_e (S : J3) (x H) : WE z12_pi z12_c51 148 (fun l => S (gd l 0) (gd l 8) (gd l 9)) x H = z12_g79 S (x 0) (x 3) H := by kernel_rfl
noncomputable def z12_g80 (S : J1) (x0 x8 x9 : Value) (H : Heap) : Prop :=
  bnd (binV .int .eql x9 (.int .i64 0)) fun v122 =>
  brV v122
  (EvF P N.sounderlaw17_run_take #[x0, x8, (.bool true)] H fun v126 H1 =>
  S v126 H1)
  (S (.bool false) H)
theorem z12_g80_e (S : J1) (x H) : WE z12_pi z12_c53 148 (fun l => S (gd l 4)) x H = z12_g80 S (x 0) (x 8) (x 9) H := by kernel_rfl
noncomputable def z12_g81 (S : J3) (x0 : Value) (H : Heap) : Prop :=
  bnd (nilV x0) fun v130 =>
  bnd (faV 0 v130) fun v131 =>
  bnd (ldE false 1 v131 H) fun v132 =>
  bnd (nilV x0) fun v134 =>
  bnd (faV 5 v134) fun v135 =>
  bnd (ldE false 1 v135 H) fun v136 =>
  EvF P N.sounderlaw17_steady #[] H fun v137 H1 =>
  ((bnd (ldE false 1 v135 H1) fun v' => v' = v136) ∧
  ((bnd (ldE false 1 v131 H1) fun v' => v' = v132) ∧
  EvF P N.space_Space_Lose #[v132, v136, v137] H1 fun v138 H2 =>
  bnd (exV 0 v138) fun v139 =>
  bnd (exV 1 v138) fun v140 =>
  S x0 v139 v140 H2))
theorem z12_g81_e (S : J3) (x H) : WE z12_pi z12_c55 148 (fun l => S (gd l 0) (gd l 10) (gd l 11)) x H = z12_g81 S (x 0) H := by kernel_rfl
noncomputable def z12_g82 (S : J1) (x0 x10 x11 : Value) (H : Heap) : Prop :=
  bnd (binV .int .eql x11 (.int .i64 0)) fun v142 =>
  brV v142
  (EvF P N.sounderlaw17_run_take #[x0, x10, (.bool false)] H fun v146 H1 =>
  S v146 H1)
  (S (.bool false) H)
theorem z12_g82_e (S : J1) (x H) : WE z12_pi z12_c57 148 (fun l => S (gd l 4)) x H = z12_g82 S (x 0) (x 10) (x 11) H := by kernel_rfl
noncomputable def z12_s76 (x0 x3 x99 : Value) (R : J1) (H : Heap) : Prop :=
  brV x99
  (z12_g77 (fun x0 x3 x107 H => brV x107
  (z12_g78 (fun x4 H => R x4 H) H)
  (z12_g79 (fun x0 x8 x9 H => z12_g80 (fun x4 H => R x4 H) x0 x8 x9 H) x0 x3 H)) x0 x3 H)
  (z12_g81 (fun x0 x10 x11 H => z12_g82 (fun x4 H => R x4 H) x0 x10 x11 H) x0 H)
theorem z12_s76_i (R : J1) (l : List Value) (H : Heap) (hl : l.length = 148) (h : z12_s76 (gd l 0) (gd l 3) (gd l 99) R H) : wpE tab P z12_pi z12_c43 (z12_q71 R) l H := cd rfl h (fun h => sq rfl <| sr rfl hl (z12_g77_e _ (gd l) _) h fun l H hl h => cd rfl h (fun h => sr rfl hl (z12_g78_e _ (gd l) _) h fun l H hl h => rt rfl h) fun h => kN rfl <| sr rfl hl (z12_g79_e _ (gd l) _) h fun l H hl h => sr rfl hl (z12_g80_e _ (gd l) _) h fun l H hl h => rt rfl h) fun h => sk rfl <| bN <| tN <| sr rfl hl (z12_g81_e _ (gd l) _) h fun l H hl h => sr rfl hl (z12_g82_e _ (gd l) _) h fun l H hl h => rt rfl h
noncomputable def z12_g83 (S : J4) (x0 x3 x25 : Value) (H : Heap) : Prop :=
  bnd (binV .int .eql x25 (.int .i64 3)) fun v100 =>
  S x0 x3 x25 v100 H
theorem z12_g83_e (S : J4) (x H) : WE z12_pi z12_c40 148 (fun l => S (gd l 0) (gd l 3) (gd l 25) (gd l 99)) x H = z12_g83 S (x 0) (x 3) (x 25) H := by kernel_rfl
noncomputable def z12_g84 (S : J3) (x0 x3 x25 : Value) (H : Heap) : Prop :=
  bnd (binV .int .eql x25 (.int .i64 4)) fun v101 =>
  S x0 x3 v101 H
theorem z12_g84_e (S : J3) (x H) : WE z12_pi z12_c42 148 (fun l => S (gd l 0) (gd l 3) (gd l 99)) x H = z12_g84 S (x 0) (x 3) (x 25) H := by kernel_rfl
noncomputable def z12_s61 (x0 x3 x25 x26 : Value) (R : J1) (H : Heap) : Prop :=
  brV x26
  (z12_g62 (fun x0 x3 x5 H => z12_g74 (fun x0 x3 x5 x40 H => brV x40
  (z12_g75 (fun x0 x3 x5 H => z12_s63 x0 x3 x5 R H) x0 x3 x5 H)
  (z12_s63 x0 x3 x5 R H)) x0 x3 x5 H) x0 x3 H)
  (z12_g83 (fun x0 x3 x25 x99 H => brV x99
  (z12_s76 x0 x3 x99 R H)
  (z12_g84 (fun x0 x3 x99 H => z12_s76 x0 x3 x99 R H) x0 x3 x25 H)) x0 x3 x25 H)
theorem z12_s61_i (R : J1) (l : List Value) (H : Heap) (hl : l.length = 148) (h : z12_s61 (gd l 0) (gd l 3) (gd l 25) (gd l 26) R H) : wpE tab P z12_pi z12_c17 (z12_q71 R) l H := cd rfl h (fun h => sr rfl hl (z12_g62_e _ (gd l) _) h fun l H hl h => sq rfl <| sr rfl hl (z12_g74_e _ (gd l) _) h fun l H hl h => cd rfl h (fun h => rj hl (z12_g75_e _ (gd l) _) h fun l H hl h => tN <| z12_s63_i R l H hl h) fun h => kN rfl <| z12_s63_i R l H hl h) fun h => sq rfl <| sr rfl hl (z12_g83_e _ (gd l) _) h fun l H hl h => cd rfl h (fun h => kN rfl <| z12_s76_i R l H hl h) fun h => rj hl (z12_g84_e _ (gd l) _) h fun l H hl h => tN <| z12_s76_i R l H hl h
noncomputable def z12_g85 (S : J4) (x0 x3 x25 : Value) (H : Heap) : Prop :=
  bnd (binV .int .eql x25 (.int .i64 0)) fun v27 =>
  S x0 x3 x25 v27 H
theorem z12_g85_e (S : J4) (x H) : WE z12_pi z12_c11 148 (fun l => S (gd l 0) (gd l 3) (gd l 25) (gd l 26)) x H = z12_g85 S (x 0) (x 3) (x 25) H := by kernel_rfl
noncomputable def z12_g86 (S : J4) (x0 x3 x25 : Value) (H : Heap) : Prop :=
  bnd (binV .int .eql x25 (.int .i64 1)) fun v28 =>
  S x0 x3 x25 v28 H
theorem z12_g86_e (S : J4) (x H) : WE z12_pi z12_c14 148 (fun l => S (gd l 0) (gd l 3) (gd l 25) (gd l 26)) x H = z12_g86 S (x 0) (x 3) (x 25) H := by kernel_rfl
noncomputable def z12_g87 (S : J4) (x0 x3 x25 : Value) (H : Heap) : Prop :=
  bnd (binV .int .eql x25 (.int .i64 2)) fun v29 =>
  S x0 x3 x25 v29 H
theorem z12_g87_e (S : J4) (x H) : WE z12_pi z12_c16 148 (fun l => S (gd l 0) (gd l 3) (gd l 25) (gd l 26)) x H = z12_g87 S (x 0) (x 3) (x 25) H := by kernel_rfl
def sounderlaw17_run_step (x0 x1 : Value) (R : Value → Heap → Prop) (H : Heap) : Prop :=
  z12_g58 (fun x0 x3 H => z12_g59 (fun x0 x3 H => z12_g60 (fun x0 x3 x25 H => z12_g85 (fun x0 x3 x25 x26 H => brV x26
  (z12_s61 x0 x3 x25 x26 R H)
  (z12_g86 (fun x0 x3 x25 x26 H => brV x26
  (z12_s61 x0 x3 x25 x26 R H)
  (z12_g87 (fun x0 x3 x25 x26 H => z12_s61 x0 x3 x25 x26 R H) x0 x3 x25 H)) x0 x3 x25 H)) x0 x3 x25 H) x0 x3 H) x0 x3 H) x0 x1 H
theorem z12_ev (x0 x1 : Value) (R : J1) (H : Heap) (h : sounderlaw17_run_step x0 x1 R H) : EvF P N.sounderlaw17_run_step #[x0, x1] H R := .inl (EvF_intro (args := [x0, x1]) (k := 146) (rs := z12_rs) tab_ok mixed Tryz.func12 (show Tryz.f12.body = some z12_c1 by kernel_rfl) Tryz.call12 Tryz.ntmps12 (by kernel_rfl) (okCode_of _ (show okB z12_pi z12_c1 = true by kernel_rfl)) (fr_eq _ _) (fj (n := 148) rfl (fun l hl (h : sounderlaw17_run_step (gd l 0) (gd l 1) R H) => sr rfl hl (z12_g58_e _ (gd l) _) h fun l H hl h => sr rfl hl (z12_g59_e _ (gd l) _) h fun l H hl h => sq rfl <| sr rfl hl (z12_g60_e _ (gd l) _) h fun l H hl h => bl rfl <| sq rfl <| sr rfl hl (z12_g85_e _ (gd l) _) h fun l H hl h => cd rfl h (fun h => kN rfl <| z12_s61_i R l H hl h) fun h => sr rfl hl (z12_g86_e _ (gd l) _) h fun l H hl h => cd rfl h (fun h => kN rfl <| z12_s61_i R l H hl h) fun h => rj hl (z12_g87_e _ (gd l) _) h fun l H hl h => tN <| z12_s61_i R l H hl h) h))
/- 13: (*sounder/space.Space).Greatest -/
def z13_rs : List ResultVar := [.tmp 2]
noncomputable def z13_c2 := sc Tryz.f13 [0]
noncomputable def z13_c4 := sc Tryz.f13 [1,0]
noncomputable def z13_c3 : Code := .seq z13_c4 Code.ret
noncomputable def z13_c1 : Code := .seq z13_c2 z13_c3
def z13_pi (_ : Nat) : Pl := .nil
noncomputable def z13_g5 (S : J1) (x0 : Value) (H : Heap) : Prop :=
  newE 23 (Value.cells x0) H fun v1 H1 =>
  S v1 H1
theorem z13_g5_e (S : J1) (x H) : WE z13_pi z13_c2 6 (fun l => S (gd l 1)) x H = z13_g5 S (x 0) H := by kernel_rfl
noncomputable def z13_g6 (S : J1) (x1 : Value) (H : Heap) : Prop :=
  bnd (ldE false 1 x1 H) fun v3 =>
  EvF P N.space_Space_one #[v3, (.func (.func N.space_Space_Greatest_1) #[] #[x1])] H fun v5 H1 =>
  S v5 H1
theorem z13_g6_e (S : J1) (x H) : WE z13_pi z13_c4 6 (fun l => S (gd l 2)) x H = z13_g6 S (x 1) H := by kernel_rfl
def space_Space_Greatest (x0 : Value) (R : Value → Heap → Prop) (H : Heap) : Prop :=
  z13_g5 (fun x1 H => z13_g6 (fun x2 H => R x2 H) x1 H) x0 H
theorem z13_ev (x0 : Value) (R : J1) (H : Heap) (h : space_Space_Greatest x0 R H) : EvF P N.space_Space_Greatest #[x0] H R := .inl (EvF_intro (args := [x0]) (k := 5) (rs := z13_rs) tab_ok mixed Tryz.func13 (show Tryz.f13.body = some z13_c1 by kernel_rfl) Tryz.call13 Tryz.ntmps13 (by kernel_rfl) (okCode_of _ (show okB z13_pi z13_c1 = true by kernel_rfl)) (fr_eq _ _) (fj (n := 6) rfl (fun l hl (h : space_Space_Greatest (gd l 0) R H) => sr rfl hl (z13_g5_e _ (gd l) _) h fun l H hl h => sr rfl hl (z13_g6_e _ (gd l) _) h fun l H hl h => rt rfl h) h))
/- 14: (*sounder/space.Space).All -/
def z14_rs : List ResultVar := [.tmp 2]
noncomputable def z14_c2 := sc Tryz.f14 [0]
noncomputable def z14_c5 := sc Tryz.f14 [1,0,0]
noncomputable def z14_c8 := sc Tryz.f14 [1,0,1,0,0]
noncomputable def z14_c7 : Code := .seq z14_c8 Code.ret
noncomputable def z14_c6 : Code := .cond (.tmp 4) z14_c7 Code.skip
noncomputable def z14_c4 : Code := .seq z14_c5 z14_c6
noncomputable def z14_c10 := sc Tryz.f14 [1,1,0]
noncomputable def z14_c9 : Code := .seq z14_c10 Code.ret
noncomputable def z14_c3 : Code := .seq z14_c4 z14_c9
noncomputable def z14_c1 : Code := .seq z14_c2 z14_c3
def z14_pi (_ : Nat) : Pl := .nil
noncomputable def z14_g11 (S : J1) (x0 : Value) (H : Heap) : Prop :=
  S x0 H
theorem z14_g11_e (S : J1) (x H) : WE z14_pi z14_c2 10 (fun l => S (gd l 0)) x H = z14_g11 S (x 0) H := by kernel_rfl
noncomputable def z14_g12 (S : J2) (x0 : Value) (H : Heap) : Prop :=
  EvF P N.space_Space_none #[x0] H fun v4 H1 =>
  S x0 v4 H1
theorem z14_g12_e (S : J2) (x H) : WE z14_pi z14_c5 10 (fun l => S (gd l 0) (gd l 4)) x H = z14_g12 S (x 0) H := by kernel_rfl
noncomputable def z14_g13 (S : J1) (H : Heap) : Prop :=
  S (.slice none 0 0) H
theorem z14_g13_e (S : J1) (x H) : WE z14_pi z14_c8 10 (fun l => S (gd l 2)) x H = z14_g13 S  H := by kernel_rfl
noncomputable def z14_g14 (S : J1) (x0 : Value) (H : Heap) : Prop :=
  bnd (nilV x0) fun v6 =>
  bnd (faV 0 v6) fun v7 =>
  bnd (ldE false 1 v7 H) fun v8 =>
  EvF P N.sent_Log_All #[v8] H fun v9 H1 =>
  S v9 H1
theorem z14_g14_e (S : J1) (x H) : WE z14_pi z14_c10 10 (fun l => S (gd l 2)) x H = z14_g14 S (x 0) H := by kernel_rfl
def space_Space_All (x0 : Value) (R : Value → Heap → Prop) (H : Heap) : Prop :=
  z14_g11 (fun x0 H => z14_g12 (fun x0 x4 H => brV x4
  (z14_g13 (fun x2 H => R x2 H) H)
  (z14_g14 (fun x2 H => R x2 H) x0 H)) x0 H) x0 H
theorem z14_ev (x0 : Value) (R : J1) (H : Heap) (h : space_Space_All x0 R H) : EvF P N.space_Space_All #[x0] H R := .inl (EvF_intro (args := [x0]) (k := 9) (rs := z14_rs) tab_ok mixed Tryz.func14 (show Tryz.f14.body = some z14_c1 by kernel_rfl) Tryz.call14 Tryz.ntmps14 (by kernel_rfl) (okCode_of _ (show okB z14_pi z14_c1 = true by kernel_rfl)) (fr_eq _ _) (fj (n := 10) rfl (fun l hl (h : space_Space_All (gd l 0) R H) => sr rfl hl (z14_g11_e _ (gd l) _) h fun l H hl h => sq rfl <| sr rfl hl (z14_g12_e _ (gd l) _) h fun l H hl h => cd rfl h (fun h => sr rfl hl (z14_g13_e _ (gd l) _) h fun l H hl h => rt rfl h) fun h => kN rfl <| sr rfl hl (z14_g14_e _ (gd l) _) h fun l H hl h => rt rfl h) h))
/- 15: (*sounder/space.Space).Loss -/
def z15_rs : List ResultVar := [.tmp 2]
noncomputable def z15_c2 := sc Tryz.f15 [0]
noncomputable def z15_c4 := sc Tryz.f15 [1,0]
noncomputable def z15_c3 : Code := .seq z15_c4 Code.ret
noncomputable def z15_c1 : Code := .seq z15_c2 z15_c3
def z15_pi (_ : Nat) : Pl := .nil
noncomputable def z15_g5 (S : J1) (x0 : Value) (H : Heap) : Prop :=
  newE 23 (Value.cells x0) H fun v1 H1 =>
  S v1 H1
theorem z15_g5_e (S : J1) (x H) : WE z15_pi z15_c2 6 (fun l => S (gd l 1)) x H = z15_g5 S (x 0) H := by kernel_rfl
noncomputable def z15_g6 (S : J1) (x1 : Value) (H : Heap) : Prop :=
  bnd (ldE false 1 x1 H) fun v3 =>
  EvF P N.space_Space_one #[v3, (.func (.func N.space_Space_Loss_1) #[] #[x1])] H fun v5 H1 =>
  S v5 H1
theorem z15_g6_e (S : J1) (x H) : WE z15_pi z15_c4 6 (fun l => S (gd l 2)) x H = z15_g6 S (x 1) H := by kernel_rfl
def space_Space_Loss (x0 : Value) (R : Value → Heap → Prop) (H : Heap) : Prop :=
  z15_g5 (fun x1 H => z15_g6 (fun x2 H => R x2 H) x1 H) x0 H
theorem z15_ev (x0 : Value) (R : J1) (H : Heap) (h : space_Space_Loss x0 R H) : EvF P N.space_Space_Loss #[x0] H R := .inl (EvF_intro (args := [x0]) (k := 5) (rs := z15_rs) tab_ok mixed Tryz.func15 (show Tryz.f15.body = some z15_c1 by kernel_rfl) Tryz.call15 Tryz.ntmps15 (by kernel_rfl) (okCode_of _ (show okB z15_pi z15_c1 = true by kernel_rfl)) (fr_eq _ _) (fj (n := 6) rfl (fun l hl (h : space_Space_Loss (gd l 0) R H) => sr rfl hl (z15_g5_e _ (gd l) _) h fun l H hl h => sr rfl hl (z15_g6_e _ (gd l) _) h fun l H hl h => rt rfl h) h))
/- 16: sounder/sounderlaw17.works -/
def z16_rs : List ResultVar := [.tmp 0]
noncomputable def z16_c2 := sc Tryz.f16 [0]
noncomputable def z16_c4 := sc Tryz.f16 [1,0]
noncomputable def z16_c7 := sc Tryz.f16 [1,1,0,0]
noncomputable def z16_c10 := sc Tryz.f16 [1,1,0,1,0,0]
noncomputable def z16_c9 : Code := .seq z16_c10 Code.ret
noncomputable def z16_c8 : Code := .cond (.tmp 21) z16_c9 Code.skip
noncomputable def z16_c6 : Code := .seq z16_c7 z16_c8
noncomputable def z16_c13 := sc Tryz.f16 [1,1,1,0,0]
noncomputable def z16_c18 := sc Tryz.f16 [1,1,1,0,1,0,0,0,0]
noncomputable def z16_c20 : Code := .exit 0
noncomputable def z16_c19 : Code := .cond (.tmp 23) Code.skip z16_c20
noncomputable def z16_c17 : Code := .seq z16_c18 z16_c19
noncomputable def z16_c24 := sc Tryz.f16 [1,1,1,0,1,0,0,1,0,0,0]
noncomputable def z16_c27 := sc Tryz.f16 [1,1,1,0,1,0,0,1,0,0,1,0,0]
noncomputable def z16_c26 : Code := .seq z16_c27 Code.ret
noncomputable def z16_c25 : Code := .cond (.tmp 36) z16_c26 Code.skip
noncomputable def z16_c23 : Code := .seq z16_c24 z16_c25
noncomputable def z16_c22 : Code := .block 1 z16_c23
noncomputable def z16_c28 := sc Tryz.f16 [1,1,1,0,1,0,0,1,1]
noncomputable def z16_c21 : Code := .seq z16_c22 z16_c28
noncomputable def z16_c16 : Code := .seq z16_c17 z16_c21
noncomputable def z16_c15 : Code := .loop z16_c16
noncomputable def z16_c14 : Code := .block 0 z16_c15
noncomputable def z16_c12 : Code := .seq z16_c13 z16_c14
noncomputable def z16_c31 := sc Tryz.f16 [1,1,1,1,0,0]
noncomputable def z16_c34 := sc Tryz.f16 [1,1,1,1,0,1,0,0]
noncomputable def z16_c33 : Code := .seq z16_c34 Code.ret
noncomputable def z16_c32 : Code := .cond (.tmp 61) z16_c33 Code.skip
noncomputable def z16_c30 : Code := .seq z16_c31 z16_c32
noncomputable def z16_c36 := sc Tryz.f16 [1,1,1,1,1,0]
noncomputable def z16_c38 := sc Tryz.f16 [1,1,1,1,1,1,0]
noncomputable def z16_c40 := sc Tryz.f16 [1,1,1,1,1,1,1,0]
noncomputable def z16_c43 := sc Tryz.f16 [1,1,1,1,1,1,1,1,0,0]
noncomputable def z16_c46 := sc Tryz.f16 [1,1,1,1,1,1,1,1,0,1,0,0]
noncomputable def z16_c45 : Code := .seq z16_c46 Code.ret
noncomputable def z16_c44 : Code := .cond (.tmp 122) z16_c45 Code.skip
noncomputable def z16_c42 : Code := .seq z16_c43 z16_c44
noncomputable def z16_c48 := sc Tryz.f16 [1,1,1,1,1,1,1,1,1,0]
noncomputable def z16_c50 := sc Tryz.f16 [1,1,1,1,1,1,1,1,1,1,0]
noncomputable def z16_c49 : Code := .seq z16_c50 Code.ret
noncomputable def z16_c47 : Code := .seq z16_c48 z16_c49
noncomputable def z16_c41 : Code := .seq z16_c42 z16_c47
noncomputable def z16_c39 : Code := .seq z16_c40 z16_c41
noncomputable def z16_c37 : Code := .seq z16_c38 z16_c39
noncomputable def z16_c35 : Code := .seq z16_c36 z16_c37
noncomputable def z16_c29 : Code := .seq z16_c30 z16_c35
noncomputable def z16_c11 : Code := .seq z16_c12 z16_c29
noncomputable def z16_c5 : Code := .seq z16_c6 z16_c11
noncomputable def z16_c3 : Code := .seq z16_c4 z16_c5
noncomputable def z16_c1 : Code := .seq z16_c2 z16_c3
def z16_pi (_ : Nat) : Pl := .nil
noncomputable def z16_g51 (S : J0) (H : Heap) : Prop :=
  S H
theorem z16_g51_e (S : J0) (x H) : WE z16_pi z16_c2 149 (fun _ => S ) x H = z16_g51 S  H := by kernel_rfl
noncomputable def z16_g52 (S : J2) (H : Heap) : Prop :=
  EvF P N.space_New #[(.int .i64 4)] H fun v13 H1 =>
  bnd (exV 0 v13) fun v14 =>
  bnd (exV 1 v13) fun v15 =>
  S v14 v15 H1
theorem z16_g52_e (S : J2) (x H) : WE z16_pi z16_c4 149 (fun l => S (gd l 1) (gd l 2)) x H = z16_g52 S  H := by kernel_rfl
noncomputable def z16_g53 (S : J2) (x1 x2 : Value) (H : Heap) : Prop :=
  bnd (binV .int .neq x2 (.int .i64 0)) fun v17 =>
  brV v17
  (S x1 (.bool true) H)
  (bnd (binV .ptr .eql x1 (.pointer none)) fun v20 =>
  S x1 v20 H)
theorem z16_g53_e (S : J2) (x H) : WE z16_pi z16_c7 149 (fun l => S (gd l 1) (gd l 21)) x H = z16_g53 S (x 1) (x 2) H := by kernel_rfl
noncomputable def z16_g54 (S : J1) (H : Heap) : Prop :=
  S (.bool false) H
theorem z16_g54_e (S : J1) (x H) : WE z16_pi z16_c10 149 (fun l => S (gd l 0)) x H = z16_g54 S  H := by kernel_rfl
noncomputable def z16_g55 (S : J2) (x1 : Value) (H : Heap) : Prop :=
  S x1 (.int .i64 0) H
theorem z16_g55_e (S : J2) (x H) : WE z16_pi z16_c13 149 (fun l => S (gd l 1) (gd l 3)) x H = z16_g55 S (x 1) H := by kernel_rfl
noncomputable def z16_g57 (S : J3) (x1 x3 : Value) (H : Heap) : Prop :=
  bnd (binV .int .lss x3 (.int .i64 4)) fun v23 =>
  S x1 x3 v23 H
theorem z16_g57_e (S : J3) (x H) : WE z16_pi z16_c18 149 (fun l => S (gd l 1) (gd l 3) (gd l 23)) x H = z16_g57 S (x 1) (x 3) H := by kernel_rfl
noncomputable def z16_g58 (S : J3) (x1 x3 : Value) (H : Heap) : Prop :=
  bslE 3 #[(.int .i64 0)] 1 4 [(0, (.int .i64 0)), (1, (.int .i64 1)), (2, (.int .i64 2)), (3, (.int .i64 5))] H fun v27 H1 =>
  bnd (ixSV 1 v27 x3) fun v29 =>
  bnd (ldE false 1 v29 H1) fun v30 =>
  bnd (binV .int .mul (.int .i64 10) x3) fun v32 =>
  bnd (binV .int .add (.int .i64 10) v32) fun v33 =>
  EvF P N.sounderlaw17_packet #[v30, v33] H1 fun v34 H2 =>
  EvF P N.space_Space_Sent #[x1, v34] H2 fun v35 H3 =>
  bnd (binV .int .neq v35 (.int .i64 0)) fun v36 =>
  S x1 x3 v36 H3
theorem z16_g58_e (S : J3) (x H) : WE z16_pi z16_c24 149 (fun l => S (gd l 1) (gd l 3) (gd l 36)) x H = z16_g58 S (x 1) (x 3) H := by kernel_rfl
noncomputable def z16_g59 (S : J1) (H : Heap) : Prop :=
  S (.bool false) H
theorem z16_g59_e (S : J1) (x H) : WE z16_pi z16_c27 149 (fun l => S (gd l 0)) x H = z16_g59 S  H := by kernel_rfl
noncomputable def z16_g60 (S : J2) (x1 x3 : Value) (H : Heap) : Prop :=
  bnd (binV .int .add x3 (.int .i64 1)) fun v25 =>
  S x1 v25 H
theorem z16_g60_e (S : J2) (x H) : WE z16_pi z16_c28 149 (fun l => S (gd l 1) (gd l 3)) x H = z16_g60 S (x 1) (x 3) H := by kernel_rfl
noncomputable def z16_g61 (S : J2) (x1 : Value) (H : Heap) : Prop :=
  EvF P N.sounderlaw17_packet #[(.int .i64 6), (.int .i64 50)] H fun v38 H1 =>
  EvF P N.space_Space_Sent #[x1, v38] H1 fun v39 H2 =>
  bnd (binV .int .neq v39 (.int .i64 5)) fun v40 =>
  brV v40
  (S x1 (.bool true) H2)
  (EvF P N.sounderlaw17_packet #[(.int .i64 5), (.int .i64 50)] H2 fun v43 H3 =>
  EvF P N.space_Space_Sent #[x1, v43] H3 fun v44 H4 =>
  bnd (binV .int .neq v44 (.int .i64 60)) fun v45 =>
  brV v45
  (S x1 (.bool true) H4)
  (EvF P N.space_Space_Last #[x1] H4 fun v49 H5 =>
  bnd (binV .int .neq v49 (.int .i64 5)) fun v50 =>
  brV v50
  (S x1 (.bool true) H5)
  (EvF P N.space_Space_Flight #[x1] H5 fun v54 H6 =>
  bnd (binV .int .neq v54 (.int .i64 400)) fun v55 =>
  brV v55
  (S x1 (.bool true) H6)
  (EvF P N.space_Space_Time #[x1] H6 fun v59 H7 =>
  bnd (binV .int .neq v59 (.int .i64 40)) fun v60 =>
  S x1 v60 H7))))
theorem z16_g61_e (S : J2) (x H) : WE z16_pi z16_c31 149 (fun l => S (gd l 1) (gd l 61)) x H = z16_g61 S (x 1) H := by kernel_rfl
noncomputable def z16_g62 (S : J1) (H : Heap) : Prop :=
  S (.bool false) H
theorem z16_g62_e (S : J1) (x H) : WE z16_pi z16_c34 149 (fun l => S (gd l 0)) x H = z16_g62 S  H := by kernel_rfl
noncomputable def z16_g63 (S : J2) (x1 : Value) (H : Heap) : Prop :=
  bnd (buildV #[(.int .i64 0), (.int .i64 0)] (every 1) [(0, (.int .i64 4)), (1, (.int .i64 5))]) fun v64 =>
  bslE 54 #[(.int .i64 0), (.int .i64 0)] 2 1 [(0, v64)] H fun v65 H1 =>
  EvF P N.sounderlaw17_ack #[v65] H1 fun v66 H2 =>
  EvF P N.space_Space_Ack #[x1, v66] H2 fun v67 H3 =>
  bnd (exV 0 v67) fun _ =>
  bnd (exV 1 v67) fun v69 =>
  S x1 v69 H3
theorem z16_g63_e (S : J2) (x H) : WE z16_pi z16_c36 149 (fun l => S (gd l 1) (gd l 5)) x H = z16_g63 S (x 1) H := by kernel_rfl
noncomputable def z16_g64 (S : J4) (x1 x5 : Value) (H : Heap) : Prop :=
  bnd (buildV #[(.int .i64 0), (.int .i64 0)] (every 1) [(0, (.int .i64 5)), (1, (.int .i64 5))]) fun v72 =>
  bslE 54 #[(.int .i64 0), (.int .i64 0)] 2 1 [(0, v72)] H fun v73 H1 =>
  EvF P N.sounderlaw17_ack #[v73] H1 fun v74 H2 =>
  EvF P N.space_Space_Ack #[x1, v74] H2 fun v75 H3 =>
  bnd (exV 0 v75) fun v76 =>
  bnd (exV 1 v75) fun v77 =>
  S x1 x5 v76 v77 H3
theorem z16_g64_e (S : J4) (x H) : WE z16_pi z16_c38 149 (fun l => S (gd l 1) (gd l 5) (gd l 6) (gd l 7)) x H = z16_g64 S (x 1) (x 5) H := by kernel_rfl
noncomputable def z16_g65 (S : J6) (x1 x5 x6 x7 : Value) (H : Heap) : Prop :=
  EvF P N.sounderlaw17_steady #[] H fun v80 H1 =>
  EvF P N.space_Space_Lose #[x1, (.int .i64 50), v80] H1 fun v81 H2 =>
  bnd (exV 0 v81) fun v82 =>
  bnd (exV 1 v81) fun v83 =>
  S x1 x5 x6 x7 v82 v83 H2
theorem z16_g65_e (S : J6) (x H) : WE z16_pi z16_c40 149 (fun l => S (gd l 1) (gd l 5) (gd l 6) (gd l 7) (gd l 8) (gd l 9)) x H = z16_g65 S (x 1) (x 5) (x 6) (x 7) H := by kernel_rfl
noncomputable def z16_g66 (S : J2) (x1 x5 x6 x7 x8 x9 : Value) (H : Heap) : Prop :=
  bnd (binV .int .neq x5 (.int .i64 170)) fun v85 =>
  brV v85
  (S x1 (.bool true) H)
  (bnd (binV .int .neq x7 (.int .i64 0)) fun v88 =>
  brV v88
  (S x1 (.bool true) H)
  (EvF P N.sounderlaw17_numbersOf #[x6] H fun v92 H1 =>
  bslE 3 #[(.int .i64 0)] 1 1 [(0, (.int .i64 5))] H1 fun v93 H2 =>
  EvF P N.sounderref00_EqInts #[v92, v93] H2 fun v94 H3 =>
  bnd (unV .not v94) fun v95 =>
  brV v95
  (S x1 (.bool true) H3)
  (EvF P N.space_Space_Greatest #[x1] H3 fun v99 H4 =>
  bnd (binV .int .neq v99 (.int .i64 5)) fun v100 =>
  brV v100
  (S x1 (.bool true) H4)
  (bnd (binV .int .neq x9 (.int .i64 0)) fun v104 =>
  brV v104
  (S x1 (.bool true) H4)
  (EvF P N.sounderlaw17_numbersOf #[x8] H4 fun v108 H5 =>
  bslE 3 #[(.int .i64 0)] 1 3 [(0, (.int .i64 0)), (1, (.int .i64 1)), (2, (.int .i64 2))] H5 fun v109 H6 =>
  EvF P N.sounderref00_EqInts #[v108, v109] H6 fun v110 H7 =>
  bnd (unV .not v110) fun v111 =>
  brV v111
  (S x1 (.bool true) H7)
  (EvF P N.space_Space_Loss #[x1] H7 fun v115 H8 =>
  bnd (binV .int .neq v115 (.int .i64 (-1))) fun v116 =>
  brV v116
  (S x1 (.bool true) H8)
  (EvF P N.space_Space_Flight #[x1] H8 fun v120 H9 =>
  bnd (binV .int .neq v120 (.int .i64 0)) fun v121 =>
  S x1 v121 H9)))))))
theorem z16_g66_e (S : J2) (x H) : WE z16_pi z16_c43 149 (fun l => S (gd l 1) (gd l 122)) x H = z16_g66 S (x 1) (x 5) (x 6) (x 7) (x 8) (x 9) H := by kernel_rfl
noncomputable def z16_g67 (S : J1) (H : Heap) : Prop :=
  S (.bool false) H
theorem z16_g67_e (S : J1) (x H) : WE z16_pi z16_c46 149 (fun l => S (gd l 0)) x H = z16_g67 S  H := by kernel_rfl
noncomputable def z16_g68 (S : J3) (x1 : Value) (H : Heap) : Prop :=
  bnd (buildV #[(.int .i64 0), (.int .i64 0)] (every 1) [(0, (.int .i64 0)), (1, (.int .i64 2))]) fun v125 =>
  bslE 54 #[(.int .i64 0), (.int .i64 0)] 2 1 [(0, v125)] H fun v126 H1 =>
  EvF P N.sounderlaw17_ack #[v126] H1 fun v127 H2 =>
  EvF P N.space_Space_Ack #[x1, v127] H2 fun v128 H3 =>
  bnd (exV 0 v128) fun v129 =>
  bnd (exV 1 v128) fun v130 =>
  S x1 v129 v130 H3
theorem z16_g68_e (S : J3) (x H) : WE z16_pi z16_c48 149 (fun l => S (gd l 1) (gd l 10) (gd l 11)) x H = z16_g68 S (x 1) H := by kernel_rfl
noncomputable def z16_g69 (S : J1) (x1 x10 x11 : Value) (H : Heap) : Prop :=
  bnd (binV .int .eql x11 (.int .i64 0)) fun v132 =>
  brV v132
  (bnd (lenV x10) fun v135 =>
  bnd (binV .int .eql v135 (.int .i64 0)) fun v136 =>
  brV v136
  (EvF P N.space_Space_Greatest #[x1] H fun v140 H1 =>
  bnd (binV .int .eql v140 (.int .i64 5)) fun v141 =>
  brV v141
  (EvF P N.space_Space_All #[x1] H1 fun v145 H2 =>
  bnd (lenV v145) fun v146 =>
  bnd (binV .int .eql v146 (.int .i64 0)) fun v147 =>
  S v147 H2)
  (S (.bool false) H1))
  (S (.bool false) H))
  (S (.bool false) H)
theorem z16_g69_e (S : J1) (x H) : WE z16_pi z16_c50 149 (fun l => S (gd l 0)) x H = z16_g69 S (x 1) (x 10) (x 11) H := by kernel_rfl
noncomputable def z16_s56 (x1 x3 : Value) (K1 : J2) (R : J1) (H : Heap) : Prop :=
  z16_g57 (fun x1 x3 x23 H => brV x23
  (z16_g58 (fun x1 x3 x36 H => brV x36
  (z16_g59 (fun x0 H => R x0 H) H)
  (z16_g60 (fun x1 x3 H => K1 x1 x3 H) x1 x3 H)) x1 x3 H)
  (z16_g61 (fun x1 x61 H => brV x61
  (z16_g62 (fun x0 H => R x0 H) H)
  (z16_g63 (fun x1 x5 H => z16_g64 (fun x1 x5 x6 x7 H => z16_g65 (fun x1 x5 x6 x7 x8 x9 H => z16_g66 (fun x1 x122 H => brV x122
  (z16_g67 (fun x0 H => R x0 H) H)
  (z16_g68 (fun x1 x10 x11 H => z16_g69 (fun x0 H => R x0 H) x1 x10 x11 H) x1 H)) x1 x5 x6 x7 x8 x9 H) x1 x5 x6 x7 H) x1 x5 H) x1 H)) x1 H)) x1 x3 H
noncomputable def z16_q70 (R : J1) : JQ := (retQ tab z16_rs R)
noncomputable def z16_q71 (R : J1) : JQ := (thenE (fun l H => wpE tab P z16_pi z16_c29 (z16_q70 R) l H) (z16_q70 R))
noncomputable def z16_q72 (R : J1) : JQ := (blkE 0 (z16_q71 R))
noncomputable def z16_q73 (K1 : J2) (R : J1) : JQ := (thenE (fun l H => K1 (gd l 1) (gd l 3) H) (z16_q72 R))
theorem z16_s56_i (K1 : J2) (R : J1) (l : List Value) (H : Heap) (hl : l.length = 149) (h : z16_s56 (gd l 1) (gd l 3) K1 R H) : wpE tab P z16_pi z16_c16 (z16_q73 K1 R) l H := sq rfl <| sr rfl hl (z16_g57_e _ (gd l) _) h fun l H hl h => cd rfl h (fun h => kN rfl <| sq rfl <| bl rfl <| sr rfl hl (z16_g58_e _ (gd l) _) h fun l H hl h => cd rfl h (fun h => sr rfl hl (z16_g59_e _ (gd l) _) h fun l H hl h => rt rfl h) fun h => sk rfl <| bN <| tN <| rj hl (z16_g60_e _ (gd l) _) h fun l H hl h => tN <| h) fun h => ex rfl <| tX <| tX <| bX <| tN <| sq rfl <| sr rfl hl (z16_g61_e _ (gd l) _) h fun l H hl h => cd rfl h (fun h => sr rfl hl (z16_g62_e _ (gd l) _) h fun l H hl h => rt rfl h) fun h => kN rfl <| sr rfl hl (z16_g63_e _ (gd l) _) h fun l H hl h => sr rfl hl (z16_g64_e _ (gd l) _) h fun l H hl h => sr rfl hl (z16_g65_e _ (gd l) _) h fun l H hl h => sq rfl <| sr rfl hl (z16_g66_e _ (gd l) _) h fun l H hl h => cd rfl h (fun h => sr rfl hl (z16_g67_e _ (gd l) _) h fun l H hl h => rt rfl h) fun h => kN rfl <| sr rfl hl (z16_g68_e _ (gd l) _) h fun l H hl h => sr rfl hl (z16_g69_e _ (gd l) _) h fun l H hl h => rt rfl h
noncomputable def z16_l74 (x1 x3 : Value) (R : J1) (H : Heap) : Prop :=
  ∃ (I : J1) (μ : M1), I x3 H ∧ ∀ (y3 : Value) (H : Heap), I y3 H → z16_s56 x1 y3 (fun z1 z3 H' => z1 = x1 ∧ (I z3 H' ∧ μ z3 H' < μ y3 H)) R H
def sounderlaw17_works (R : Value → Heap → Prop) (H : Heap) : Prop :=
  z16_g51 (fun H => z16_g52 (fun x1 x2 H => z16_g53 (fun x1 x21 H => brV x21
  (z16_g54 (fun x0 H => R x0 H) H)
  (z16_g55 (fun x1 x3 H => z16_l74 x1 x3 R H) x1 H)) x1 x2 H) H) H
theorem z16_ev (R : J1) (H : Heap) (h : sounderlaw17_works  R H) : EvF P N.sounderlaw17_works #[] H R := .inl (EvF_intro (args := []) (k := 149) (rs := z16_rs) tab_ok mixed Tryz.func16 (show Tryz.f16.body = some z16_c1 by kernel_rfl) Tryz.call16 Tryz.ntmps16 (by kernel_rfl) (okCode_of _ (show okB z16_pi z16_c1 = true by kernel_rfl)) (fr_eq _ _) (fj (n := 149) rfl (fun l hl (h : sounderlaw17_works  R H) => sr rfl hl (z16_g51_e _ (gd l) _) h fun l H hl h => sr rfl hl (z16_g52_e _ (gd l) _) h fun l H hl h => sq rfl <| sr rfl hl (z16_g53_e _ (gd l) _) h fun l H hl h => cd rfl h (fun h => sr rfl hl (z16_g54_e _ (gd l) _) h fun l H hl h => rt rfl h) fun h => kN rfl <| sq rfl <| sr rfl hl (z16_g55_e _ (gd l) _) h fun l H hl h => bl rfl <| (by
    obtain ⟨I, μ, h0, hr⟩ := h
    refine loopI (c := z16_c15) rfl (fun l' H' => gd l' 1 = gd l 1 ∧ I (gd l' 3) H') (fun l' H' => μ (gd l' 3) H') hl ⟨rfl, h0⟩ ?_
    rintro l1 H1 hl1 ⟨e1, hI⟩
    have hb := hr (gd l1 3) H1 hI
    rw [← e1] at hb
    refine wpE_mono _ l1 H1 hl1 ?_ (z16_s56_i _ R l1 H1 hl1 hb)
    intro e l2 H2 hl2 hq
    cases e with
    | normal => exact fun _ => (by obtain ⟨d1, g1, g2⟩ := hq; exact ⟨⟨d1.trans e1, g1⟩, g2⟩)
    | _ => exact hq)) h))
/- 17: (*sounder/space.Space).Lose -/
def z17_rs : List ResultVar := [.tmp 6, .tmp 7]
noncomputable def z17_c2 := sc Tryz.f17 [0]
noncomputable def z17_c5 := sc Tryz.f17 [1,0,0]
noncomputable def z17_c8 := sc Tryz.f17 [1,0,1,0,0]
noncomputable def z17_c7 : Code := .seq z17_c8 Code.ret
noncomputable def z17_c6 : Code := .cond (.tmp 13) z17_c7 Code.skip
noncomputable def z17_c4 : Code := .seq z17_c5 z17_c6
noncomputable def z17_c10 := sc Tryz.f17 [1,1,0]
noncomputable def z17_c13 := sc Tryz.f17 [1,1,1,0,0]
noncomputable def z17_c16 := sc Tryz.f17 [1,1,1,0,1,0,0]
noncomputable def z17_c15 : Code := .seq z17_c16 Code.ret
noncomputable def z17_c14 : Code := .cond (.tmp 32) z17_c15 Code.skip
noncomputable def z17_c12 : Code := .seq z17_c13 z17_c14
noncomputable def z17_c18 := sc Tryz.f17 [1,1,1,1,0]
noncomputable def z17_c20 := sc Tryz.f17 [1,1,1,1,1,0]
noncomputable def z17_c19 : Code := .seq z17_c20 Code.ret
noncomputable def z17_c17 : Code := .seq z17_c18 z17_c19
noncomputable def z17_c11 : Code := .seq z17_c12 z17_c17
noncomputable def z17_c9 : Code := .seq z17_c10 z17_c11
noncomputable def z17_c3 : Code := .seq z17_c4 z17_c9
noncomputable def z17_c1 : Code := .seq z17_c2 z17_c3
def z17_pi (i : Nat) : Pl := match i with
  | 3 => (ones [0, 1, 2, 3, 5, 6, 7, 8, 9, 10, 4, 11, 12, 13, 14, 15, 16, 17, 18, 19, 20] .nil)
  | _ => .nil
noncomputable def z17_g21 (S : J3) (x0 x1 x2 : Value) (H : Heap) : Prop :=
  newE 45 (Value.cells x2) H fun v5 H1 =>
  S x0 x1 v5 H1
theorem z17_g21_e (S : J3) (x H) : WE z17_pi z17_c2 41 (fun l => S (gd l 0) (gd l 1) (gd l 5)) x H = z17_g21 S (x 0) (x 1) (x 2) H := by kernel_rfl
noncomputable def z17_g22 (S : J4) (x0 x1 x5 : Value) (H : Heap) : Prop :=
  EvF P N.space_Space_none #[x0] H fun v13 H1 =>
  S x0 x1 x5 v13 H1
theorem z17_g22_e (S : J4) (x H) : WE z17_pi z17_c5 41 (fun l => S (gd l 0) (gd l 1) (gd l 5) (gd l 13)) x H = z17_g22 S (x 0) (x 1) (x 5) H := by kernel_rfl
noncomputable def z17_g23 (S : J2) (H : Heap) : Prop :=
  S (.slice none 0 0) (.int .i64 1) H
theorem z17_g23_e (S : J2) (x H) : WE z17_pi z17_c8 41 (fun l => S (gd l 6) (gd l 7)) x H = z17_g23 S  H := by kernel_rfl
noncomputable def z17_g24 (S : J4) (x0 x1 x5 : Value) (H : Heap) : Prop :=
  bnd (nilV x0) fun v16 =>
  bnd (faV 0 v16) fun v17 =>
  bnd (ldE false 1 v17 H) fun v18 =>
  bnd (nilV x0) fun v21 =>
  bnd (faV 3 v21) fun v22 =>
  bnd (ldE false 1 v22 H) fun v23 =>
  bnd (ldE true 5 x5 H) fun v25 =>
  EvF P N.sent_Log_All #[v18] H fun v19 H1 =>
  ((bnd (ldE true 5 x5 H1) fun v' => v' = v25) ∧
  ((bnd (ldE false 1 v22 H1) fun v' => v' = v23) ∧
  EvF P N.loss_Find #[v19, v23, x1, v25] H1 fun v26 H2 =>
  bnd (exV 0 v26) fun v27 =>
  bnd (exV 1 v26) fun _ =>
  bnd (exV 2 v26) fun v29 =>
  bnd (exV 3 v26) fun v30 =>
  S x0 v27 v29 v30 H2))
theorem z17_g24_e (S : J4) (x H) : WE z17_pi z17_c10 41 (fun l => S (gd l 0) (gd l 8) (gd l 10) (gd l 11)) x H = z17_g24 S (x 0) (x 1) (x 5) H := by kernel_rfl
noncomputable def z17_g25 (S : J5) (x0 x8 x10 x11 : Value) (H : Heap) : Prop :=
  bnd (binV .int .neq x11 (.int .i64 0)) fun v32 =>
  S x0 x8 x10 x11 v32 H
theorem z17_g25_e (S : J5) (x H) : WE z17_pi z17_c13 41 (fun l => S (gd l 0) (gd l 8) (gd l 10) (gd l 11) (gd l 32)) x H = z17_g25 S (x 0) (x 8) (x 10) (x 11) H := by kernel_rfl
noncomputable def z17_g26 (S : J2) (x11 : Value) (H : Heap) : Prop :=
  S (.slice none 0 0) x11 H
theorem z17_g26_e (S : J2) (x H) : WE z17_pi z17_c16 41 (fun l => S (gd l 6) (gd l 7)) x H = z17_g26 S (x 11) H := by kernel_rfl
noncomputable def z17_g27 (S : J2) (x0 x8 x10 : Value) (H : Heap) : Prop :=
  bnd (nilV x0) fun v36 =>
  bnd (faV 4 v36) fun v37 =>
  bnd (stE 1 v37 x10 H) fun H1 =>
  S x0 x8 H1
theorem z17_g27_e (S : J2) (x H) : WE z17_pi z17_c18 41 (fun l => S (gd l 0) (gd l 8)) x H = z17_g27 S (x 0) (x 8) (x 10) H := by kernel_rfl
noncomputable def z17_g28 (S : J2) (x0 x8 : Value) (H : Heap) : Prop :=
  EvF P N.space_Space_dropped #[x0, x8, (.func (.func N.space_Space_Lose_1) #[] #[])] H fun v40 H1 =>
  S v40 (.int .i64 0) H1
theorem z17_g28_e (S : J2) (x H) : WE z17_pi z17_c20 41 (fun l => S (gd l 6) (gd l 7)) x H = z17_g28 S (x 0) (x 8) H := by kernel_rfl
def space_Space_Lose (x0 x1 x2 : Value) (R : Value → Heap → Prop) (H : Heap) : Prop :=
  z17_g21 (fun x0 x1 x5 H => z17_g22 (fun x0 x1 x5 x13 H => brV x13
  (z17_g23 (fun x6 x7 H => R (.tuple #[x6, x7]) H) H)
  (z17_g24 (fun x0 x8 x10 x11 H => z17_g25 (fun x0 x8 x10 x11 x32 H => brV x32
  (z17_g26 (fun x6 x7 H => R (.tuple #[x6, x7]) H) x11 H)
  (z17_g27 (fun x0 x8 H => z17_g28 (fun x6 x7 H => R (.tuple #[x6, x7]) H) x0 x8 H) x0 x8 x10 H)) x0 x8 x10 x11 H) x0 x1 x5 H)) x0 x1 x5 H) x0 x1 x2 H
theorem z17_ev (x0 x1 x2 : Value) (R : J1) (H : Heap) (h : space_Space_Lose x0 x1 x2 R H) : EvF P N.space_Space_Lose #[x0, x1, x2] H R := .inl (EvF_intro (args := [x0, x1, x2]) (k := 38) (rs := z17_rs) tab_ok mixed Tryz.func17 (show Tryz.f17.body = some z17_c1 by kernel_rfl) Tryz.call17 Tryz.ntmps17 (by kernel_rfl) (okCode_of _ (show okB z17_pi z17_c1 = true by kernel_rfl)) (fr_eq _ _) (fj (n := 41) rfl (fun l hl (h : space_Space_Lose (gd l 0) (gd l 1) (gd l 2) R H) => sr rfl hl (z17_g21_e _ (gd l) _) h fun l H hl h => sq rfl <| sr rfl hl (z17_g22_e _ (gd l) _) h fun l H hl h => cd rfl h (fun h => sr rfl hl (z17_g23_e _ (gd l) _) h fun l H hl h => rt rfl h) fun h => kN rfl <| sr rfl hl (z17_g24_e _ (gd l) _) h fun l H hl h => sq rfl <| sr rfl hl (z17_g25_e _ (gd l) _) h fun l H hl h => cd rfl h (fun h => sr rfl hl (z17_g26_e _ (gd l) _) h fun l H hl h => rt rfl h) fun h => kN rfl <| sr rfl hl (z17_g27_e _ (gd l) _) h fun l H hl h => sr rfl hl (z17_g28_e _ (gd l) _) h fun l H hl h => rt rfl h) h))
/- 18: sounder/sounderlaw17.steady -/
def z18_rs : List ResultVar := [.cell 0 45]
noncomputable def z18_c2 := sc Tryz.f18 [0]
noncomputable def z18_c4 := sc Tryz.f18 [1,0]
noncomputable def z18_c3 : Code := .seq z18_c4 Code.ret
noncomputable def z18_c1 : Code := .seq z18_c2 z18_c3
def z18_pi (_ : Nat) : Pl := .nil
noncomputable def z18_g5 (S : J1) (H : Heap) : Prop :=
  newE 45 #[(.int .i64 0), (.int .i64 0), (.int .i64 0), (.int .i64 0), (.int .i64 0)] H fun v0 H1 =>
  S v0 H1
theorem z18_g5_e (S : J1) (x H) : WE z18_pi z18_c2 2 (fun l => S (gd l 0)) x H = z18_g5 S  H := by kernel_rfl
noncomputable def z18_g6 (S : J1) (x0 : Value) (H : Heap) : Prop :=
  bnd (buildV #[(.int .i64 0), (.int .i64 0), (.int .i64 0), (.int .i64 0), (.int .i64 0)] (places [(0, 1), (1, 1), (2, 1), (3, 1), (4, 1)]) [(0, (.int .i64 100)), (1, (.int .i64 1)), (2, (.int .i64 100))]) fun v1 =>
  bnd (stE 5 x0 v1 H) fun H1 =>
  S x0 H1
theorem z18_g6_e (S : J1) (x H) : WE z18_pi z18_c4 2 (fun l => S (gd l 0)) x H = z18_g6 S (x 0) H := by kernel_rfl
def sounderlaw17_steady (R : Value → Heap → Prop) (H : Heap) : Prop :=
  z18_g5 (fun x0 H => z18_g6 (fun x0 H => bnd (ldE true 5 x0 H) fun r0 =>
  R r0 H) x0 H) H
theorem z18_ev (R : J1) (H : Heap) (h : sounderlaw17_steady  R H) : EvF P N.sounderlaw17_steady #[] H R := .inl (EvF_intro (args := []) (k := 2) (rs := z18_rs) tab_ok mixed Tryz.func18 (show Tryz.f18.body = some z18_c1 by kernel_rfl) Tryz.call18 Tryz.ntmps18 (by kernel_rfl) (okCode_of _ (show okB z18_pi z18_c1 = true by kernel_rfl)) (fr_eq _ _) (fj (n := 2) rfl (fun l hl (h : sounderlaw17_steady  R H) => sr rfl hl (z18_g5_e _ (gd l) _) h fun l H hl h => sr rfl hl (z18_g6_e _ (gd l) _) h fun l H hl h => rt rfl h) h))
/- 19: sounder/sounderlaw17.has -/
def z19_rs : List ResultVar := [.tmp 4]
noncomputable def z19_c2 := sc Tryz.f19 [0]
noncomputable def z19_c5 := sc Tryz.f19 [1,0,0]
noncomputable def z19_c10 := sc Tryz.f19 [1,0,1,0,0,0,0]
noncomputable def z19_c12 : Code := .exit 0
noncomputable def z19_c11 : Code := .cond (.tmp 9) Code.skip z19_c12
noncomputable def z19_c9 : Code := .seq z19_c10 z19_c11
noncomputable def z19_c16 := sc Tryz.f19 [1,0,1,0,0,1,0,0,0]
noncomputable def z19_c19 := sc Tryz.f19 [1,0,1,0,0,1,0,0,1,0,0]
noncomputable def z19_c18 : Code := .seq z19_c19 Code.ret
noncomputable def z19_c17 : Code := .cond (.tmp 17) z19_c18 Code.skip
noncomputable def z19_c15 : Code := .seq z19_c16 z19_c17
noncomputable def z19_c14 : Code := .block 1 z19_c15
noncomputable def z19_c20 := sc Tryz.f19 [1,0,1,0,0,1,1]
noncomputable def z19_c13 : Code := .seq z19_c14 z19_c20
noncomputable def z19_c8 : Code := .seq z19_c9 z19_c13
noncomputable def z19_c7 : Code := .loop z19_c8
noncomputable def z19_c6 : Code := .block 0 z19_c7
noncomputable def z19_c4 : Code := .seq z19_c5 z19_c6
noncomputable def z19_c22 := sc Tryz.f19 [1,1,0]
noncomputable def z19_c21 : Code := .seq z19_c22 Code.ret
noncomputable def z19_c3 : Code := .seq z19_c4 z19_c21
noncomputable def z19_c1 : Code := .seq z19_c2 z19_c3
def z19_pi (_ : Nat) : Pl := .nil
noncomputable def z19_g23 (S : J2) (x0 x1 : Value) (H : Heap) : Prop :=
  S x0 x1 H
theorem z19_g23_e (S : J2) (x H) : WE z19_pi z19_c2 18 (fun l => S (gd l 0) (gd l 1)) x H = z19_g23 S (x 0) (x 1) H := by kernel_rfl
noncomputable def z19_g24 (S : J3) (x0 x1 : Value) (H : Heap) : Prop :=
  S x0 x1 (.int .i64 0) H
theorem z19_g24_e (S : J3) (x H) : WE z19_pi z19_c5 18 (fun l => S (gd l 0) (gd l 1) (gd l 5)) x H = z19_g24 S (x 0) (x 1) H := by kernel_rfl
noncomputable def z19_g26 (S : J4) (x0 x1 x5 : Value) (H : Heap) : Prop :=
  bnd (lenV x0) fun v8 =>
  bnd (binV .int .lss x5 v8) fun v9 =>
  S x0 x1 x5 v9 H
theorem z19_g26_e (S : J4) (x H) : WE z19_pi z19_c10 18 (fun l => S (gd l 0) (gd l 1) (gd l 5) (gd l 9)) x H = z19_g26 S (x 0) (x 1) (x 5) H := by kernel_rfl
noncomputable def z19_g27 (S : J4) (x0 x1 x5 : Value) (H : Heap) : Prop :=
  bnd (ixSV 1 x0 x5) fun v14 =>
  bnd (ldE false 1 v14 H) fun v15 =>
  bnd (binV .int .eql v15 x1) fun v17 =>
  S x0 x1 x5 v17 H
theorem z19_g27_e (S : J4) (x H) : WE z19_pi z19_c16 18 (fun l => S (gd l 0) (gd l 1) (gd l 5) (gd l 17)) x H = z19_g27 S (x 0) (x 1) (x 5) H := by kernel_rfl
noncomputable def z19_g28 (S : J1) (H : Heap) : Prop :=
  S (.bool true) H
theorem z19_g28_e (S : J1) (x H) : WE z19_pi z19_c19 18 (fun l => S (gd l 4)) x H = z19_g28 S  H := by kernel_rfl
noncomputable def z19_g29 (S : J3) (x0 x1 x5 : Value) (H : Heap) : Prop :=
  bnd (binV .int .add x5 (.int .i64 1)) fun v11 =>
  S x0 x1 v11 H
theorem z19_g29_e (S : J3) (x H) : WE z19_pi z19_c20 18 (fun l => S (gd l 0) (gd l 1) (gd l 5)) x H = z19_g29 S (x 0) (x 1) (x 5) H := by kernel_rfl
noncomputable def z19_g30 (S : J1) (H : Heap) : Prop :=
  S (.bool false) H
theorem z19_g30_e (S : J1) (x H) : WE z19_pi z19_c22 18 (fun l => S (gd l 4)) x H = z19_g30 S  H := by kernel_rfl
noncomputable def z19_s25 (x0 x1 x5 : Value) (K1 : J3) (R : J1) (H : Heap) : Prop :=
  z19_g26 (fun x0 x1 x5 x9 H => brV x9
  (z19_g27 (fun x0 x1 x5 x17 H => brV x17
  (z19_g28 (fun x4 H => R x4 H) H)
  (z19_g29 (fun x0 x1 x5 H => K1 x0 x1 x5 H) x0 x1 x5 H)) x0 x1 x5 H)
  (z19_g30 (fun x4 H => R x4 H) H)) x0 x1 x5 H
noncomputable def z19_q31 (R : J1) : JQ := (retQ tab z19_rs R)
noncomputable def z19_q32 (R : J1) : JQ := (thenE (fun l H => wpE tab P z19_pi z19_c21 (z19_q31 R) l H) (z19_q31 R))
noncomputable def z19_q33 (R : J1) : JQ := (blkE 0 (z19_q32 R))
noncomputable def z19_q34 (K1 : J3) (R : J1) : JQ := (thenE (fun l H => K1 (gd l 0) (gd l 1) (gd l 5) H) (z19_q33 R))
theorem z19_s25_i (K1 : J3) (R : J1) (l : List Value) (H : Heap) (hl : l.length = 18) (h : z19_s25 (gd l 0) (gd l 1) (gd l 5) K1 R H) : wpE tab P z19_pi z19_c8 (z19_q34 K1 R) l H := sq rfl <| sr rfl hl (z19_g26_e _ (gd l) _) h fun l H hl h => cd rfl h (fun h => kN rfl <| sq rfl <| bl rfl <| sr rfl hl (z19_g27_e _ (gd l) _) h fun l H hl h => cd rfl h (fun h => sr rfl hl (z19_g28_e _ (gd l) _) h fun l H hl h => rt rfl h) fun h => sk rfl <| bN <| tN <| rj hl (z19_g29_e _ (gd l) _) h fun l H hl h => tN <| h) fun h => ex rfl <| tX <| tX <| bX <| tN <| sr rfl hl (z19_g30_e _ (gd l) _) h fun l H hl h => rt rfl h
noncomputable def z19_l35 (x0 x1 x5 : Value) (R : J1) (H : Heap) : Prop :=
  ∃ (I : J1) (μ : M1), I x5 H ∧ ∀ (y5 : Value) (H : Heap), I y5 H → z19_s25 x0 x1 y5 (fun z0 z1 z5 H' => z0 = x0 ∧ z1 = x1 ∧ (I z5 H' ∧ μ z5 H' < μ y5 H)) R H
def sounderlaw17_has (x0 x1 : Value) (R : Value → Heap → Prop) (H : Heap) : Prop :=
  z19_g23 (fun x0 x1 H => z19_g24 (fun x0 x1 x5 H => z19_l35 x0 x1 x5 R H) x0 x1 H) x0 x1 H
theorem z19_ev (x0 x1 : Value) (R : J1) (H : Heap) (h : sounderlaw17_has x0 x1 R H) : EvF P N.sounderlaw17_has #[x0, x1] H R := .inl (EvF_intro (args := [x0, x1]) (k := 16) (rs := z19_rs) tab_ok mixed Tryz.func19 (show Tryz.f19.body = some z19_c1 by kernel_rfl) Tryz.call19 Tryz.ntmps19 (by kernel_rfl) (okCode_of _ (show okB z19_pi z19_c1 = true by kernel_rfl)) (fr_eq _ _) (fj (n := 18) rfl (fun l hl (h : sounderlaw17_has (gd l 0) (gd l 1) R H) => sr rfl hl (z19_g23_e _ (gd l) _) h fun l H hl h => sq rfl <| sr rfl hl (z19_g24_e _ (gd l) _) h fun l H hl h => bl rfl <| (by
    obtain ⟨I, μ, h0, hr⟩ := h
    refine loopI (c := z19_c7) rfl (fun l' H' => gd l' 0 = gd l 0 ∧ gd l' 1 = gd l 1 ∧ I (gd l' 5) H') (fun l' H' => μ (gd l' 5) H') hl ⟨rfl, rfl, h0⟩ ?_
    rintro l1 H1 hl1 ⟨e0, e1, hI⟩
    have hb := hr (gd l1 5) H1 hI
    rw [← e0, ← e1] at hb
    refine wpE_mono _ l1 H1 hl1 ?_ (z19_s25_i _ R l1 H1 hl1 hb)
    intro e l2 H2 hl2 hq
    cases e with
    | normal => exact fun _ => (by obtain ⟨d0, d1, g1, g2⟩ := hq; exact ⟨⟨d0.trans e0, d1.trans e1, g1⟩, g2⟩)
    | _ => exact hq)) h))
/- 20: (*sounder/space.Space).Last -/
def z20_rs : List ResultVar := [.tmp 2]
noncomputable def z20_c2 := sc Tryz.f20 [0]
noncomputable def z20_c4 := sc Tryz.f20 [1,0]
noncomputable def z20_c3 : Code := .seq z20_c4 Code.ret
noncomputable def z20_c1 : Code := .seq z20_c2 z20_c3
def z20_pi (_ : Nat) : Pl := .nil
noncomputable def z20_g5 (S : J1) (x0 : Value) (H : Heap) : Prop :=
  newE 23 (Value.cells x0) H fun v1 H1 =>
  S v1 H1
theorem z20_g5_e (S : J1) (x H) : WE z20_pi z20_c2 6 (fun l => S (gd l 1)) x H = z20_g5 S (x 0) H := by kernel_rfl
noncomputable def z20_g6 (S : J1) (x1 : Value) (H : Heap) : Prop :=
  bnd (ldE false 1 x1 H) fun v3 =>
  EvF P N.space_Space_one #[v3, (.func (.func N.space_Space_Last_1) #[] #[x1])] H fun v5 H1 =>
  S v5 H1
theorem z20_g6_e (S : J1) (x H) : WE z20_pi z20_c4 6 (fun l => S (gd l 2)) x H = z20_g6 S (x 1) H := by kernel_rfl
def space_Space_Last (x0 : Value) (R : Value → Heap → Prop) (H : Heap) : Prop :=
  z20_g5 (fun x1 H => z20_g6 (fun x2 H => R x2 H) x1 H) x0 H
theorem z20_ev (x0 : Value) (R : J1) (H : Heap) (h : space_Space_Last x0 R H) : EvF P N.space_Space_Last #[x0] H R := .inl (EvF_intro (args := [x0]) (k := 5) (rs := z20_rs) tab_ok mixed Tryz.func20 (show Tryz.f20.body = some z20_c1 by kernel_rfl) Tryz.call20 Tryz.ntmps20 (by kernel_rfl) (okCode_of _ (show okB z20_pi z20_c1 = true by kernel_rfl)) (fr_eq _ _) (fj (n := 6) rfl (fun l hl (h : space_Space_Last (gd l 0) R H) => sr rfl hl (z20_g5_e _ (gd l) _) h fun l H hl h => sr rfl hl (z20_g6_e _ (gd l) _) h fun l H hl h => rt rfl h) h))
end Go.Hc
