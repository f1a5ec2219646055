/- Functions, printed by gen.py. -/
import Derived.Test.YtcjnbiajjlceeaaGreatX2
set_option linter.unusedSimpArgs false
set_option linter.unusedVariables false
set_option maxRecDepth 100000
namespace Go.Hc
open Go Go.Proofs
/- 153: slices.Delete[[]sounder/api.Range,sounder/api.Range] -/
def z153_rs : List ResultVar := [.tmp 6]
noncomputable def z153_c2 := sc Tryz.f153 [0]
noncomputable def z153_c4 := sc Tryz.f153 [1,0]
noncomputable def z153_c7 := sc Tryz.f153 [1,1,0,0]
noncomputable def z153_c10 := sc Tryz.f153 [1,1,0,1,0,0]
noncomputable def z153_c9 : Code := .seq z153_c10 Code.ret
noncomputable def z153_c8 : Code := .cond (.tmp 16) z153_c9 Code.skip
noncomputable def z153_c6 : Code := .seq z153_c7 z153_c8
noncomputable def z153_c12 := sc Tryz.f153 [1,1,1,0]
noncomputable def z153_c14 := sc Tryz.f153 [1,1,1,1,0]
noncomputable def z153_c16 := sc Tryz.f153 [1,1,1,1,1,0]
noncomputable def z153_c18 := sc Tryz.f153 [1,1,1,1,1,1,0]
noncomputable def z153_c17 : Code := .seq z153_c18 Code.ret
noncomputable def z153_c15 : Code := .seq z153_c16 z153_c17
noncomputable def z153_c13 : Code := .seq z153_c14 z153_c15
noncomputable def z153_c11 : Code := .seq z153_c12 z153_c13
noncomputable def z153_c5 : Code := .seq z153_c6 z153_c11
noncomputable def z153_c3 : Code := .seq z153_c4 z153_c5
noncomputable def z153_c1 : Code := .seq z153_c2 z153_c3
def z153_pi (i : Nat) : Pl := match i with
  | 5 => (ones [0, 1, 2, 3, 4, 5, 6, 7] .nil)
  | _ => .nil
noncomputable def z153_g19 (S : J3) (x0 x1 x2 : Value) (H : Heap) : Prop :=
  S x0 x1 x2 H
theorem z153_g19_e (S : J3) (x H) : WE z153_pi z153_c2 33 (fun l => S (gd l 0) (gd l 1) (gd l 2)) x H = z153_g19 S (x 0) (x 1) (x 2) H := by kernel_rfl
noncomputable def z153_g20 (S : J3) (x0 x1 x2 : Value) (H : Heap) : Prop :=
  bnd (lenV x0) fun v12 =>
  bnd (sliceV3 2 x0 (some x1) x2 v12) fun _ =>
  S x0 x1 x2 H
theorem z153_g20_e (S : J3) (x H) : WE z153_pi z153_c4 33 (fun l => S (gd l 0) (gd l 1) (gd l 2)) x H = z153_g20 S (x 0) (x 1) (x 2) H := by kernel_rfl
noncomputable def z153_g21 (S : J4) (x0 x1 x2 : Value) (H : Heap) : Prop :=
  bnd (binV .int .eql x1 x2) fun v16 =>
  S x0 x1 x2 v16 H
theorem z153_g21_e (S : J4) (x H) : WE z153_pi z153_c7 33 (fun l => S (gd l 0) (gd l 1) (gd l 2) (gd l 16)) x H = z153_g21 S (x 0) (x 1) (x 2) H := by kernel_rfl
noncomputable def z153_g22 (S : J1) (x0 : Value) (H : Heap) : Prop :=
  S x0 H
theorem z153_g22_e (S : J1) (x H) : WE z153_pi z153_c10 33 (fun l => S (gd l 6)) x H = z153_g22 S (x 0) H := by kernel_rfl
noncomputable def z153_g23 (S : J4) (x0 x1 x2 : Value) (H : Heap) : Prop :=
  bnd (lenV x0) fun v19 =>
  S x0 x1 x2 v19 H
theorem z153_g23_e (S : J4) (x H) : WE z153_pi z153_c12 33 (fun l => S (gd l 0) (gd l 1) (gd l 2) (gd l 7)) x H = z153_g23 S (x 0) (x 1) (x 2) H := by kernel_rfl
noncomputable def z153_g24 (S : J2) (x0 x1 x2 x7 : Value) (H : Heap) : Prop :=
  bnd (sliceV 2 x0 none (some x1)) fun v22 =>
  bnd (sliceV 2 x0 (some x2) none) fun v25 =>
  appE 93 #[(.int .i64 0), (.int .i64 0)] 2 16 v22 v25 H fun v26 H1 =>
  S v26 x7 H1
theorem z153_g24_e (S : J2) (x H) : WE z153_pi z153_c14 33 (fun l => S (gd l 0) (gd l 7)) x H = z153_g24 S (x 0) (x 1) (x 2) (x 7) H := by kernel_rfl
noncomputable def z153_g25 (S : J1) (x0 x7 : Value) (H : Heap) : Prop :=
  bnd (lenV x0) fun v29 =>
  bnd (sliceV 2 x0 (some v29) (some x7)) fun v31 =>
  clrE #[(.int .i64 0), (.int .i64 0)] v31 H fun _ H1 =>
  S x0 H1
theorem z153_g25_e (S : J1) (x H) : WE z153_pi z153_c16 33 (fun l => S (gd l 0)) x H = z153_g25 S (x 0) (x 7) H := by kernel_rfl
noncomputable def z153_g26 (S : J1) (x0 : Value) (H : Heap) : Prop :=
  S x0 H
theorem z153_g26_e (S : J1) (x H) : WE z153_pi z153_c18 33 (fun l => S (gd l 6)) x H = z153_g26 S (x 0) H := by kernel_rfl
def slices_Delete_Range (x0 x1 x2 : Value) (R : Value → Heap → Prop) (H : Heap) : Prop :=
  z153_g19 (fun x0 x1 x2 H => z153_g20 (fun x0 x1 x2 H => z153_g21 (fun x0 x1 x2 x16 H => brV x16
  (z153_g22 (fun x6 H => R x6 H) x0 H)
  (z153_g23 (fun x0 x1 x2 x7 H => z153_g24 (fun x0 x7 H => z153_g25 (fun x0 H => z153_g26 (fun x6 H => R x6 H) x0 H) x0 x7 H) x0 x1 x2 x7 H) x0 x1 x2 H)) x0 x1 x2 H) x0 x1 x2 H) x0 x1 x2 H
theorem z153_ev (x0 x1 x2 : Value) (R : J1) (H : Heap) (h : slices_Delete_Range x0 x1 x2 R H) : EvF P N.slices_Delete_Range #[x0, x1, x2] H R := .inl (EvF_intro (args := [x0, x1, x2]) (k := 30) (rs := z153_rs) tab_ok mixed Tryz.func153 (show Tryz.f153.body = some z153_c1 by kernel_rfl) Tryz.call153 Tryz.ntmps153 (by kernel_rfl) (okCode_of _ (show okB z153_pi z153_c1 = true by kernel_rfl)) (fr_eq _ _) (fj (n := 33) rfl (fun l hl (h : slices_Delete_Range (gd l 0) (gd l 1) (gd l 2) R H) => sr rfl hl (z153_g19_e _ (gd l) _) h fun l H hl h => sr rfl hl (z153_g20_e _ (gd l) _) h fun l H hl h => sq rfl <| sr rfl hl (z153_g21_e _ (gd l) _) h fun l H hl h => cd rfl h (fun h => sr rfl hl (z153_g22_e _ (gd l) _) h fun l H hl h => rt rfl h) fun h => kN rfl <| sr rfl hl (z153_g23_e _ (gd l) _) h fun l H hl h => sr rfl hl (z153_g24_e _ (gd l) _) h fun l H hl h => sr rfl hl (z153_g25_e _ (gd l) _) h fun l H hl h => sr rfl hl (z153_g26_e _ (gd l) _) h fun l H hl h => rt rfl h) h))
/- 154: sounder/sent.may$1 -/
def z154_rs : List ResultVar := [.tmp 6]
noncomputable def z154_c2 := sc Tryz.f154 [0]
noncomputable def z154_c4 := sc Tryz.f154 [1,0]
noncomputable def z154_c3 : Code := .seq z154_c4 Code.ret
noncomputable def z154_c1 : Code := .seq z154_c2 z154_c3
def z154_pi (_ : Nat) : Pl := .nil
noncomputable def z154_g5 (S : J3) (x0 x1 x2 : Value) (H : Heap) : Prop :=
  S x0 x1 x2 H
theorem z154_g5_e (S : J3) (x H) : WE z154_pi z154_c2 15 (fun l => S (gd l 0) (gd l 1) (gd l 2)) x H = z154_g5 S (x 0) (x 1) (x 2) H := by kernel_rfl
noncomputable def z154_g6 (S : J1) (x0 x1 x2 : Value) (H : Heap) : Prop :=
  bnd (binV .int .geq x0 x1) fun v9 =>
  brV v9
  (bnd (binV .int .leq x0 x2) fun v13 =>
  S v13 H)
  (S (.bool false) H)
theorem z154_g6_e (S : J1) (x H) : WE z154_pi z154_c4 15 (fun l => S (gd l 6)) x H = z154_g6 S (x 0) (x 1) (x 2) H := by kernel_rfl
def sent_may_1 (x0 x1 x2 : Value) (R : Value → Heap → Prop) (H : Heap) : Prop :=
  z154_g5 (fun x0 x1 x2 H => z154_g6 (fun x6 H => R x6 H) x0 x1 x2 H) x0 x1 x2 H
theorem z154_ev (x0 x1 x2 : Value) (R : J1) (H : Heap) (h : sent_may_1 x0 x1 x2 R H) : EvF P N.sent_may_1 #[x0, x1, x2] H R := .inl (EvF_intro (args := [x0, x1, x2]) (k := 12) (rs := z154_rs) tab_ok mixed Tryz.func154 (show Tryz.f154.body = some z154_c1 by kernel_rfl) Tryz.call154 Tryz.ntmps154 (by kernel_rfl) (okCode_of _ (show okB z154_pi z154_c1 = true by kernel_rfl)) (fr_eq _ _) (fj (n := 15) rfl (fun l hl (h : sent_may_1 (gd l 0) (gd l 1) (gd l 2) R H) => sr rfl hl (z154_g5_e _ (gd l) _) h fun l H hl h => sr rfl hl (z154_g6_e _ (gd l) _) h fun l H hl h => rt rfl h) h))
/- 155: (*sounder/sent.Log).count -/
def z155_rs : List ResultVar := []
noncomputable def z155_c2 := sc Tryz.f155 [0]
noncomputable def z155_c4 := sc Tryz.f155 [1,0]
noncomputable def z155_c7 := sc Tryz.f155 [1,1,0,0]
noncomputable def z155_c8 : Code := .cond (.tmp 16) Code.ret Code.skip
noncomputable def z155_c6 : Code := .seq z155_c7 z155_c8
noncomputable def z155_c10 := sc Tryz.f155 [1,1,1,0]
noncomputable def z155_c12 := sc Tryz.f155 [1,1,1,1,0]
noncomputable def z155_c14 := sc Tryz.f155 [1,1,1,1,1,0]
noncomputable def z155_c13 : Code := .cond (.tmp 29) z155_c14 Code.skip
noncomputable def z155_c11 : Code := .seq z155_c12 z155_c13
noncomputable def z155_c9 : Code := .seq z155_c10 z155_c11
noncomputable def z155_c5 : Code := .seq z155_c6 z155_c9
noncomputable def z155_c3 : Code := .seq z155_c4 z155_c5
noncomputable def z155_c1 : Code := .seq z155_c2 z155_c3
def z155_pi (i : Nat) : Pl := match i with
  | 3 => (ones [0, 1, 2, 3, 4, 5, 6, 7, 8, 9, 10, 11] .nil)
  | _ => .nil
noncomputable def z155_g15 (S : J3) (x0 x1 x2 : Value) (H : Heap) : Prop :=
  newE 40 (Value.cells x1) H fun v4 H1 =>
  S x0 x2 v4 H1
theorem z155_g15_e (S : J3) (x H) : WE z155_pi z155_c2 38 (fun l => S (gd l 0) (gd l 2) (gd l 4)) x H = z155_g15 S (x 0) (x 1) (x 2) H := by kernel_rfl
noncomputable def z155_g16 (S : J3) (x0 x2 x4 : Value) (H : Heap) : Prop :=
  bnd (nilV x0) fun v7 =>
  bnd (faV 5 v7) fun v8 =>
  bnd (ldE false 1 v8 H) fun v9 =>
  bnd (binV .int .add v9 x2) fun v11 =>
  bnd (nilV x0) fun v12 =>
  bnd (faV 5 v12) fun v13 =>
  bnd (stE 1 v13 v11 H) fun H1 =>
  S x0 x2 x4 H1
theorem z155_g16_e (S : J3) (x H) : WE z155_pi z155_c4 38 (fun l => S (gd l 0) (gd l 2) (gd l 4)) x H = z155_g16 S (x 0) (x 2) (x 4) H := by kernel_rfl
noncomputable def z155_g17 (S : J4) (x0 x2 x4 : Value) (H : Heap) : Prop :=
  bnd (faV 4 x4) fun v14 =>
  bnd (ldE false 1 v14 H) fun v15 =>
  bnd (unV .not v15) fun v16 =>
  S x0 x2 x4 v16 H
theorem z155_g17_e (S : J4) (x H) : WE z155_pi z155_c7 38 (fun l => S (gd l 0) (gd l 2) (gd l 4) (gd l 16)) x H = z155_g17 S (x 0) (x 2) (x 4) H := by kernel_rfl
noncomputable def z155_g18 (S : J3) (x0 x2 x4 : Value) (H : Heap) : Prop :=
  bnd (nilV x0) fun v18 =>
  bnd (faV 6 v18) fun v19 =>
  bnd (ldE false 1 v19 H) fun v20 =>
  bnd (faV 2 x4) fun v22 =>
  bnd (ldE false 1 v22 H) fun v23 =>
  bnd (binV .int .mul x2 v23) fun v24 =>
  bnd (binV .int .add v20 v24) fun v25 =>
  bnd (nilV x0) fun v26 =>
  bnd (faV 6 v26) fun v27 =>
  bnd (stE 1 v27 v25 H) fun H1 =>
  S x0 x2 x4 H1
theorem z155_g18_e (S : J3) (x H) : WE z155_pi z155_c10 38 (fun l => S (gd l 0) (gd l 2) (gd l 4)) x H = z155_g18 S (x 0) (x 2) (x 4) H := by kernel_rfl
noncomputable def z155_g19 (S : J3) (x0 x2 x4 : Value) (H : Heap) : Prop :=
  bnd (faV 3 x4) fun v28 =>
  bnd (ldE false 1 v28 H) fun v29 =>
  S x0 x2 v29 H
theorem z155_g19_e (S : J3) (x H) : WE z155_pi z155_c12 38 (fun l => S (gd l 0) (gd l 2) (gd l 29)) x H = z155_g19 S (x 0) (x 2) (x 4) H := by kernel_rfl
noncomputable def z155_g20 (S : J0) (x0 x2 : Value) (H : Heap) : Prop :=
  bnd (nilV x0) fun v31 =>
  bnd (faV 7 v31) fun v32 =>
  bnd (ldE false 1 v32 H) fun v33 =>
  bnd (binV .int .add v33 x2) fun v35 =>
  bnd (nilV x0) fun v36 =>
  bnd (faV 7 v36) fun v37 =>
  bnd (stE 1 v37 v35 H) fun H1 =>
  S H1
theorem z155_g20_e (S : J0) (x H) : WE z155_pi z155_c14 38 (fun _ => S ) x H = z155_g20 S (x 0) (x 2) H := by kernel_rfl
def sent_Log_count (x0 x1 x2 : Value) (R : Value → Heap → Prop) (H : Heap) : Prop :=
  z155_g15 (fun x0 x2 x4 H => z155_g16 (fun x0 x2 x4 H => z155_g17 (fun x0 x2 x4 x16 H => brV x16
  (R (.tuple #[]) H)
  (z155_g18 (fun x0 x2 x4 H => z155_g19 (fun x0 x2 x29 H => brV x29
  (z155_g20 (fun H => R (.tuple #[]) H) x0 x2 H)
  (R (.tuple #[]) H)) x0 x2 x4 H) x0 x2 x4 H)) x0 x2 x4 H) x0 x2 x4 H) x0 x1 x2 H
theorem z155_ev (x0 x1 x2 : Value) (R : J1) (H : Heap) (h : sent_Log_count x0 x1 x2 R H) : EvF P N.sent_Log_count #[x0, x1, x2] H R := .inl (EvF_intro (args := [x0, x1, x2]) (k := 35) (rs := z155_rs) tab_ok mixed Tryz.func155 (show Tryz.f155.body = some z155_c1 by kernel_rfl) Tryz.call155 Tryz.ntmps155 (by kernel_rfl) (okCode_of _ (show okB z155_pi z155_c1 = true by kernel_rfl)) (fr_eq _ _) (fj (n := 38) rfl (fun l hl (h : sent_Log_count (gd l 0) (gd l 1) (gd l 2) R H) => sr rfl hl (z155_g15_e _ (gd l) _) h fun l H hl h => sr rfl hl (z155_g16_e _ (gd l) _) h fun l H hl h => sq rfl <| sr rfl hl (z155_g17_e _ (gd l) _) h fun l H hl h => cd rfl h (fun h => rt rfl h) fun h => kN rfl <| sr rfl hl (z155_g18_e _ (gd l) _) h fun l H hl h => sr rfl hl (z155_g19_e _ (gd l) _) h fun l H hl h => cd rfl h (fun h => rj hl (z155_g20_e _ (gd l) _) h fun l H hl h => h) fun h => sk rfl <| h) h))
/- 156: (*sounder/span.Set).first$1 -/
def z156_rs : List ResultVar := [.tmp 4]
noncomputable def z156_c2 := sc Tryz.f156 [0]
noncomputable def z156_c4 := sc Tryz.f156 [1,0]
noncomputable def z156_c3 : Code := .seq z156_c4 Code.ret
noncomputable def z156_c1 : Code := .seq z156_c2 z156_c3
def z156_pi (i : Nat) : Pl := match i with
  | 1 => (ones [0, 1, 2, 3, 4, 5, 6, 7, 8, 9, 10] .nil)
  | _ => .nil
noncomputable def z156_g5 (S : J3) (x0 x1 x2 : Value) (H : Heap) : Prop :=
  S x0 x1 x2 H
theorem z156_g5_e (S : J3) (x H) : WE z156_pi z156_c2 15 (fun l => S (gd l 0) (gd l 1) (gd l 2)) x H = z156_g5 S (x 0) (x 1) (x 2) H := by kernel_rfl
noncomputable def z156_g6 (S : J1) (x0 x1 x2 : Value) (H : Heap) : Prop :=
  bnd (ldE false 1 x1 H) fun v5 =>
  bnd (nilV v5) fun v6 =>
  bnd (faV 1 v6) fun v7 =>
  bnd (ldE false 1 v7 H) fun v8 =>
  bnd (ixSV 2 v8 x0) fun v10 =>
  bnd (faV 1 v10) fun v11 =>
  bnd (ldE false 1 v11 H) fun v12 =>
  bnd (ldE false 1 x2 H) fun v13 =>
  bnd (binV .int .geq v12 v13) fun v14 =>
  S v14 H
theorem z156_g6_e (S : J1) (x H) : WE z156_pi z156_c4 15 (fun l => S (gd l 4)) x H = z156_g6 S (x 0) (x 1) (x 2) H := by kernel_rfl
def span_Set_first_1 (x0 x1 x2 : Value) (R : Value → Heap → Prop) (H : Heap) : Prop :=
  z156_g5 (fun x0 x1 x2 H => z156_g6 (fun x4 H => R x4 H) x0 x1 x2 H) x0 x1 x2 H
theorem z156_ev (x0 x1 x2 : Value) (R : J1) (H : Heap) (h : span_Set_first_1 x0 x1 x2 R H) : EvF P N.span_Set_first_1 #[x0, x1, x2] H R := .inl (EvF_intro (args := [x0, x1, x2]) (k := 12) (rs := z156_rs) tab_ok mixed Tryz.func156 (show Tryz.f156.body = some z156_c1 by kernel_rfl) Tryz.call156 Tryz.ntmps156 (by kernel_rfl) (okCode_of _ (show okB z156_pi z156_c1 = true by kernel_rfl)) (fr_eq _ _) (fj (n := 15) rfl (fun l hl (h : span_Set_first_1 (gd l 0) (gd l 1) (gd l 2) R H) => sr rfl hl (z156_g5_e _ (gd l) _) h fun l H hl h => sr rfl hl (z156_g6_e _ (gd l) _) h fun l H hl h => rt rfl h) h))
/- 157: slices.Insert[[]sounder/api.Range,sounder/api.Range] -/
def z157_rs : List ResultVar := [.tmp 6]
noncomputable def z157_c2 := sc Tryz.f157 [0]
noncomputable def z157_c4 := sc Tryz.f157 [1,0]
noncomputable def z157_c6 := sc Tryz.f157 [1,1,0]
noncomputable def z157_c9 := sc Tryz.f157 [1,1,1,0,0]
noncomputable def z157_c12 := sc Tryz.f157 [1,1,1,0,1,0,0]
noncomputable def z157_c11 : Code := .seq z157_c12 Code.ret
noncomputable def z157_c10 : Code := .cond (.tmp 16) z157_c11 Code.skip
noncomputable def z157_c8 : Code := .seq z157_c9 z157_c10
noncomputable def z157_c14 := sc Tryz.f157 [1,1,1,1,0]
noncomputable def z157_c17 := sc Tryz.f157 [1,1,1,1,1,0,0]
noncomputable def z157_c20 := sc Tryz.f157 [1,1,1,1,1,0,1,0,0]
noncomputable def z157_c19 : Code := .seq z157_c20 Code.ret
noncomputable def z157_c18 : Code := .cond (.tmp 22) z157_c19 Code.skip
noncomputable def z157_c16 : Code := .seq z157_c17 z157_c18
noncomputable def z157_c23 := sc Tryz.f157 [1,1,1,1,1,1,0,0]
noncomputable def z157_c26 := sc Tryz.f157 [1,1,1,1,1,1,0,1,0,0]
noncomputable def z157_c28 := sc Tryz.f157 [1,1,1,1,1,1,0,1,0,1,0]
noncomputable def z157_c30 := sc Tryz.f157 [1,1,1,1,1,1,0,1,0,1,1,0]
noncomputable def z157_c32 := sc Tryz.f157 [1,1,1,1,1,1,0,1,0,1,1,1,0]
noncomputable def z157_c31 : Code := .seq z157_c32 Code.ret
noncomputable def z157_c29 : Code := .seq z157_c30 z157_c31
noncomputable def z157_c27 : Code := .seq z157_c28 z157_c29
noncomputable def z157_c25 : Code := .seq z157_c26 z157_c27
noncomputable def z157_c24 : Code := .cond (.tmp 31) z157_c25 Code.skip
noncomputable def z157_c22 : Code := .seq z157_c23 z157_c24
noncomputable def z157_c34 := sc Tryz.f157 [1,1,1,1,1,1,1,0]
noncomputable def z157_c37 := sc Tryz.f157 [1,1,1,1,1,1,1,1,0,0]
noncomputable def z157_c40 := sc Tryz.f157 [1,1,1,1,1,1,1,1,0,1,0,0]
noncomputable def z157_c42 := sc Tryz.f157 [1,1,1,1,1,1,1,1,0,1,0,1,0]
noncomputable def z157_c44 := sc Tryz.f157 [1,1,1,1,1,1,1,1,0,1,0,1,1,0]
noncomputable def z157_c43 : Code := .seq z157_c44 Code.ret
noncomputable def z157_c41 : Code := .seq z157_c42 z157_c43
noncomputable def z157_c39 : Code := .seq z157_c40 z157_c41
noncomputable def z157_c38 : Code := .cond (.tmp 68) z157_c39 Code.skip
noncomputable def z157_c36 : Code := .seq z157_c37 z157_c38
noncomputable def z157_c46 := sc Tryz.f157 [1,1,1,1,1,1,1,1,1,0]
noncomputable def z157_c48 := sc Tryz.f157 [1,1,1,1,1,1,1,1,1,1,0]
noncomputable def z157_c50 := sc Tryz.f157 [1,1,1,1,1,1,1,1,1,1,1,0]
noncomputable def z157_c49 : Code := .seq z157_c50 Code.ret
noncomputable def z157_c47 : Code := .seq z157_c48 z157_c49
noncomputable def z157_c45 : Code := .seq z157_c46 z157_c47
noncomputable def z157_c35 : Code := .seq z157_c36 z157_c45
noncomputable def z157_c33 : Code := .seq z157_c34 z157_c35
noncomputable def z157_c21 : Code := .seq z157_c22 z157_c33
noncomputable def z157_c15 : Code := .seq z157_c16 z157_c21
noncomputable def z157_c13 : Code := .seq z157_c14 z157_c15
noncomputable def z157_c7 : Code := .seq z157_c8 z157_c13
noncomputable def z157_c5 : Code := .seq z157_c6 z157_c7
noncomputable def z157_c3 : Code := .seq z157_c4 z157_c5
noncomputable def z157_c1 : Code := .seq z157_c2 z157_c3
def z157_pi (i : Nat) : Pl := match i with
  | 11 => (ones [0, 1, 2, 3, 4, 5, 6, 7, 8] .nil)
  | 15 => (ones [0, 1, 2, 3, 4, 5, 6, 7, 8] .nil)
  | _ => .nil
noncomputable def z157_g51 (S : J3) (x0 x1 x2 : Value) (H : Heap) : Prop :=
  S x0 x1 x2 H
theorem z157_g51_e (S : J3) (x H) : WE z157_pi z157_c2 95 (fun l => S (gd l 0) (gd l 1) (gd l 2)) x H = z157_g51 S (x 0) (x 1) (x 2) H := by kernel_rfl
noncomputable def z157_g52 (S : J3) (x0 x1 x2 : Value) (H : Heap) : Prop :=
  bnd (sliceV 2 x0 (some x1) none) fun _ =>
  S x0 x1 x2 H
theorem z157_g52_e (S : J3) (x H) : WE z157_pi z157_c4 95 (fun l => S (gd l 0) (gd l 1) (gd l 2)) x H = z157_g52 S (x 0) (x 1) (x 2) H := by kernel_rfl
noncomputable def z157_g53 (S : J4) (x0 x1 x2 : Value) (H : Heap) : Prop :=
  bnd (lenV x2) fun v14 =>
  S x0 x1 x2 v14 H
theorem z157_g53_e (S : J4) (x H) : WE z157_pi z157_c6 95 (fun l => S (gd l 0) (gd l 1) (gd l 2) (gd l 7)) x H = z157_g53 S (x 0) (x 1) (x 2) H := by kernel_rfl
noncomputable def z157_g54 (S : J5) (x0 x1 x2 x7 : Value) (H : Heap) : Prop :=
  bnd (binV .int .eql x7 (.int .i64 0)) fun v16 =>
  S x0 x1 x2 x7 v16 H
theorem z157_g54_e (S : J5) (x H) : WE z157_pi z157_c9 95 (fun l => S (gd l 0) (gd l 1) (gd l 2) (gd l 7) (gd l 16)) x H = z157_g54 S (x 0) (x 1) (x 2) (x 7) H := by kernel_rfl
noncomputable def z157_g55 (S : J1) (x0 : Value) (H : Heap) : Prop :=
  S x0 H
theorem z157_g55_e (S : J1) (x H) : WE z157_pi z157_c12 95 (fun l => S (gd l 6)) x H = z157_g55 S (x 0) H := by kernel_rfl
noncomputable def z157_g56 (S : J5) (x0 x1 x2 x7 : Value) (H : Heap) : Prop :=
  bnd (lenV x0) fun v19 =>
  S x0 x1 x2 x7 v19 H
theorem z157_g56_e (S : J5) (x H) : WE z157_pi z157_c14 95 (fun l => S (gd l 0) (gd l 1) (gd l 2) (gd l 7) (gd l 8)) x H = z157_g56 S (x 0) (x 1) (x 2) (x 7) H := by kernel_rfl
noncomputable def z157_g57 (S : J6) (x0 x1 x2 x7 x8 : Value) (H : Heap) : Prop :=
  bnd (binV .int .eql x1 x8) fun v22 =>
  S x0 x1 x2 x7 x8 v22 H
theorem z157_g57_e (S : J6) (x H) : WE z157_pi z157_c17 95 (fun l => S (gd l 0) (gd l 1) (gd l 2) (gd l 7) (gd l 8) (gd l 22)) x H = z157_g57 S (x 0) (x 1) (x 2) (x 7) (x 8) H := by kernel_rfl
noncomputable def z157_g58 (S : J1) (x0 x2 : Value) (H : Heap) : Prop :=
  appE 93 #[(.int .i64 0), (.int .i64 0)] 2 16 x0 x2 H fun v25 H1 =>
  S v25 H1
theorem z157_g58_e (S : J1) (x H) : WE z157_pi z157_c20 95 (fun l => S (gd l 6)) x H = z157_g58 S (x 0) (x 2) H := by kernel_rfl
noncomputable def z157_g59 (S : J6) (x0 x1 x2 x7 x8 : Value) (H : Heap) : Prop :=
  bnd (binV .int .add x8 x7) fun v28 =>
  bnd (capV x0) fun v30 =>
  bnd (binV .int .gtr v28 v30) fun v31 =>
  S x0 x1 x2 x7 x8 v31 H
theorem z157_g59_e (S : J6) (x H) : WE z157_pi z157_c23 95 (fun l => S (gd l 0) (gd l 1) (gd l 2) (gd l 7) (gd l 8) (gd l 31)) x H = z157_g59 S (x 0) (x 1) (x 2) (x 7) (x 8) H := by kernel_rfl
noncomputable def z157_g60 (S : J5) (x0 x1 x2 x7 x8 : Value) (H : Heap) : Prop :=
  bnd (sliceV 2 x0 none (some x1)) fun v34 =>
  bnd (binV .int .add x8 x7) fun v37 =>
  bnd (binV .int .sub v37 x1) fun v39 =>
  appZE 93 #[(.int .i64 0), (.int .i64 0)] 2 16 v34 v39 H fun v40 H1 =>
  S x0 x1 x2 x7 v40 H1
theorem z157_g60_e (S : J5) (x H) : WE z157_pi z157_c26 95 (fun l => S (gd l 0) (gd l 1) (gd l 2) (gd l 7) (gd l 9)) x H = z157_g60 S (x 0) (x 1) (x 2) (x 7) (x 8) H := by kernel_rfl
noncomputable def z157_g61 (S : J4) (x0 x1 x2 x7 x9 : Value) (H : Heap) : Prop :=
  bnd (sliceV 2 x9 (some x1) none) fun v43 =>
  cpyE 2 v43 x2 H fun _ H1 =>
  S x0 x1 x7 x9 H1
theorem z157_g61_e (S : J4) (x H) : WE z157_pi z157_c28 95 (fun l => S (gd l 0) (gd l 1) (gd l 7) (gd l 9)) x H = z157_g61 S (x 0) (x 1) (x 2) (x 7) (x 9) H := by kernel_rfl
noncomputable def z157_g62 (S : J1) (x0 x1 x7 x9 : Value) (H : Heap) : Prop :=
  bnd (binV .int .add x1 x7) fun v49 =>
  bnd (sliceV 2 x9 (some v49) none) fun v50 =>
  bnd (sliceV 2 x0 (some x1) none) fun v53 =>
  cpyE 2 v50 v53 H fun _ H1 =>
  S x9 H1
theorem z157_g62_e (S : J1) (x H) : WE z157_pi z157_c30 95 (fun l => S (gd l 9)) x H = z157_g62 S (x 0) (x 1) (x 7) (x 9) H := by kernel_rfl
noncomputable def z157_g63 (S : J1) (x9 : Value) (H : Heap) : Prop :=
  S x9 H
theorem z157_g63_e (S : J1) (x H) : WE z157_pi z157_c32 95 (fun l => S (gd l 6)) x H = z157_g63 S (x 9) H := by kernel_rfl
noncomputable def z157_g64 (S : J5) (x0 x1 x2 x7 x8 : Value) (H : Heap) : Prop :=
  bnd (binV .int .add x8 x7) fun v59 =>
  bnd (sliceV 2 x0 none (some v59)) fun v60 =>
  S v60 x1 x2 x7 x8 H
theorem z157_g64_e (S : J5) (x H) : WE z157_pi z157_c34 95 (fun l => S (gd l 0) (gd l 1) (gd l 2) (gd l 7) (gd l 8)) x H = z157_g64 S (x 0) (x 1) (x 2) (x 7) (x 8) H := by kernel_rfl
noncomputable def z157_g65 (S : J6) (x0 x1 x2 x7 x8 : Value) (H : Heap) : Prop :=
  bnd (binV .int .add x1 x7) fun v65 =>
  bnd (sliceV 2 x0 (some v65) none) fun v66 =>
  EvF P N.slices_overlaps_Range #[x2, v66] H fun v67 H1 =>
  bnd (unV .not v67) fun v68 =>
  S x0 x1 x2 x7 x8 v68 H1
theorem z157_g65_e (S : J6) (x H) : WE z157_pi z157_c37 95 (fun l => S (gd l 0) (gd l 1) (gd l 2) (gd l 7) (gd l 8) (gd l 68)) x H = z157_g65 S (x 0) (x 1) (x 2) (x 7) (x 8) H := by kernel_rfl
noncomputable def z157_g66 (S : J3) (x0 x1 x2 x7 : Value) (H : Heap) : Prop :=
  bnd (binV .int .add x1 x7) fun v72 =>
  bnd (sliceV 2 x0 (some v72) none) fun v73 =>
  bnd (sliceV 2 x0 (some x1) none) fun v76 =>
  cpyE 2 v73 v76 H fun _ H1 =>
  S x0 x1 x2 H1
theorem z157_g66_e (S : J3) (x H) : WE z157_pi z157_c40 95 (fun l => S (gd l 0) (gd l 1) (gd l 2)) x H = z157_g66 S (x 0) (x 1) (x 2) (x 7) H := by kernel_rfl
noncomputable def z157_g67 (S : J1) (x0 x1 x2 : Value) (H : Heap) : Prop :=
  bnd (sliceV 2 x0 (some x1) none) fun v80 =>
  cpyE 2 v80 x2 H fun _ H1 =>
  S x0 H1
theorem z157_g67_e (S : J1) (x H) : WE z157_pi z157_c42 95 (fun l => S (gd l 0)) x H = z157_g67 S (x 0) (x 1) (x 2) H := by kernel_rfl
noncomputable def z157_g68 (S : J1) (x0 : Value) (H : Heap) : Prop :=
  S x0 H
theorem z157_g68_e (S : J1) (x H) : WE z157_pi z157_c44 95 (fun l => S (gd l 6)) x H = z157_g68 S (x 0) H := by kernel_rfl
noncomputable def z157_g69 (S : J3) (x0 x1 x2 x7 x8 : Value) (H : Heap) : Prop :=
  bnd (sliceV 2 x0 (some x8) none) fun v86 =>
  cpyE 2 v86 x2 H fun _ H1 =>
  S x0 x1 x7 H1
theorem z157_g69_e (S : J3) (x H) : WE z157_pi z157_c46 95 (fun l => S (gd l 0) (gd l 1) (gd l 7)) x H = z157_g69 S (x 0) (x 1) (x 2) (x 7) (x 8) H := by kernel_rfl
noncomputable def z157_g70 (S : J1) (x0 x1 x7 : Value) (H : Heap) : Prop :=
  bnd (sliceV 2 x0 (some x1) none) fun v91 =>
  EvF P N.slices_rotateRight_Range #[v91, x7] H fun _ H1 =>
  S x0 H1
theorem z157_g70_e (S : J1) (x H) : WE z157_pi z157_c48 95 (fun l => S (gd l 0)) x H = z157_g70 S (x 0) (x 1) (x 7) H := by kernel_rfl
noncomputable def z157_g71 (S : J1) (x0 : Value) (H : Heap) : Prop :=
  S x0 H
theorem z157_g71_e (S : J1) (x H) : WE z157_pi z157_c50 95 (fun l => S (gd l 6)) x H = z157_g71 S (x 0) H := by kernel_rfl
def slices_Insert_Range (x0 x1 x2 : Value) (R : Value → Heap → Prop) (H : Heap) : Prop :=
  z157_g51 (fun x0 x1 x2 H => z157_g52 (fun x0 x1 x2 H => z157_g53 (fun x0 x1 x2 x7 H => z157_g54 (fun x0 x1 x2 x7 x16 H => brV x16
  (z157_g55 (fun x6 H => R x6 H) x0 H)
  (z157_g56 (fun x0 x1 x2 x7 x8 H => z157_g57 (fun x0 x1 x2 x7 x8 x22 H => brV x22
  (z157_g58 (fun x6 H => R x6 H) x0 x2 H)
  (z157_g59 (fun x0 x1 x2 x7 x8 x31 H => brV x31
  (z157_g60 (fun x0 x1 x2 x7 x9 H => z157_g61 (fun x0 x1 x7 x9 H => z157_g62 (fun x9 H => z157_g63 (fun x6 H => R x6 H) x9 H) x0 x1 x7 x9 H) x0 x1 x2 x7 x9 H) x0 x1 x2 x7 x8 H)
  (z157_g64 (fun x0 x1 x2 x7 x8 H => z157_g65 (fun x0 x1 x2 x7 x8 x68 H => brV x68
  (z157_g66 (fun x0 x1 x2 H => z157_g67 (fun x0 H => z157_g68 (fun x6 H => R x6 H) x0 H) x0 x1 x2 H) x0 x1 x2 x7 H)
  (z157_g69 (fun x0 x1 x7 H => z157_g70 (fun x0 H => z157_g71 (fun x6 H => R x6 H) x0 H) x0 x1 x7 H) x0 x1 x2 x7 x8 H)) x0 x1 x2 x7 x8 H) x0 x1 x2 x7 x8 H)) x0 x1 x2 x7 x8 H)) x0 x1 x2 x7 x8 H) x0 x1 x2 x7 H)) x0 x1 x2 x7 H) x0 x1 x2 H) x0 x1 x2 H) x0 x1 x2 H
theorem z157_ev (x0 x1 x2 : Value) (R : J1) (H : Heap) (h : slices_Insert_Range x0 x1 x2 R H) : EvF P N.slices_Insert_Range #[x0, x1, x2] H R := .inl (EvF_intro (args := [x0, x1, x2]) (k := 92) (rs := z157_rs) tab_ok mixed Tryz.func157 (show Tryz.f157.body = some z157_c1 by kernel_rfl) Tryz.call157 Tryz.ntmps157 (by kernel_rfl) (okCode_of _ (show okB z157_pi z157_c1 = true by kernel_rfl)) (fr_eq _ _) (fj (n := 95) rfl (fun l hl (h : slices_Insert_Range (gd l 0) (gd l 1) (gd l 2) R H) => sr rfl hl (z157_g51_e _ (gd l) _) h fun l H hl h => sr rfl hl (z157_g52_e _ (gd l) _) h fun l H hl h => sr rfl hl (z157_g53_e _ (gd l) _) h fun l H hl h => sq rfl <| sr rfl hl (z157_g54_e _ (gd l) _) h fun l H hl h => cd rfl h (fun h => sr rfl hl (z157_g55_e _ (gd l) _) h fun l H hl h => rt rfl h) fun h => kN rfl <| sr rfl hl (z157_g56_e _ (gd l) _) h fun l H hl h => sq rfl <| sr rfl hl (z157_g57_e _ (gd l) _) h fun l H hl h => cd rfl h (fun h => sr rfl hl (z157_g58_e _ (gd l) _) h fun l H hl h => rt rfl h) fun h => kN rfl <| sq rfl <| sr rfl hl (z157_g59_e _ (gd l) _) h fun l H hl h => cd rfl h (fun h => sr rfl hl (z157_g60_e _ (gd l) _) h fun l H hl h => sr rfl hl (z157_g61_e _ (gd l) _) h fun l H hl h => sr rfl hl (z157_g62_e _ (gd l) _) h fun l H hl h => sr rfl hl (z157_g63_e _ (gd l) _) h fun l H hl h => rt rfl h) fun h => kN rfl <| sr rfl hl (z157_g64_e _ (gd l) _) h fun l H hl h => sq rfl <| sr rfl hl (z157_g65_e _ (gd l) _) h fun l H hl h => cd rfl h (fun h => sr rfl hl (z157_g66_e _ (gd l) _) h fun l H hl h => sr rfl hl (z157_g67_e _ (gd l) _) h fun l H hl h => sr rfl hl (z157_g68_e _ (gd l) _) h fun l H hl h => rt rfl h) fun h => kN rfl <| sr rfl hl (z157_g69_e _ (gd l) _) h fun l H hl h => sr rfl hl (z157_g70_e _ (gd l) _) h fun l H hl h => sr rfl hl (z157_g71_e _ (gd l) _) h fun l H hl h => rt rfl h) h))
/- 159: slices.rotateRight[sounder/api.Range] -/
def z159_rs : List ResultVar := []
noncomputable def z159_c1 := sc Tryz.f159 []
def z159_pi (_ : Nat) : Pl := .nil
noncomputable def z159_g2 (S : J0) (x0 x1 : Value) (H : Heap) : Prop :=
  bnd (lenV x0) fun v6 =>
  bnd (binV .int .sub v6 x1) fun v8 =>
  EvF P N.slices_rotateLeft_Range #[x0, v8] H fun _ H1 =>
  S H1
theorem z159_g2_e (S : J0) (x H) : WE z159_pi z159_c1 10 (fun _ => S ) x H = z159_g2 S (x 0) (x 1) H := by kernel_rfl
def slices_rotateRight_Range (x0 x1 : Value) (R : Value → Heap → Prop) (H : Heap) : Prop :=
  z159_g2 (fun H => R (.tuple #[]) H) x0 x1 H
theorem z159_ev (x0 x1 : Value) (R : J1) (H : Heap) (h : slices_rotateRight_Range x0 x1 R H) : EvF P N.slices_rotateRight_Range #[x0, x1] H R := .inl (EvF_intro (args := [x0, x1]) (k := 8) (rs := z159_rs) tab_ok mixed Tryz.func159 (show Tryz.f159.body = some z159_c1 by kernel_rfl) Tryz.call159 Tryz.ntmps159 (by kernel_rfl) (okCode_of _ (show okB z159_pi z159_c1 = true by kernel_rfl)) (fr_eq _ _) (fj (n := 10) rfl (fun l hl (h : slices_rotateRight_Range (gd l 0) (gd l 1) R H) => rj hl (z159_g2_e _ (gd l) _) h fun l H hl h => h) h))
/- 170: (*sounder/sent.Log).find -/
def z170_rs : List ResultVar := [.tmp 4]
noncomputable def z170_c2 := sc Tryz.f170 [0]
noncomputable def z170_c4 := sc Tryz.f170 [1,0]
noncomputable def z170_c3 : Code := .seq z170_c4 Code.ret
noncomputable def z170_c1 : Code := .seq z170_c2 z170_c3
def z170_pi (_ : Nat) : Pl := .nil
noncomputable def z170_g5 (S : J2) (x0 x1 : Value) (H : Heap) : Prop :=
  newE 75 (Value.cells x0) H fun v2 H1 =>
  newE 3 (Value.cells x1) H1 fun v3 H2 =>
  S v2 v3 H2
theorem z170_g5_e (S : J2) (x H) : WE z170_pi z170_c2 11 (fun l => S (gd l 2) (gd l 3)) x H = z170_g5 S (x 0) (x 1) H := by kernel_rfl
noncomputable def z170_g6 (S : J1) (x2 x3 : Value) (H : Heap) : Prop :=
  bnd (ldE false 1 x2 H) fun v5 =>
  bnd (nilV v5) fun v6 =>
  bnd (faV 4 v6) fun v7 =>
  bnd (ldE false 1 v7 H) fun v8 =>
  EvF P N.sort_Search #[v8, (.func (.func N.sent_Log_find_1) #[] #[x2, x3])] H fun v10 H1 =>
  S v10 H1
theorem z170_g6_e (S : J1) (x H) : WE z170_pi z170_c4 11 (fun l => S (gd l 4)) x H = z170_g6 S (x 2) (x 3) H := by kernel_rfl
def sent_Log_find (x0 x1 : Value) (R : Value → Heap → Prop) (H : Heap) : Prop :=
  z170_g5 (fun x2 x3 H => z170_g6 (fun x4 H => R x4 H) x2 x3 H) x0 x1 H
theorem z170_ev (x0 x1 : Value) (R : J1) (H : Heap) (h : sent_Log_find x0 x1 R H) : EvF P N.sent_Log_find #[x0, x1] H R := .inl (EvF_intro (args := [x0, x1]) (k := 9) (rs := z170_rs) tab_ok mixed Tryz.func170 (show Tryz.f170.body = some z170_c1 by kernel_rfl) Tryz.call170 Tryz.ntmps170 (by kernel_rfl) (okCode_of _ (show okB z170_pi z170_c1 = true by kernel_rfl)) (fr_eq _ _) (fj (n := 11) rfl (fun l hl (h : sent_Log_find (gd l 0) (gd l 1) R H) => sr rfl hl (z170_g5_e _ (gd l) _) h fun l H hl h => sr rfl hl (z170_g6_e _ (gd l) _) h fun l H hl h => rt rfl h) h))
/- 171: slices.IndexFunc[[]sounder/api.Packet,sounder/api.Packet] -/
def z171_rs : List ResultVar := [.tmp 4]
noncomputable def z171_c2 := sc Tryz.f171 [0]
noncomputable def z171_c5 := sc Tryz.f171 [1,0,0]
noncomputable def z171_c9 := sc Tryz.f171 [1,0,1,0,0,0]
noncomputable def z171_c12 : Code := .exit 0
noncomputable def z171_c11 : Code := .cond (.tmp 9) Code.skip z171_c12
noncomputable def z171_c16 := sc Tryz.f171 [1,0,1,0,0,1,1,0,0,0]
noncomputable def z171_c18 := sc Tryz.f171 [1,0,1,0,0,1,1,0,0,1,0]
noncomputable def z171_c21 := sc Tryz.f171 [1,0,1,0,0,1,1,0,0,1,1,0,0]
noncomputable def z171_c20 : Code := .seq z171_c21 Code.ret
noncomputable def z171_c19 : Code := .cond (.tmp 16) z171_c20 Code.skip
noncomputable def z171_c17 : Code := .seq z171_c18 z171_c19
noncomputable def z171_c15 : Code := .seq z171_c16 z171_c17
noncomputable def z171_c14 : Code := .block 1 z171_c15
noncomputable def z171_c22 := sc Tryz.f171 [1,0,1,0,0,1,1,1]
noncomputable def z171_c13 : Code := .seq z171_c14 z171_c22
noncomputable def z171_c10 : Code := .seq z171_c11 z171_c13
noncomputable def z171_c8 : Code := .seq z171_c9 z171_c10
noncomputable def z171_c7 : Code := .loop z171_c8
noncomputable def z171_c6 : Code := .block 0 z171_c7
noncomputable def z171_c4 : Code := .seq z171_c5 z171_c6
noncomputable def z171_c24 := sc Tryz.f171 [1,1,0]
noncomputable def z171_c23 : Code := .seq z171_c24 Code.ret
noncomputable def z171_c3 : Code := .seq z171_c4 z171_c23
noncomputable def z171_c1 : Code := .seq z171_c2 z171_c3
def z171_pi (_ : Nat) : Pl := .nil
noncomputable def z171_g25 (S : J2) (x0 x1 : Value) (H : Heap) : Prop :=
  S x0 x1 H
theorem z171_g25_e (S : J2) (x H) : WE z171_pi z171_c2 19 (fun l => S (gd l 0) (gd l 1)) x H = z171_g25 S (x 0) (x 1) H := by kernel_rfl
noncomputable def z171_g26 (S : J4) (x0 x1 : Value) (H : Heap) : Prop :=
  bnd (lenV x0) fun v7 =>
  S x0 x1 v7 (.int .i64 0) H
theorem z171_g26_e (S : J4) (x H) : WE z171_pi z171_c5 19 (fun l => S (gd l 0) (gd l 1) (gd l 7) (gd l 8)) x H = z171_g26 S (x 0) (x 1) H := by kernel_rfl
noncomputable def z171_g28 (S : J5) (x0 x1 x7 x8 : Value) (H : Heap) : Prop :=
  bnd (binV .int .lss x8 x7) fun v9 =>
  S x0 x1 x7 x8 v9 H
theorem z171_g28_e (S : J5) (x H) : WE z171_pi z171_c9 19 (fun l => S (gd l 0) (gd l 1) (gd l 7) (gd l 8) (gd l 9)) x H = z171_g28 S (x 0) (x 1) (x 7) (x 8) H := by kernel_rfl
noncomputable def z171_g29 (S : J5) (x0 x1 x7 x8 : Value) (H : Heap) : Prop :=
  S x0 x1 x8 x7 x8 H
theorem z171_g29_e (S : J5) (x H) : WE z171_pi z171_c16 19 (fun l => S (gd l 0) (gd l 1) (gd l 5) (gd l 7) (gd l 8)) x H = z171_g29 S (x 0) (x 1) (x 7) (x 8) H := by kernel_rfl
noncomputable def z171_g30 (S : J6) (x0 x1 x5 x7 x8 : Value) (H : Heap) : Prop :=
  bnd (ixSV 6 x0 x5) fun v14 =>
  bnd (ldE true 6 v14 H) fun v15 =>
  callV P x1 [v15] H fun v16 H1 =>
  S x0 x1 x5 x7 x8 v16 H1
theorem z171_g30_e (S : J6) (x H) : WE z171_pi z171_c18 19 (fun l => S (gd l 0) (gd l 1) (gd l 5) (gd l 7) (gd l 8) (gd l 16)) x H = z171_g30 S (x 0) (x 1) (x 5) (x 7) (x 8) H := by kernel_rfl
noncomputable def z171_g31 (S : J1) (x5 : Value) (H : Heap) : Prop :=
  S x5 H
theorem z171_g31_e (S : J1) (x H) : WE z171_pi z171_c21 19 (fun l => S (gd l 4)) x H = z171_g31 S (x 5) H := by kernel_rfl
noncomputable def z171_g32 (S : J4) (x0 x1 x7 x8 : Value) (H : Heap) : Prop :=
  bnd (binV .int .add x8 (.int .i64 1)) fun v18 =>
  S x0 x1 x7 v18 H
theorem z171_g32_e (S : J4) (x H) : WE z171_pi z171_c22 19 (fun l => S (gd l 0) (gd l 1) (gd l 7) (gd l 8)) x H = z171_g32 S (x 0) (x 1) (x 7) (x 8) H := by kernel_rfl
noncomputable def z171_g33 (S : J1) (H : Heap) : Prop :=
  S (.int .i64 (-1)) H
theorem z171_g33_e (S : J1) (x H) : WE z171_pi z171_c24 19 (fun l => S (gd l 4)) x H = z171_g33 S  H := by kernel_rfl
noncomputable def z171_s27 (x0 x1 x7 x8 : Value) (K1 : J4) (R : J1) (H : Heap) : Prop :=
  z171_g28 (fun x0 x1 x7 x8 x9 H => brV x9
  (z171_g29 (fun x0 x1 x5 x7 x8 H => z171_g30 (fun x0 x1 x5 x7 x8 x16 H => brV x16
  (z171_g31 (fun x4 H => R x4 H) x5 H)
  (z171_g32 (fun x0 x1 x7 x8 H => K1 x0 x1 x7 x8 H) x0 x1 x7 x8 H)) x0 x1 x5 x7 x8 H) x0 x1 x7 x8 H)
  (z171_g33 (fun x4 H => R x4 H) H)) x0 x1 x7 x8 H
noncomputable def z171_q34 (R : J1) : JQ := (retQ tab z171_rs R)
noncomputable def z171_q35 (R : J1) : JQ := (thenE (fun l H => wpE tab P z171_pi z171_c23 (z171_q34 R) l H) (z171_q34 R))
noncomputable def z171_q36 (R : J1) : JQ := (blkE 0 (z171_q35 R))
noncomputable def z171_q37 (K1 : J4) (R : J1) : JQ := (thenE (fun l H => K1 (gd l 0) (gd l 1) (gd l 7) (gd l 8) H) (z171_q36 R))
theorem z171_s27_i (K1 : J4) (R : J1) (l : List Value) (H : Heap) (hl : l.length = 19) (h : z171_s27 (gd l 0) (gd l 1) (gd l 7) (gd l 8) K1 R H) : wpE tab P z171_pi z171_c8 (z171_q37 K1 R) l H := sr rfl hl (z171_g28_e _ (gd l) _) h fun l H hl h => sq rfl <| cd rfl h (fun h => kN rfl <| sq rfl <| bl rfl <| sr rfl hl (z171_g29_e _ (gd l) _) h fun l H hl h => sr rfl hl (z171_g30_e _ (gd l) _) h fun l H hl h => cd rfl h (fun h => sr rfl hl (z171_g31_e _ (gd l) _) h fun l H hl h => rt rfl h) fun h => sk rfl <| bN <| tN <| rj hl (z171_g32_e _ (gd l) _) h fun l H hl h => tN <| h) fun h => ex rfl <| tX <| tX <| bX <| tN <| sr rfl hl (z171_g33_e _ (gd l) _) h fun l H hl h => rt rfl h
noncomputable def z171_l38 (x0 x1 x7 x8 : Value) (R : J1) (H : Heap) : Prop :=
  ∃ (I : J1) (μ : M1), I x8 H ∧ ∀ (y8 : Value) (H : Heap), I y8 H → z171_s27 x0 x1 x7 y8 (fun z0 z1 z7 z8 H' => z0 = x0 ∧ z1 = x1 ∧ z7 = x7 ∧ (I z8 H' ∧ μ z8 H' < μ y8 H)) R H
def slices_IndexFunc_Packet (x0 x1 : Value) (R : Value → Heap → Prop) (H : Heap) : Prop :=
  z171_g25 (fun x0 x1 H => z171_g26 (fun x0 x1 x7 x8 H => z171_l38 x0 x1 x7 x8 R H) x0 x1 H) x0 x1 H
theorem z171_ev (x0 x1 : Value) (R : J1) (H : Heap) (h : slices_IndexFunc_Packet x0 x1 R H) : EvF P N.slices_IndexFunc_Packet #[x0, x1] H R := .inl (EvF_intro (args := [x0, x1]) (k := 17) (rs := z171_rs) tab_ok mixed Tryz.func171 (show Tryz.f171.body = some z171_c1 by kernel_rfl) Tryz.call171 Tryz.ntmps171 (by kernel_rfl) (okCode_of _ (show okB z171_pi z171_c1 = true by kernel_rfl)) (fr_eq _ _) (fj (n := 19) rfl (fun l hl (h : slices_IndexFunc_Packet (gd l 0) (gd l 1) R H) => sr rfl hl (z171_g25_e _ (gd l) _) h fun l H hl h => sq rfl <| sr rfl hl (z171_g26_e _ (gd l) _) h fun l H hl h => bl rfl <| (by
    obtain ⟨I, μ, h0, hr⟩ := h
    refine loopI (c := z171_c7) rfl (fun l' H' => gd l' 0 = gd l 0 ∧ gd l' 1 = gd l 1 ∧ gd l' 7 = gd l 7 ∧ I (gd l' 8) H') (fun l' H' => μ (gd l' 8) H') hl ⟨rfl, rfl, rfl, h0⟩ ?_
    rintro l1 H1 hl1 ⟨e0, e1, e7, hI⟩
    have hb := hr (gd l1 8) H1 hI
    rw [← e0, ← e1, ← e7] at hb
    refine wpE_mono _ l1 H1 hl1 ?_ (z171_s27_i _ R l1 H1 hl1 hb)
    intro e l2 H2 hl2 hq
    cases e with
    | normal => exact fun _ => (by obtain ⟨d0, d1, d7, g1, g2⟩ := hq; exact ⟨⟨d0.trans e0, d1.trans e1, d7.trans e7, g1⟩, g2⟩)
    | _ => exact hq)) h))
/- 172: slices.AppendSeq[[]sounder/api.Range,sounder/api.Range] -/
def z172_rs : List ResultVar := [.tmp 4]
noncomputable def z172_c2 := sc Tryz.f172 [0]
noncomputable def z172_c5 := sc Tryz.f172 [1,0,0]
noncomputable def z172_c8 := sc Tryz.f172 [1,0,1,0,0]
noncomputable def z172_c10 := sc Tryz.f172 [1,0,1,0,1,0]
noncomputable def z172_c9 : Code := .block 1 z172_c10
noncomputable def z172_c7 : Code := .rangeFunc (.tmp 6) #[7] z172_c8 z172_c9
noncomputable def z172_c6 : Code := .block 0 z172_c7
noncomputable def z172_c4 : Code := .seq z172_c5 z172_c6
noncomputable def z172_c12 := sc Tryz.f172 [1,1,0]
noncomputable def z172_c11 : Code := .seq z172_c12 Code.ret
noncomputable def z172_c3 : Code := .seq z172_c4 z172_c11
noncomputable def z172_c1 : Code := .seq z172_c2 z172_c3
def z172_pi (_ : Nat) : Pl := .nil
noncomputable def z172_g13 (S : J2) (x0 x1 : Value) (H : Heap) : Prop :=
  newE 50 (Value.cells x0) H fun v2 H1 =>
  S x1 v2 H1
theorem z172_g13_e (S : J2) (x H) : WE z172_pi z172_c2 13 (fun l => S (gd l 1) (gd l 2)) x H = z172_g13 S (x 0) (x 1) H := by kernel_rfl
noncomputable def z172_g14 (S : J2) (x1 x2 : Value) (H : Heap) : Prop :=
  S x2 x1 H
theorem z172_g14_e (S : J2) (x H) : WE z172_pi z172_c5 13 (fun l => S (gd l 2) (gd l 6)) x H = z172_g14 S (x 1) (x 2) H := by kernel_rfl
noncomputable def z172_L (fn : FuncId) (l : List Value) (d : Nat) : Loop := mkL fn l #[7] z172_c8 z172_c9 d
noncomputable def z172_g16 (S : J0) (x2 x5 : Value) (H : Heap) : Prop :=
  bnd (ldE false 1 x2 H) fun v8 =>
  bnd (ldE true 2 x5 H) fun v9 =>
  bslE 93 #[(.int .i64 0), (.int .i64 0)] 2 1 [(0, v9)] H fun v10 H1 =>
  appE 93 #[(.int .i64 0), (.int .i64 0)] 2 16 v8 v10 H1 fun v11 H2 =>
  bnd (stE 1 x2 v11 H2) fun H3 =>
  S H3
theorem z172_g16_e (S : J0) (x H) : WE z172_pi z172_c10 13 (fun _ => S ) x H = z172_g16 S (x 2) (x 5) H := by kernel_rfl
noncomputable def z172_s15 (x2 x5 : Value) (lp : Nat) (r : Loop) (R : J1) (H : Heap) : Prop :=
  z172_g16 (fun H => (H.arr[lp]? = some (.loop (busy r)) ∧ R (.bool true) (setO H lp (.loop r)))) x2 x5 H
noncomputable def z172_q17 (lp : Nat) (r : Loop) (R : J1) : JQ := (nQ fun _ H2 => H2.arr[lp]? = some (.loop (busy r)) ∧ R (.bool true) (setO H2 lp (.loop r)))
theorem z172_s15_i (lp : Nat) (r : Loop) (R : J1) (l : List Value) (H : Heap) (hl : l.length = 13) (h : z172_s15 (gd l 2) (gd l 5) lp r R H) : wpE tab P z172_pi z172_c9 (z172_q17 lp r R) l H := bl rfl <| rj hl (z172_g16_e _ (gd l) _) h fun l H hl h => bN <| h
noncomputable def z172_g18 (S : J2) (x2 x7 : Value) (H : Heap) : Prop :=
  newE 93 #[(.int .i64 0), (.int .i64 0)] H fun v5 H1 =>
  bnd (stE 2 v5 x7 H1) fun H2 =>
  S x2 v5 H2
theorem z172_g18_e (S : J2) (x H) : WE z172_pi z172_c8 13 (fun l => S (gd l 2) (gd l 5)) x H = z172_g18 S (x 2) (x 7) H := by kernel_rfl
def z172_r (lp : Nat) (r : Loop) (R : Value → Heap → Prop) (x2 x7 : Value) (H : Heap) : Prop :=
  z172_g18 (fun x2 x5 H => (H.arr[lp]? = some (.loop r) ∧
  z172_s15 x2 x5 lp r R (setO H lp (.loop (busy r))))) x2 x7 H
theorem z172_ri (lp : Nat) (r : Loop) (R : Value → Heap → Prop) (l : List Value) (H : Heap) (hl : l.length = 13) (h : z172_r lp r R (l.getD 2 undef) (l.getD 7 undef) H) : wpE tab P z172_pi z172_c8 (nQ fun l H => H.arr[lp]? = some (.loop r) ∧ wpE tab P z172_pi z172_c9 (nQ fun _ H2 => H2.arr[lp]? = some (.loop (busy r)) ∧ R (.bool true) (setO H2 lp (.loop r))) l (setO H lp (.loop (busy r)))) l H := by
  refine regJ hl (z172_g18_e _ (gd l) _) h ?_; clear h hl; intro l H hl h
  exact ⟨h.1, z172_s15_i lp r R l _ hl h.2⟩
theorem z172_y (fn : FuncId) (d : Nat) (l : List Value) (hl : l.length = 13) (lp : Nat) (v7 : Value) (K : Heap) (R : Value → Heap → Prop) (hK : K.arr[lp]? = some (.loop (z172_L fn l d))) (h : z172_r lp (z172_L fn l d) R (l.getD 2 undef) v7 K) : EvY P lp #[v7] K R := by
  refine EvY_intro (t := (l.set 7 v7)) tab_ok mixed hK rfl rfl rfl (by simp [z172_L, mkL]) ⟨okCode_of _ (show okB z172_pi z172_c8 = true by kernel_rfl), okCode_of _ (show okB z172_pi z172_c9 = true by kernel_rfl)⟩ ?_
  have e2 : (l.set 7 v7).getD 2 undef = l.getD 2 undef := by simp [hl]
  have e7 : (l.set 7 v7).getD 7 undef = v7 := by simp [hl]
  exact z172_ri lp (z172_L fn l d) R (l.set 7 v7) K (by simp [hl]) (by rw [e2, e7]; exact h)
noncomputable def z172_g19 (S : J1) (x2 : Value) (H : Heap) : Prop :=
  bnd (ldE false 1 x2 H) fun v12 =>
  S v12 H
theorem z172_g19_e (S : J1) (x H) : WE z172_pi z172_c12 13 (fun l => S (gd l 4)) x H = z172_g19 S (x 2) H := by kernel_rfl
def slices_AppendSeq_Range (x0 x1 : Value) (R : Value → Heap → Prop) (H : Heap) : Prop :=
  z172_g13 (fun x1 x2 H => z172_g14 (fun x2 x6 H => (∀ (fn : FuncId) (l : List Value), l.length = 13 → l.getD 2 undef = x2 → callL P x6 [.func (.yield (H.size + 1)) #[] #[]] (pushO (pushO H (.deferred (some []))) (.loop (z172_L fn l H.size))) fun _ H2 =>
  H2.arr[H.size + 1]? = some (.loop (z172_L fn l H.size)) ∧
  (fun (m : Nat) (H : Heap) =>
  z172_g19 (fun x4 H => (H.arr[m]? = some (.deferred (some [])) ∧ (fun H : Heap =>
  R x4 H) (setO H m (.deferred none)))) x2 H) H.size (setO H2 (H.size + 1) (.loop (done (z172_L fn l H.size)))))) x1 x2 H) x0 x1 H
theorem z172_ev (x0 x1 : Value) (R : J1) (H : Heap) (h : slices_AppendSeq_Range x0 x1 R H) : EvF P N.slices_AppendSeq_Range #[x0, x1] H R := .inl (EvR_intro (args := [x0, x1]) (k := 11) (rs := z172_rs) tab_ok mixed Tryz.func172 (show Tryz.f172.body = some z172_c1 by kernel_rfl) Tryz.call172 Tryz.ntmps172 (by kernel_rfl) (okCodeR_of _ (show okBR z172_pi z172_c1 = true by kernel_rfl)) (fr_eq _ _) (fjR (n := 13) rfl (fun l hl (h : slices_AppendSeq_Range (gd l 0) (gd l 1) R H) => sqR rfl <| wpR_of _ hl <| rj hl (z172_g13_e _ (gd l) _) h fun l H hl h => tN <| sqR rfl <| sqR rfl <| wpR_of _ hl <| rj hl (z172_g14_e _ (gd l) _) h fun l H hl h => tN <| blR rfl <| (by
    refine rangeR (c := z172_c7) rfl ?_
    intro fn
    have h := h fn l hl rfl
    refine callL_mono (fun _ H2 h => ?_) h
    refine ⟨h.1, ?_⟩
    have h := h.2
    exact bN <| tN <| sr rfl hl (z172_g19_e _ (gd l) _) h fun l H hl h => rt rfl h)) h))
/- 173: (*sounder/span.Set).falling$1 -/
def z173_rs : List ResultVar := []
noncomputable def z173_c2 := sc Tryz.f173 [0]
noncomputable def z173_c7 := sc Tryz.f173 [1,0,0,0,0]
noncomputable def z173_c9 : Code := .exit 0
noncomputable def z173_c8 : Code := .cond (.tmp 22) Code.skip z173_c9
noncomputable def z173_c6 : Code := .seq z173_c7 z173_c8
noncomputable def z173_c11 : Code := .block 1 Code.skip
noncomputable def z173_c12 := sc Tryz.f173 [1,0,0,1,1]
noncomputable def z173_c10 : Code := .seq z173_c11 z173_c12
noncomputable def z173_c5 : Code := .seq z173_c6 z173_c10
noncomputable def z173_c4 : Code := .loop z173_c5
noncomputable def z173_c3 : Code := .block 0 z173_c4
noncomputable def z173_c1 : Code := .seq z173_c2 z173_c3
def z173_pi (_ : Nat) : Pl := .nil
noncomputable def z173_g13 (S : J3) (x0 x1 : Value) (H : Heap) : Prop :=
  bnd (ldE false 1 x1 H) fun v4 =>
  bnd (nilV v4) fun v5 =>
  bnd (faV 1 v5) fun v6 =>
  bnd (ldE false 1 v6 H) fun v7 =>
  bnd (lenV v7) fun v8 =>
  bnd (binV .int .sub v8 (.int .i64 1)) fun v9 =>
  S x0 x1 v9 H
theorem z173_g13_e (S : J3) (x H) : WE z173_pi z173_c2 25 (fun l => S (gd l 0) (gd l 1) (gd l 3)) x H = z173_g13 S (x 0) (x 1) H := by kernel_rfl
noncomputable def z173_g15 (S : J4) (x0 x1 x3 : Value) (H : Heap) : Prop :=
  bnd (binV .int .geq x3 (.int .i64 0)) fun v11 =>
  brV v11
  (bnd (ldE false 1 x1 H) fun v14 =>
  bnd (nilV v14) fun v15 =>
  bnd (faV 1 v15) fun v16 =>
  bnd (ldE false 1 v16 H) fun v17 =>
  bnd (ixSV 2 v17 x3) fun v19 =>
  bnd (ldE true 2 v19 H) fun v20 =>
  callV P x0 [v20] H fun v21 H1 =>
  S x0 x1 x3 v21 H1)
  (S x0 x1 x3 (.bool false) H)
theorem z173_g15_e (S : J4) (x H) : WE z173_pi z173_c7 25 (fun l => S (gd l 0) (gd l 1) (gd l 3) (gd l 22)) x H = z173_g15 S (x 0) (x 1) (x 3) H := by kernel_rfl
noncomputable def z173_g16 (S : J3) (x0 x1 x3 : Value) (H : Heap) : Prop :=
  bnd (binV .int .sub x3 (.int .i64 1)) fun v24 =>
  S x0 x1 v24 H
theorem z173_g16_e (S : J3) (x H) : WE z173_pi z173_c12 25 (fun l => S (gd l 0) (gd l 1) (gd l 3)) x H = z173_g16 S (x 0) (x 1) (x 3) H := by kernel_rfl
noncomputable def z173_s14 (x0 x1 x3 : Value) (K1 : J3) (R : J1) (H : Heap) : Prop :=
  z173_g15 (fun x0 x1 x3 x22 H => brV x22
  (z173_g16 (fun x0 x1 x3 H => K1 x0 x1 x3 H) x0 x1 x3 H)
  (R (.tuple #[]) H)) x0 x1 x3 H
noncomputable def z173_q17 (R : J1) : JQ := (retQ tab z173_rs R)
noncomputable def z173_q18 (R : J1) : JQ := (blkE 0 (z173_q17 R))
noncomputable def z173_q19 (K1 : J3) (R : J1) : JQ := (thenE (fun l H => K1 (gd l 0) (gd l 1) (gd l 3) H) (z173_q18 R))
theorem z173_s14_i (K1 : J3) (R : J1) (l : List Value) (H : Heap) (hl : l.length = 25) (h : z173_s14 (gd l 0) (gd l 1) (gd l 3) K1 R H) : wpE tab P z173_pi z173_c5 (z173_q19 K1 R) l H := sq rfl <| sr rfl hl (z173_g15_e _ (gd l) _) h fun l H hl h => cd rfl h (fun h => kN rfl <| sq rfl <| bl rfl <| sk rfl <| bN <| tN <| rj hl (z173_g16_e _ (gd l) _) h fun l H hl h => tN <| h) fun h => ex rfl <| tX <| tX <| bX <| h
noncomputable def z173_l20 (x0 x1 x3 : Value) (R : J1) (H : Heap) : Prop :=
  ∃ (I : J1) (μ : M1), I x3 H ∧ ∀ (y3 : Value) (H : Heap), I y3 H → z173_s14 x0 x1 y3 (fun z0 z1 z3 H' => z0 = x0 ∧ z1 = x1 ∧ (I z3 H' ∧ μ z3 H' < μ y3 H)) R H
def span_Set_falling_1 (x0 x1 : Value) (R : Value → Heap → Prop) (H : Heap) : Prop :=
  z173_g13 (fun x0 x1 x3 H => z173_l20 x0 x1 x3 R H) x0 x1 H
theorem z173_ev0 (x0 x1 : Value) (R : J1) (H : Heap) (h : span_Set_falling_1 x0 x1 R H) : EvL P N.span_Set_falling_1 #[x0, x1] H R := EvF_intro (args := [x0, x1]) (k := 23) (rs := z173_rs) tab_ok mixed Tryz.func173 (show Tryz.f173.body = some z173_c1 by kernel_rfl) Tryz.call173 Tryz.ntmps173 (by kernel_rfl) (okCode_of _ (show okB z173_pi z173_c1 = true by kernel_rfl)) (fr_eq _ _) (fj (n := 25) rfl (fun l hl (h : span_Set_falling_1 (gd l 0) (gd l 1) R H) => sr rfl hl (z173_g13_e _ (gd l) _) h fun l H hl h => bl rfl <| (by
    obtain ⟨I, μ, h0, hr⟩ := h
    refine loopI (c := z173_c4) rfl (fun l' H' => gd l' 0 = gd l 0 ∧ gd l' 1 = gd l 1 ∧ I (gd l' 3) H') (fun l' H' => μ (gd l' 3) H') hl ⟨rfl, rfl, h0⟩ ?_
    rintro l1 H1 hl1 ⟨e0, e1, hI⟩
    have hb := hr (gd l1 3) H1 hI
    rw [← e0, ← e1] at hb
    refine wpE_mono _ l1 H1 hl1 ?_ (z173_s14_i _ R l1 H1 hl1 hb)
    intro e l2 H2 hl2 hq
    cases e with
    | normal => exact fun _ => (by obtain ⟨d0, d1, g1, g2⟩ := hq; exact ⟨⟨d0.trans e0, d1.trans e1, g1⟩, g2⟩)
    | _ => exact hq)) h)
theorem z173_ev (x0 x1 : Value) (R : J1) (H : Heap) (h : span_Set_falling_1 x0 x1 R H) : EvF P N.span_Set_falling_1 #[x0, x1] H R := .inl (z173_ev0 x0 x1 R H h)
/- 174: slices.rotateLeft[sounder/api.Range] -/
def z174_rs : List ResultVar := []
noncomputable def z174_c2 := sc Tryz.f174 [0]
noncomputable def z174_c4 := sc Tryz.f174 [1,0]
noncomputable def z174_c5 := sc Tryz.f174 [1,1]
noncomputable def z174_c3 : Code := .seq z174_c4 z174_c5
noncomputable def z174_c1 : Code := .seq z174_c2 z174_c3
def z174_pi (_ : Nat) : Pl := .nil
noncomputable def z174_g6 (S : J2) (x0 x1 : Value) (H : Heap) : Prop :=
  bnd (sliceV 2 x0 none (some x1)) fun v6 =>
  EvF P N.slices_Reverse_Range #[v6] H fun _ H1 =>
  S x0 x1 H1
theorem z174_g6_e (S : J2) (x H) : WE z174_pi z174_c2 14 (fun l => S (gd l 0) (gd l 1)) x H = z174_g6 S (x 0) (x 1) H := by kernel_rfl
noncomputable def z174_g7 (S : J1) (x0 x1 : Value) (H : Heap) : Prop :=
  bnd (sliceV 2 x0 (some x1) none) fun v10 =>
  EvF P N.slices_Reverse_Range #[v10] H fun _ H1 =>
  S x0 H1
theorem z174_g7_e (S : J1) (x H) : WE z174_pi z174_c4 14 (fun l => S (gd l 0)) x H = z174_g7 S (x 0) (x 1) H := by kernel_rfl
noncomputable def z174_g8 (S : J0) (x0 : Value) (H : Heap) : Prop :=
  EvF P N.slices_Reverse_Range #[x0] H fun _ H1 =>
  S H1
theorem z174_g8_e (S : J0) (x H) : WE z174_pi z174_c5 14 (fun _ => S ) x H = z174_g8 S (x 0) H := by kernel_rfl
def slices_rotateLeft_Range (x0 x1 : Value) (R : Value → Heap → Prop) (H : Heap) : Prop :=
  z174_g6 (fun x0 x1 H => z174_g7 (fun x0 H => z174_g8 (fun H => R (.tuple #[]) H) x0 H) x0 x1 H) x0 x1 H
theorem z174_ev (x0 x1 : Value) (R : J1) (H : Heap) (h : slices_rotateLeft_Range x0 x1 R H) : EvF P N.slices_rotateLeft_Range #[x0, x1] H R := .inl (EvF_intro (args := [x0, x1]) (k := 12) (rs := z174_rs) tab_ok mixed Tryz.func174 (show Tryz.f174.body = some z174_c1 by kernel_rfl) Tryz.call174 Tryz.ntmps174 (by kernel_rfl) (okCode_of _ (show okB z174_pi z174_c1 = true by kernel_rfl)) (fr_eq _ _) (fj (n := 14) rfl (fun l hl (h : slices_rotateLeft_Range (gd l 0) (gd l 1) R H) => sr rfl hl (z174_g6_e _ (gd l) _) h fun l H hl h => sr rfl hl (z174_g7_e _ (gd l) _) h fun l H hl h => rj hl (z174_g8_e _ (gd l) _) h fun l H hl h => h) h))
/- 184: (*sounder/sent.Log).find$1 -/
def z184_rs : List ResultVar := [.tmp 4]
noncomputable def z184_c2 := sc Tryz.f184 [0]
noncomputable def z184_c4 := sc Tryz.f184 [1,0]
noncomputable def z184_c3 : Code := .seq z184_c4 Code.ret
noncomputable def z184_c1 : Code := .seq z184_c2 z184_c3
def z184_pi (i : Nat) : Pl := match i with
  | 1 => (ones [0, 1, 7, 2, 3, 4, 5, 6, 8, 9] .nil)
  | _ => .nil
noncomputable def z184_g5 (S : J3) (x0 x1 x2 : Value) (H : Heap) : Prop :=
  S x0 x1 x2 H
theorem z184_g5_e (S : J3) (x H) : WE z184_pi z184_c2 14 (fun l => S (gd l 0) (gd l 1) (gd l 2)) x H = z184_g5 S (x 0) (x 1) (x 2) H := by kernel_rfl
noncomputable def z184_g6 (S : J1) (x0 x1 x2 : Value) (H : Heap) : Prop :=
  bnd (ldE false 1 x1 H) fun v5 =>
  bnd (ldE false 1 x2 H) fun v12 =>
  EvF P N.sent_Log_at #[v5, x0] H fun v7 H1 =>
  ((bnd (ldE false 1 x2 H1) fun v' => v' = v12) ∧
  bnd (nilV v7) fun v8 =>
  bnd (faV 0 v8) fun v9 =>
  bnd (faV 0 v9) fun v10 =>
  bnd (ldE false 1 v10 H1) fun v11 =>
  bnd (binV .int .geq v11 v12) fun v13 =>
  S v13 H1)
theorem z184_g6_e (S : J1) (x H) : WE z184_pi z184_c4 14 (fun l => S (gd l 4)) x H = z184_g6 S (x 0) (x 1) (x 2) H := by kernel_rfl
def sent_Log_find_1 (x0 x1 x2 : Value) (R : Value → Heap → Prop) (H : Heap) : Prop :=
  z184_g5 (fun x0 x1 x2 H => z184_g6 (fun x4 H => R x4 H) x0 x1 x2 H) x0 x1 x2 H
theorem z184_ev (x0 x1 x2 : Value) (R : J1) (H : Heap) (h : sent_Log_find_1 x0 x1 x2 R H) : EvF P N.sent_Log_find_1 #[x0, x1, x2] H R := .inl (EvF_intro (args := [x0, x1, x2]) (k := 11) (rs := z184_rs) tab_ok mixed Tryz.func184 (show Tryz.f184.body = some z184_c1 by kernel_rfl) Tryz.call184 Tryz.ntmps184 (by kernel_rfl) (okCode_of _ (show okB z184_pi z184_c1 = true by kernel_rfl)) (fr_eq _ _) (fj (n := 14) rfl (fun l hl (h : sent_Log_find_1 (gd l 0) (gd l 1) (gd l 2) R H) => sr rfl hl (z184_g5_e _ (gd l) _) h fun l H hl h => sr rfl hl (z184_g6_e _ (gd l) _) h fun l H hl h => rt rfl h) h))
/- 185: slices.Reverse[[]sounder/api.Range,sounder/api.Range] -/
def z185_rs : List ResultVar := []
noncomputable def z185_c2 := sc Tryz.f185 [0]
noncomputable def z185_c7 := sc Tryz.f185 [1,0,0,0,0]
noncomputable def z185_c9 : Code := .exit 0
noncomputable def z185_c8 : Code := .cond (.tmp 9) Code.skip z185_c9
noncomputable def z185_c6 : Code := .seq z185_c7 z185_c8
noncomputable def z185_c12 := sc Tryz.f185 [1,0,0,1,0,0]
noncomputable def z185_c11 : Code := .block 1 z185_c12
noncomputable def z185_c13 := sc Tryz.f185 [1,0,0,1,1]
noncomputable def z185_c10 : Code := .seq z185_c11 z185_c13
noncomputable def z185_c5 : Code := .seq z185_c6 z185_c10
noncomputable def z185_c4 : Code := .loop z185_c5
noncomputable def z185_c3 : Code := .block 0 z185_c4
noncomputable def z185_c1 : Code := .seq z185_c2 z185_c3
def z185_pi (i : Nat) : Pl := match i with
  | 3 => (ones [0, 1, 2, 3, 4, 5, 6, 7, 8, 9, 10, 11, 12, 13, 14, 15] .nil)
  | _ => .nil
noncomputable def z185_g14 (S : J3) (x0 : Value) (H : Heap) : Prop :=
  bnd (lenV x0) fun v5 =>
  bnd (binV .int .sub v5 (.int .i64 1)) fun v6 =>
  S x0 (.int .i64 0) v6 H
theorem z185_g14_e (S : J3) (x H) : WE z185_pi z185_c2 28 (fun l => S (gd l 0) (gd l 2) (gd l 3)) x H = z185_g14 S (x 0) H := by kernel_rfl
noncomputable def z185_g16 (S : J4) (x0 x2 x3 : Value) (H : Heap) : Prop :=
  bnd (binV .int .lss x2 x3) fun v9 =>
  S x0 x2 x3 v9 H
theorem z185_g16_e (S : J4) (x H) : WE z185_pi z185_c7 28 (fun l => S (gd l 0) (gd l 2) (gd l 3) (gd l 9)) x H = z185_g16 S (x 0) (x 2) (x 3) H := by kernel_rfl
noncomputable def z185_g17 (S : J3) (x0 x2 x3 : Value) (H : Heap) : Prop :=
  bnd (ixSV 2 x0 x3) fun v20 =>
  bnd (ldE true 2 v20 H) fun v21 =>
  bnd (ixSV 2 x0 x2) fun v24 =>
  bnd (ldE true 2 v24 H) fun v25 =>
  bnd (ixSV 2 x0 x2) fun v26 =>
  bnd (stE 2 v26 v21 H) fun H1 =>
  bnd (ixSV 2 x0 x3) fun v27 =>
  bnd (stE 2 v27 v25 H1) fun H2 =>
  S x0 x2 x3 H2
theorem z185_g17_e (S : J3) (x H) : WE z185_pi z185_c12 28 (fun l => S (gd l 0) (gd l 2) (gd l 3)) x H = z185_g17 S (x 0) (x 2) (x 3) H := by kernel_rfl
noncomputable def z185_g18 (S : J3) (x0 x2 x3 : Value) (H : Heap) : Prop :=
  bnd (binV .int .add x2 (.int .i64 1)) fun v11 =>
  bnd (binV .int .sub x3 (.int .i64 1)) fun v13 =>
  S x0 v11 v13 H
theorem z185_g18_e (S : J3) (x H) : WE z185_pi z185_c13 28 (fun l => S (gd l 0) (gd l 2) (gd l 3)) x H = z185_g18 S (x 0) (x 2) (x 3) H := by kernel_rfl
noncomputable def z185_s15 (x0 x2 x3 : Value) (K1 : J3) (R : J1) (H : Heap) : Prop :=
  z185_g16 (fun x0 x2 x3 x9 H => brV x9
  (z185_g17 (fun x0 x2 x3 H => z185_g18 (fun x0 x2 x3 H => K1 x0 x2 x3 H) x0 x2 x3 H) x0 x2 x3 H)
  (R (.tuple #[]) H)) x0 x2 x3 H
noncomputable def z185_q19 (R : J1) : JQ := (retQ tab z185_rs R)
noncomputable def z185_q20 (R : J1) : JQ := (blkE 0 (z185_q19 R))
noncomputable def z185_q21 (K1 : J3) (R : J1) : JQ := (thenE (fun l H => K1 (gd l 0) (gd l 2) (gd l 3) H) (z185_q20 R))
theorem z185_s15_i (K1 : J3) (R : J1) (l : List Value) (H : Heap) (hl : l.length = 28) (h : z185_s15 (gd l 0) (gd l 2) (gd l 3) K1 R H) : wpE tab P z185_pi z185_c5 (z185_q21 K1 R) l H := sq rfl <| sr rfl hl (z185_g16_e _ (gd l) _) h fun l H hl h => cd rfl h (fun h => kN rfl <| sq rfl <| bl rfl <| rj hl (z185_g17_e _ (gd l) _) h fun l H hl h => bN <| tN <| rj hl (z185_g18_e _ (gd l) _) h fun l H hl h => tN <| h) fun h => ex rfl <| tX <| tX <| bX <| h
noncomputable def z185_l22 (x0 x2 x3 : Value) (R : J1) (H : Heap) : Prop :=
  ∃ (I : J2) (μ : M2), I x2 x3 H ∧ ∀ (y2 : Value) (y3 : Value) (H : Heap), I y2 y3 H → z185_s15 x0 y2 y3 (fun z0 z2 z3 H' => z0 = x0 ∧ (I z2 z3 H' ∧ μ z2 z3 H' < μ y2 y3 H)) R H
def slices_Reverse_Range (x0 : Value) (R : Value → Heap → Prop) (H : Heap) : Prop :=
  z185_g14 (fun x0 x2 x3 H => z185_l22 x0 x2 x3 R H) x0 H
theorem z185_ev (x0 : Value) (R : J1) (H : Heap) (h : slices_Reverse_Range x0 R H) : EvF P N.slices_Reverse_Range #[x0] H R := .inl (EvF_intro (args := [x0]) (k := 27) (rs := z185_rs) tab_ok mixed Tryz.func185 (show Tryz.f185.body = some z185_c1 by kernel_rfl) Tryz.call185 Tryz.ntmps185 (by kernel_rfl) (okCode_of _ (show okB z185_pi z185_c1 = true by kernel_rfl)) (fr_eq _ _) (fj (n := 28) rfl (fun l hl (h : slices_Reverse_Range (gd l 0) R H) => sr rfl hl (z185_g14_e _ (gd l) _) h fun l H hl h => bl rfl <| (by
    obtain ⟨I, μ, h0, hr⟩ := h
    refine loopI (c := z185_c4) rfl (fun l' H' => gd l' 0 = gd l 0 ∧ I (gd l' 2) (gd l' 3) H') (fun l' H' => μ (gd l' 2) (gd l' 3) H') hl ⟨rfl, h0⟩ ?_
    rintro l1 H1 hl1 ⟨e0, hI⟩
    have hb := hr (gd l1 2) (gd l1 3) H1 hI
    rw [← e0] at hb
    refine wpE_mono _ l1 H1 hl1 ?_ (z185_s15_i _ R l1 H1 hl1 hb)
    intro e l2 H2 hl2 hq
    cases e with
    | normal => exact fun _ => (by obtain ⟨d0, g1, g2⟩ := hq; exact ⟨⟨d0.trans e0, g1⟩, g2⟩)
    | _ => exact hq)) h))
end Go.Hc
