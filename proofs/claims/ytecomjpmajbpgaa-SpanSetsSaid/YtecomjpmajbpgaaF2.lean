/- Functions, printed by gen.py. -/
import Derived.Test.YtecomjpmajbpgaaT
set_option linter.unusedSimpArgs false
set_option linter.unusedVariables false
set_option maxRecDepth 100000
namespace Go.Hc
open Go Go.Proofs
/- 16: sounder/sounderlaw04.works -/
def sounderlaw04_works_rs : List ResultVar := [.tmp 0]
noncomputable def sounderlaw04_works_c2 : Code := subC (bodyC Try.f16) [0]
noncomputable def sounderlaw04_works_c4 : Code := subC (bodyC Try.f16) [1, 0]
noncomputable def sounderlaw04_works_c7 : Code := subC (bodyC Try.f16) [1, 1, 0, 0]
noncomputable def sounderlaw04_works_c10 : Code := subC (bodyC Try.f16) [1, 1, 0, 1, 0, 0]
noncomputable def sounderlaw04_works_c9 : Code := .seq sounderlaw04_works_c10 Code.ret
noncomputable def sounderlaw04_works_c8 : Code := .cond (.tmp 35) sounderlaw04_works_c9 Code.skip
noncomputable def sounderlaw04_works_c6 : Code := .seq sounderlaw04_works_c7 sounderlaw04_works_c8
noncomputable def sounderlaw04_works_c13 : Code := subC (bodyC Try.f16) [1, 1, 1, 0, 0]
noncomputable def sounderlaw04_works_c16 : Code := subC (bodyC Try.f16) [1, 1, 1, 0, 1, 0, 0]
noncomputable def sounderlaw04_works_c15 : Code := .seq sounderlaw04_works_c16 Code.ret
noncomputable def sounderlaw04_works_c14 : Code := .cond (.tmp 65) sounderlaw04_works_c15 Code.skip
noncomputable def sounderlaw04_works_c12 : Code := .seq sounderlaw04_works_c13 sounderlaw04_works_c14
noncomputable def sounderlaw04_works_c18 : Code := subC (bodyC Try.f16) [1, 1, 1, 1, 0]
noncomputable def sounderlaw04_works_c17 : Code := .seq sounderlaw04_works_c18 Code.ret
noncomputable def sounderlaw04_works_c11 : Code := .seq sounderlaw04_works_c12 sounderlaw04_works_c17
noncomputable def sounderlaw04_works_c5 : Code := .seq sounderlaw04_works_c6 sounderlaw04_works_c11
noncomputable def sounderlaw04_works_c3 : Code := .seq sounderlaw04_works_c4 sounderlaw04_works_c5
noncomputable def sounderlaw04_works_c1 : Code := .seq sounderlaw04_works_c2 sounderlaw04_works_c3
def sounderlaw04_works_pi (_ : Nat) : Pl := .nil
def sounderlaw04_works_g19 (S : Heap → Prop) (H : Heap) : Prop :=
  S H
theorem sounderlaw04_works_g19_e (S : Heap → Prop) (x : Nat → Value) (H : Heap) : wpE tab P sounderlaw04_works_pi sounderlaw04_works_c2 (nQ fun _ H => S  H) ((List.range 100).map x) H = sounderlaw04_works_g19 S  H := by kernel_rfl
def sounderlaw04_works_g20 (S : Value → Value → Heap → Prop) (H : Heap) : Prop :=
  EvF P N.span_New #[(.int .i64 2)] H fun v4 H1 =>
  bnd (exV 0 v4) fun v5 =>
  bnd (exV 1 v4) fun v6 =>
  S v5 v6 H1
theorem sounderlaw04_works_g20_e (S : Value → Value → Heap → Prop) (x : Nat → Value) (H : Heap) : wpE tab P sounderlaw04_works_pi sounderlaw04_works_c4 (nQ fun l H => S (l.getD 1 undef) (l.getD 2 undef) H) ((List.range 100).map x) H = sounderlaw04_works_g20 S  H := by kernel_rfl
def sounderlaw04_works_g21 (S : Value → Value → Heap → Prop) (x1 x2 : Value) (H : Heap) : Prop :=
  bnd (binV .int .neq x2 (.int .i64 0)) fun v8 =>
  brV v8
  (S x1 (.bool true) H)
  (bnd (binV .ptr .eql x1 (.pointer none)) fun v11 =>
  brV v11
  (S x1 (.bool true) H)
  (EvF P N.span_Set_Add #[x1, (.int .i64 5), (.int .i64 7)] H fun v15 H1 =>
  bnd (binV .int .neq v15 (.int .i64 0)) fun v16 =>
  brV v16
  (S x1 (.bool true) H1)
  (EvF P N.span_Set_Add #[x1, (.int .i64 1), (.int .i64 2)] H1 fun v20 H2 =>
  bnd (binV .int .neq v20 (.int .i64 0)) fun v21 =>
  brV v21
  (S x1 (.bool true) H2)
  (EvF P N.span_Set_Add #[x1, (.int .i64 9), (.int .i64 9)] H2 fun v25 H3 =>
  bnd (binV .int .neq v25 (.int .i64 5)) fun v26 =>
  brV v26
  (S x1 (.bool true) H3)
  (bnd (buildV #[(.int .i64 0), (.int .i64 0)] (places [(0, 1), (1, 1)]) [(0, (.int .i64 5)), (1, (.int .i64 7))]) fun v30 =>
  bnd (buildV #[(.int .i64 0), (.int .i64 0)] (places [(0, 1), (1, 1)]) [(0, (.int .i64 1)), (1, (.int .i64 2))]) fun v31 =>
  bslE 48 #[(.int .i64 0), (.int .i64 0)] 2 2 [(0, v30), (1, v31)] H3 fun v32 H4 =>
  EvF P N.sounderlaw04_holds #[x1, v32] H4 fun v33 H5 =>
  bnd (unV .not v33) fun v34 =>
  S x1 v34 H5)))))
theorem sounderlaw04_works_g21_e (S : Value → Value → Heap → Prop) (x : Nat → Value) (H : Heap) : wpE tab P sounderlaw04_works_pi sounderlaw04_works_c7 (nQ fun l H => S (l.getD 1 undef) (l.getD 35 undef) H) ((List.range 100).map x) H = sounderlaw04_works_g21 S (x 1) (x 2) H := by kernel_rfl
def sounderlaw04_works_g22 (S : Value → Heap → Prop) (H : Heap) : Prop :=
  S (.bool false) H
theorem sounderlaw04_works_g22_e (S : Value → Heap → Prop) (x : Nat → Value) (H : Heap) : wpE tab P sounderlaw04_works_pi sounderlaw04_works_c10 (nQ fun l H => S (l.getD 0 undef) H) ((List.range 100).map x) H = sounderlaw04_works_g22 S  H := by kernel_rfl
def sounderlaw04_works_g23 (S : Value → Value → Heap → Prop) (x1 : Value) (H : Heap) : Prop :=
  EvF P N.span_Set_Add #[x1, (.int .i64 3), (.int .i64 4)] H fun v37 H1 =>
  bnd (binV .int .neq v37 (.int .i64 0)) fun v38 =>
  brV v38
  (S x1 (.bool true) H1)
  (bnd (buildV #[(.int .i64 0), (.int .i64 0)] (places [(0, 1), (1, 1)]) [(0, (.int .i64 1)), (1, (.int .i64 7))]) fun v41 =>
  bslE 48 #[(.int .i64 0), (.int .i64 0)] 2 1 [(0, v41)] H1 fun v42 H2 =>
  EvF P N.sounderlaw04_holds #[x1, v42] H2 fun v43 H3 =>
  bnd (unV .not v43) fun v44 =>
  brV v44
  (S x1 (.bool true) H3)
  (EvF P N.span_Set_Count #[x1] H3 fun v48 H4 =>
  bnd (binV .int .neq v48 (.int .i64 7)) fun v49 =>
  brV v49
  (S x1 (.bool true) H4)
  (EvF P N.span_Set_Next #[x1, (.int .i64 1)] H4 fun v53 H5 =>
  bnd (binV .int .neq v53 (.int .i64 8)) fun v54 =>
  brV v54
  (S x1 (.bool true) H5)
  (EvF P N.span_Set_Next #[x1, (.int .i64 9)] H5 fun v58 H6 =>
  bnd (binV .int .neq v58 (.int .i64 9)) fun v59 =>
  brV v59
  (S x1 (.bool true) H6)
  (EvF P N.span_Set_Add #[x1, (.int .i64 2), (.int .i64 1)] H6 fun v63 H7 =>
  bnd (binV .int .neq v63 (.int .i64 2)) fun v64 =>
  S x1 v64 H7)))))
theorem sounderlaw04_works_g23_e (S : Value → Value → Heap → Prop) (x : Nat → Value) (H : Heap) : wpE tab P sounderlaw04_works_pi sounderlaw04_works_c13 (nQ fun l H => S (l.getD 1 undef) (l.getD 65 undef) H) ((List.range 100).map x) H = sounderlaw04_works_g23 S (x 1) H := by kernel_rfl
def sounderlaw04_works_g24 (S : Value → Heap → Prop) (H : Heap) : Prop :=
  S (.bool false) H
theorem sounderlaw04_works_g24_e (S : Value → Heap → Prop) (x : Nat → Value) (H : Heap) : wpE tab P sounderlaw04_works_pi sounderlaw04_works_c16 (nQ fun l H => S (l.getD 0 undef) H) ((List.range 100).map x) H = sounderlaw04_works_g24 S  H := by kernel_rfl
def sounderlaw04_works_g25 (S : Value → Heap → Prop) (x1 : Value) (H : Heap) : Prop :=
  EvF P N.span_Set_Cut #[x1, (.int .i64 3)] H fun v67 H1 =>
  bnd (binV .int .eql v67 (.int .i64 0)) fun v68 =>
  brV v68
  (bnd (buildV #[(.int .i64 0), (.int .i64 0)] (places [(0, 1), (1, 1)]) [(0, (.int .i64 3)), (1, (.int .i64 7))]) fun v71 =>
  bslE 48 #[(.int .i64 0), (.int .i64 0)] 2 1 [(0, v71)] H1 fun v72 H2 =>
  EvF P N.sounderlaw04_holds #[x1, v72] H2 fun v73 H3 =>
  brV v73
  (EvF P N.span_Set_Min #[x1] H3 fun v77 H4 =>
  bnd (binV .int .eql v77 (.int .i64 3)) fun v78 =>
  brV v78
  (EvF P N.span_Set_Max #[x1] H4 fun v82 H5 =>
  bnd (binV .int .eql v82 (.int .i64 7)) fun v83 =>
  brV v83
  (EvF P N.span_Set_Cut #[x1, (.int .i64 8)] H5 fun v87 H6 =>
  bnd (binV .int .eql v87 (.int .i64 0)) fun v88 =>
  brV v88
  (EvF P N.span_Set_Max #[x1] H6 fun v92 H7 =>
  bnd (binV .int .eql v92 (.int .i64 (-1))) fun v93 =>
  brV v93
  (EvF P N.span_Set_Len #[x1] H7 fun v97 H8 =>
  bnd (binV .int .eql v97 (.int .i64 0)) fun v98 =>
  S v98 H8)
  (S (.bool false) H7))
  (S (.bool false) H6))
  (S (.bool false) H5))
  (S (.bool false) H4))
  (S (.bool false) H3))
  (S (.bool false) H1)
theorem sounderlaw04_works_g25_e (S : Value → Heap → Prop) (x : Nat → Value) (H : Heap) : wpE tab P sounderlaw04_works_pi sounderlaw04_works_c18 (nQ fun l H => S (l.getD 0 undef) H) ((List.range 100).map x) H = sounderlaw04_works_g25 S (x 1) H := by kernel_rfl
def sounderlaw04_works (R : Value → Heap → Prop) (H : Heap) : Prop :=
  sounderlaw04_works_g19 (fun H => sounderlaw04_works_g20 (fun x1 x2 H => sounderlaw04_works_g21 (fun x1 x35 H => brV x35
  (sounderlaw04_works_g22 (fun x0 H => R x0 H) H)
  (sounderlaw04_works_g23 (fun x1 x65 H => brV x65
  (sounderlaw04_works_g24 (fun x0 H => R x0 H) H)
  (sounderlaw04_works_g25 (fun x0 H => R x0 H) x1 H)) x1 H)) x1 x2 H) H) H
theorem sounderlaw04_works_i (R : Value → Heap → Prop) (H : Heap) (h : sounderlaw04_works  R H) : wpE tab P sounderlaw04_works_pi sounderlaw04_works_c1 (retQ tab sounderlaw04_works_rs R) [undef, undef, undef, undef, undef, undef, undef, undef, undef, undef, undef, undef, undef, undef, undef, undef, undef, undef, undef, undef, undef, undef, undef, undef, undef, undef, undef, undef, undef, undef, undef, undef, undef, undef, undef, undef, undef, undef, undef, undef, undef, undef, undef, undef, undef, undef, undef, undef, undef, undef, undef, undef, undef, undef, undef, undef, undef, undef, undef, undef, undef, undef, undef, undef, undef, undef, undef, undef, undef, undef, undef, undef, undef, undef, undef, undef, undef, undef, undef, undef, undef, undef, undef, undef, undef, undef, undef, undef, undef, undef, undef, undef, undef, undef, undef, undef, undef, undef, undef, undef] H := by
  obtain ⟨l, hl, el⟩ : ∃ l : List Value, l.length = 100 ∧ l = [undef, undef, undef, undef, undef, undef, undef, undef, undef, undef, undef, undef, undef, undef, undef, undef, undef, undef, undef, undef, undef, undef, undef, undef, undef, undef, undef, undef, undef, undef, undef, undef, undef, undef, undef, undef, undef, undef, undef, undef, undef, undef, undef, undef, undef, undef, undef, undef, undef, undef, undef, undef, undef, undef, undef, undef, undef, undef, undef, undef, undef, undef, undef, undef, undef, undef, undef, undef, undef, undef, undef, undef, undef, undef, undef, undef, undef, undef, undef, undef, undef, undef, undef, undef, undef, undef, undef, undef, undef, undef, undef, undef, undef, undef, undef, undef, undef, undef, undef, undef] := ⟨_, rfl, rfl⟩
  rw [← el]
  have h : sounderlaw04_works_g19 (fun H => sounderlaw04_works_g20 (fun x1 x2 H => sounderlaw04_works_g21 (fun x1 x35 H => brV x35
(sounderlaw04_works_g22 (fun x0 H => R x0 H) H)
(sounderlaw04_works_g23 (fun x1 x65 H => brV x65
(sounderlaw04_works_g24 (fun x0 H => R x0 H) H)
(sounderlaw04_works_g25 (fun x0 H => R x0 H) x1 H)) x1 H)) x1 x2 H) H) H := by exact h
  clear el
  refine seqI (c := sounderlaw04_works_c1) rfl ?_
  refine regI hl (Eq.mpr (sounderlaw04_works_g19_e _ (fun i => l.getD i undef) _) h) ?_
  clear h hl
  intro l H hl h
  refine thenN ?_
  refine seqI (c := sounderlaw04_works_c3) rfl ?_
  refine regI hl (Eq.mpr (sounderlaw04_works_g20_e _ (fun i => l.getD i undef) _) h) ?_
  clear h hl
  intro l H hl h
  refine thenN ?_
  refine seqI (c := sounderlaw04_works_c5) rfl ?_
  refine seqI (c := sounderlaw04_works_c6) rfl ?_
  refine regI hl (Eq.mpr (sounderlaw04_works_g21_e _ (fun i => l.getD i undef) _) h) ?_
  clear h hl
  intro l H hl h
  refine thenN ?_
  refine condI (c := sounderlaw04_works_c8) rfl h ?_ ?_
  · clear h; intro h
    refine seqI (c := sounderlaw04_works_c9) rfl ?_
    refine regI hl (Eq.mpr (sounderlaw04_works_g22_e _ (fun i => l.getD i undef) _) h) ?_
    clear h hl
    intro l H hl h
    refine thenN ?_
    refine retI rfl ?_
    refine thenR ?_
    exact h
  · clear h; intro h
    refine skipI rfl ?_
    refine thenN ?_
    refine seqI (c := sounderlaw04_works_c11) rfl ?_
    refine seqI (c := sounderlaw04_works_c12) rfl ?_
    refine regI hl (Eq.mpr (sounderlaw04_works_g23_e _ (fun i => l.getD i undef) _) h) ?_
    clear h hl
    intro l H hl h
    refine thenN ?_
    refine condI (c := sounderlaw04_works_c14) rfl h ?_ ?_
    · clear h; intro h
      refine seqI (c := sounderlaw04_works_c15) rfl ?_
      refine regI hl (Eq.mpr (sounderlaw04_works_g24_e _ (fun i => l.getD i undef) _) h) ?_
      clear h hl
      intro l H hl h
      refine thenN ?_
      refine retI rfl ?_
      refine thenR ?_
      exact h
    · clear h; intro h
      refine skipI rfl ?_
      refine thenN ?_
      refine seqI (c := sounderlaw04_works_c17) rfl ?_
      refine regI hl (Eq.mpr (sounderlaw04_works_g25_e _ (fun i => l.getD i undef) _) h) ?_
      clear h hl
      intro l H hl h
      refine thenN ?_
      refine retI rfl ?_
      exact h
theorem sounderlaw04_works_ok : okB sounderlaw04_works_pi sounderlaw04_works_c1 = true := by kernel_rfl
theorem sounderlaw04_works_ev0 (R : Value → Heap → Prop) (H : Heap) (h : sounderlaw04_works  R H) : EvL P N.sounderlaw04_works #[] H R :=
  EvF_intro (args := []) (k := 100) (rs := sounderlaw04_works_rs) tab_ok mixed Try.func16 (show Try.f16.body = some sounderlaw04_works_c1 by kernel_rfl) Try.call16 Try.ntmps16 (by kernel_rfl) (okCode_of _ sounderlaw04_works_ok) rfl (sounderlaw04_works_i R  H h)
theorem sounderlaw04_works_ev (R : Value → Heap → Prop) (H : Heap) (h : sounderlaw04_works  R H) : EvF P N.sounderlaw04_works #[] H R := .inl (sounderlaw04_works_ev0  R H h)
/- 17: sounder/sounderlaw04.row -/
def sounderlaw04_row_rs : List ResultVar := [.tmp 2, .tmp 3]
noncomputable def sounderlaw04_row_c2 : Code := subC (bodyC Try.f17) [0]
noncomputable def sounderlaw04_row_c4 : Code := subC (bodyC Try.f17) [1, 0]
noncomputable def sounderlaw04_row_c6 : Code := subC (bodyC Try.f17) [1, 1, 0]
noncomputable def sounderlaw04_row_c5 : Code := .seq sounderlaw04_row_c6 Code.ret
noncomputable def sounderlaw04_row_c3 : Code := .seq sounderlaw04_row_c4 sounderlaw04_row_c5
noncomputable def sounderlaw04_row_c1 : Code := .seq sounderlaw04_row_c2 sounderlaw04_row_c3
def sounderlaw04_row_pi (_ : Nat) : Pl := .nil
def sounderlaw04_row_g7 (S : Value → Heap → Prop) (x0 : Value) (H : Heap) : Prop :=
  newE 37 (Value.cells x0) H fun v1 H1 =>
  S v1 H1
theorem sounderlaw04_row_g7_e (S : Value → Heap → Prop) (x : Nat → Value) (H : Heap) : wpE tab P sounderlaw04_row_pi sounderlaw04_row_c2 (nQ fun l H => S (l.getD 1 undef) H) ((List.range 15).map x) H = sounderlaw04_row_g7 S (x 0) H := by kernel_rfl
def sounderlaw04_row_g8 (S : Value → Value → Heap → Prop) (x1 : Value) (H : Heap) : Prop :=
  bnd (ixAV 1 2 x1 (.int .i64 0)) fun v5 =>
  bnd (ldE false 1 v5 H) fun v6 =>
  EvF P N.sounderref00_Bring #[v6, (.int .i64 100)] H fun v7 H1 =>
  S x1 v7 H1
theorem sounderlaw04_row_g8_e (S : Value → Value → Heap → Prop) (x : Nat → Value) (H : Heap) : wpE tab P sounderlaw04_row_pi sounderlaw04_row_c4 (nQ fun l H => S (l.getD 1 undef) (l.getD 4 undef) H) ((List.range 15).map x) H = sounderlaw04_row_g8 S (x 1) H := by kernel_rfl
def sounderlaw04_row_g9 (S : Value → Value → Heap → Prop) (x1 x4 : Value) (H : Heap) : Prop :=
  bnd (ixAV 1 2 x1 (.int .i64 1)) fun v10 =>
  bnd (ldE false 1 v10 H) fun v11 =>
  EvF P N.sounderref00_Bring #[v11, (.int .i64 12)] H fun v12 H1 =>
  bnd (binV .int .add x4 v12) fun v13 =>
  bnd (foldV min2V (.int .i64 99) [v13]) fun v14 =>
  S x4 v14 H1
theorem sounderlaw04_row_g9_e (S : Value → Value → Heap → Prop) (x : Nat → Value) (H : Heap) : wpE tab P sounderlaw04_row_pi sounderlaw04_row_c6 (nQ fun l H => S (l.getD 2 undef) (l.getD 3 undef) H) ((List.range 15).map x) H = sounderlaw04_row_g9 S (x 1) (x 4) H := by kernel_rfl
def sounderlaw04_row (x0 : Value) (R : Value → Heap → Prop) (H : Heap) : Prop :=
  sounderlaw04_row_g7 (fun x1 H => sounderlaw04_row_g8 (fun x1 x4 H => sounderlaw04_row_g9 (fun x2 x3 H => R (.tuple #[x2, x3]) H) x1 x4 H) x1 H) x0 H
theorem sounderlaw04_row_i (R : Value → Heap → Prop) (x0 : Value) (H : Heap) (h : sounderlaw04_row x0 R H) : wpE tab P sounderlaw04_row_pi sounderlaw04_row_c1 (retQ tab sounderlaw04_row_rs R) [x0, undef, undef, undef, undef, undef, undef, undef, undef, undef, undef, undef, undef, undef, undef] H := by
  obtain ⟨l, hl, el⟩ : ∃ l : List Value, l.length = 15 ∧ l = [x0, undef, undef, undef, undef, undef, undef, undef, undef, undef, undef, undef, undef, undef, undef] := ⟨_, rfl, rfl⟩
  rw [← el]
  have h : (fun (x0 : Value) => sounderlaw04_row_g7 (fun x1 H => sounderlaw04_row_g8 (fun x1 x4 H => sounderlaw04_row_g9 (fun x2 x3 H => R (.tuple #[x2, x3]) H) x1 x4 H) x1 H) x0 H) (l.getD 0 undef) := by rw [el]; exact h
  clear el
  refine seqI (c := sounderlaw04_row_c1) rfl ?_
  refine regI hl (Eq.mpr (sounderlaw04_row_g7_e _ (fun i => l.getD i undef) _) h) ?_
  clear h hl
  intro l H hl h
  refine thenN ?_
  refine seqI (c := sounderlaw04_row_c3) rfl ?_
  refine regI hl (Eq.mpr (sounderlaw04_row_g8_e _ (fun i => l.getD i undef) _) h) ?_
  clear h hl
  intro l H hl h
  refine thenN ?_
  refine seqI (c := sounderlaw04_row_c5) rfl ?_
  refine regI hl (Eq.mpr (sounderlaw04_row_g9_e _ (fun i => l.getD i undef) _) h) ?_
  clear h hl
  intro l H hl h
  refine thenN ?_
  refine retI rfl ?_
  exact h
theorem sounderlaw04_row_ok : okB sounderlaw04_row_pi sounderlaw04_row_c1 = true := by kernel_rfl
theorem sounderlaw04_row_ev0 (x0 : Value) (R : Value → Heap → Prop) (H : Heap) (h : sounderlaw04_row x0 R H) : EvL P N.sounderlaw04_row #[x0] H R :=
  EvF_intro (args := [x0]) (k := 14) (rs := sounderlaw04_row_rs) tab_ok mixed Try.func17 (show Try.f17.body = some sounderlaw04_row_c1 by kernel_rfl) Try.call17 Try.ntmps17 (by kernel_rfl) (okCode_of _ sounderlaw04_row_ok) rfl (sounderlaw04_row_i R x0 H h)
theorem sounderlaw04_row_ev (x0 : Value) (R : Value → Heap → Prop) (H : Heap) (h : sounderlaw04_row x0 R H) : EvF P N.sounderlaw04_row #[x0] H R := .inl (sounderlaw04_row_ev0 x0 R H h)
/- 18: (*sounder/span.Set).Same -/
def span_Set_Same_rs : List ResultVar := [.tmp 4]
noncomputable def span_Set_Same_c2 : Code := subC (bodyC Try.f18) [0]
noncomputable def span_Set_Same_c4 : Code := subC (bodyC Try.f18) [1, 0]
noncomputable def span_Set_Same_c3 : Code := .seq span_Set_Same_c4 Code.ret
noncomputable def span_Set_Same_c1 : Code := .seq span_Set_Same_c2 span_Set_Same_c3
def span_Set_Same_pi (i : Nat) : Pl := match i with
  | 1 => (ones [0, 1, 2, 3, 4, 5, 6, 7, 8, 9, 10, 11, 12, 13, 14, 15, 16, 17, 18, 19, 20, 21, 22, 23, 24, 25, 26, 27, 28, 29, 30] .nil)
  | _ => .nil
def span_Set_Same_g5 (S : Value → Value → Heap → Prop) (x0 x1 : Value) (H : Heap) : Prop :=
  S x0 x1 H
theorem span_Set_Same_g5_e (S : Value → Value → Heap → Prop) (x : Nat → Value) (H : Heap) : wpE tab P span_Set_Same_pi span_Set_Same_c2 (nQ fun l H => S (l.getD 0 undef) (l.getD 1 undef) H) ((List.range 35).map x) H = span_Set_Same_g5 S (x 0) (x 1) H := by kernel_rfl
def span_Set_Same_g6 (S : Value → Heap → Prop) (x0 x1 : Value) (H : Heap) : Prop :=
  EvF P N.span_Set_none #[x0] H fun v6 H1 =>
  bnd (unV .not v6) fun v7 =>
  brV v7
  (EvF P N.span_Set_none #[x1] H1 fun v10 H2 =>
  bnd (unV .not v10) fun v11 =>
  brV v11
  (bnd (nilV x0) fun v15 =>
  bnd (faV 0 v15) fun v16 =>
  bnd (ldE false 1 v16 H2) fun v17 =>
  bnd (nilV x1) fun v19 =>
  bnd (faV 0 v19) fun v20 =>
  bnd (ldE false 1 v20 H2) fun v21 =>
  bnd (binV .int .eql v17 v21) fun v22 =>
  brV v22
  (bnd (nilV x0) fun v26 =>
  bnd (faV 1 v26) fun v27 =>
  bnd (ldE false 1 v27 H2) fun v28 =>
  bnd (nilV x1) fun v30 =>
  bnd (faV 1 v30) fun v31 =>
  bnd (ldE false 1 v31 H2) fun v32 =>
  EvF P N.slices_Equal_Range #[v28, v32] H2 fun v33 H3 =>
  ((bnd (ldE false 1 v20 H3) fun v' => v' = v21) ∧
  ((bnd (ldE false 1 v16 H3) fun v' => v' = v17) ∧
  S v33 H3)))
  (S (.bool false) H2))
  (S (.bool false) H2))
  (S (.bool false) H1)
theorem span_Set_Same_g6_e (S : Value → Heap → Prop) (x : Nat → Value) (H : Heap) : wpE tab P span_Set_Same_pi span_Set_Same_c4 (nQ fun l H => S (l.getD 4 undef) H) ((List.range 35).map x) H = span_Set_Same_g6 S (x 0) (x 1) H := by kernel_rfl
def span_Set_Same (x0 x1 : Value) (R : Value → Heap → Prop) (H : Heap) : Prop :=
  span_Set_Same_g5 (fun x0 x1 H => span_Set_Same_g6 (fun x4 H => R x4 H) x0 x1 H) x0 x1 H
theorem span_Set_Same_i (R : Value → Heap → Prop) (x0 x1 : Value) (H : Heap) (h : span_Set_Same x0 x1 R H) : wpE tab P span_Set_Same_pi span_Set_Same_c1 (retQ tab span_Set_Same_rs R) [x0, x1, undef, undef, undef, undef, undef, undef, undef, undef, undef, undef, undef, undef, undef, undef, undef, undef, undef, undef, undef, undef, undef, undef, undef, undef, undef, undef, undef, undef, undef, undef, undef, undef, undef] H := by
  obtain ⟨l, hl, el⟩ : ∃ l : List Value, l.length = 35 ∧ l = [x0, x1, undef, undef, undef, undef, undef, undef, undef, undef, undef, undef, undef, undef, undef, undef, undef, undef, undef, undef, undef, undef, undef, undef, undef, undef, undef, undef, undef, undef, undef, undef, undef, undef, undef] := ⟨_, rfl, rfl⟩
  rw [← el]
  have h : (fun (x0 x1 : Value) => span_Set_Same_g5 (fun x0 x1 H => span_Set_Same_g6 (fun x4 H => R x4 H) x0 x1 H) x0 x1 H) (l.getD 0 undef) (l.getD 1 undef) := by rw [el]; exact h
  clear el
  refine seqI (c := span_Set_Same_c1) rfl ?_
  refine regI hl (Eq.mpr (span_Set_Same_g5_e _ (fun i => l.getD i undef) _) h) ?_
  clear h hl
  intro l H hl h
  refine thenN ?_
  refine seqI (c := span_Set_Same_c3) rfl ?_
  refine regI hl (Eq.mpr (span_Set_Same_g6_e _ (fun i => l.getD i undef) _) h) ?_
  clear h hl
  intro l H hl h
  refine thenN ?_
  refine retI rfl ?_
  exact h
theorem span_Set_Same_ok : okB span_Set_Same_pi span_Set_Same_c1 = true := by kernel_rfl
theorem span_Set_Same_ev0 (x0 x1 : Value) (R : Value → Heap → Prop) (H : Heap) (h : span_Set_Same x0 x1 R H) : EvL P N.span_Set_Same #[x0, x1] H R :=
  EvF_intro (args := [x0, x1]) (k := 33) (rs := span_Set_Same_rs) tab_ok mixed Try.func18 (show Try.f18.body = some span_Set_Same_c1 by kernel_rfl) Try.call18 Try.ntmps18 (by kernel_rfl) (okCode_of _ span_Set_Same_ok) rfl (span_Set_Same_i R x0 x1 H h)
theorem span_Set_Same_ev (x0 x1 : Value) (R : Value → Heap → Prop) (H : Heap) (h : span_Set_Same x0 x1 R H) : EvF P N.span_Set_Same #[x0, x1] H R := .inl (span_Set_Same_ev0 x0 x1 R H h)
/- 19: (*sounder/span.Set).Cut -/
def span_Set_Cut_rs : List ResultVar := [.tmp 4]
noncomputable def span_Set_Cut_c2 : Code := subC (bodyC Try.f19) [0]
noncomputable def span_Set_Cut_c6 : Code := subC (bodyC Try.f19) [1, 0, 0, 0]
noncomputable def span_Set_Cut_c9 : Code := subC (bodyC Try.f19) [1, 0, 0, 1, 0, 0]
noncomputable def span_Set_Cut_c8 : Code := .seq span_Set_Cut_c9 Code.ret
noncomputable def span_Set_Cut_c11 : Code := subC (bodyC Try.f19) [1, 0, 0, 1, 1, 0]
noncomputable def span_Set_Cut_c14 : Code := subC (bodyC Try.f19) [1, 0, 0, 1, 1, 1, 0, 0]
noncomputable def span_Set_Cut_c13 : Code := .seq span_Set_Cut_c14 Code.ret
noncomputable def span_Set_Cut_c12 : Code := .cond (.tmp 8) span_Set_Cut_c13 Code.skip
noncomputable def span_Set_Cut_c10 : Code := .seq span_Set_Cut_c11 span_Set_Cut_c12
noncomputable def span_Set_Cut_c7 : Code := .cond (.tmp 5) span_Set_Cut_c8 span_Set_Cut_c10
noncomputable def span_Set_Cut_c5 : Code := .seq span_Set_Cut_c6 span_Set_Cut_c7
noncomputable def span_Set_Cut_c4 : Code := .block 0 span_Set_Cut_c5
noncomputable def span_Set_Cut_c16 : Code := subC (bodyC Try.f19) [1, 1, 0]
noncomputable def span_Set_Cut_c19 : Code := subC (bodyC Try.f19) [1, 1, 1, 0, 0]
noncomputable def span_Set_Cut_c21 : Code := subC (bodyC Try.f19) [1, 1, 1, 0, 1, 0]
noncomputable def span_Set_Cut_c20 : Code := .cond (.tmp 28) span_Set_Cut_c21 Code.skip
noncomputable def span_Set_Cut_c18 : Code := .seq span_Set_Cut_c19 span_Set_Cut_c20
noncomputable def span_Set_Cut_c23 : Code := subC (bodyC Try.f19) [1, 1, 1, 1, 0]
noncomputable def span_Set_Cut_c22 : Code := .seq span_Set_Cut_c23 Code.ret
noncomputable def span_Set_Cut_c17 : Code := .seq span_Set_Cut_c18 span_Set_Cut_c22
noncomputable def span_Set_Cut_c15 : Code := .seq span_Set_Cut_c16 span_Set_Cut_c17
noncomputable def span_Set_Cut_c3 : Code := .seq span_Set_Cut_c4 span_Set_Cut_c15
noncomputable def span_Set_Cut_c1 : Code := .seq span_Set_Cut_c2 span_Set_Cut_c3
def span_Set_Cut_pi (i : Nat) : Pl := match i with
  | 5 => (ones [0, 1, 2, 3, 4, 5, 6, 7, 8, 9, 10, 11] .nil)
  | 7 => (ones [0, 1, 2, 3, 4, 5, 6, 7, 8, 9, 10, 11, 12, 13, 14, 15] .nil)
  | _ => .nil
def span_Set_Cut_g24 (S : Value → Value → Heap → Prop) (x0 x1 : Value) (H : Heap) : Prop :=
  S x0 x1 H
theorem span_Set_Cut_g24_e (S : Value → Value → Heap → Prop) (x : Nat → Value) (H : Heap) : wpE tab P span_Set_Cut_pi span_Set_Cut_c2 (nQ fun l H => S (l.getD 0 undef) (l.getD 1 undef) H) ((List.range 44).map x) H = span_Set_Cut_g24 S (x 0) (x 1) H := by kernel_rfl
def span_Set_Cut_g25 (S : Value → Value → Value → Heap → Prop) (x0 x1 : Value) (H : Heap) : Prop :=
  EvF P N.span_Set_none #[x0] H fun v7 H1 =>
  S x0 x1 v7 H1
theorem span_Set_Cut_g25_e (S : Value → Value → Value → Heap → Prop) (x : Nat → Value) (H : Heap) : wpE tab P span_Set_Cut_pi span_Set_Cut_c6 (nQ fun l H => S (l.getD 0 undef) (l.getD 1 undef) (l.getD 5 undef) H) ((List.range 44).map x) H = span_Set_Cut_g25 S (x 0) (x 1) H := by kernel_rfl
def span_Set_Cut_g26 (S : Value → Heap → Prop) (H : Heap) : Prop :=
  S (.int .i64 1) H
theorem span_Set_Cut_g26_e (S : Value → Heap → Prop) (x : Nat → Value) (H : Heap) : wpE tab P span_Set_Cut_pi span_Set_Cut_c9 (nQ fun l H => S (l.getD 4 undef) H) ((List.range 44).map x) H = span_Set_Cut_g26 S  H := by kernel_rfl
def span_Set_Cut_g27 (S : Value → Value → Value → Heap → Prop) (x0 x1 : Value) (H : Heap) : Prop :=
  EvF P N.span_is #[x1] H fun v10 H1 =>
  bnd (unV .not v10) fun v11 =>
  S x0 x1 v11 H1
theorem span_Set_Cut_g27_e (S : Value → Value → Value → Heap → Prop) (x : Nat → Value) (H : Heap) : wpE tab P span_Set_Cut_pi span_Set_Cut_c11 (nQ fun l H => S (l.getD 0 undef) (l.getD 1 undef) (l.getD 8 undef) H) ((List.range 44).map x) H = span_Set_Cut_g27 S (x 0) (x 1) H := by kernel_rfl
def span_Set_Cut_g28 (S : Value → Heap → Prop) (H : Heap) : Prop :=
  S (.int .i64 2) H
theorem span_Set_Cut_g28_e (S : Value → Heap → Prop) (x : Nat → Value) (H : Heap) : wpE tab P span_Set_Cut_pi span_Set_Cut_c14 (nQ fun l H => S (l.getD 4 undef) H) ((List.range 44).map x) H = span_Set_Cut_g28 S  H := by kernel_rfl
def span_Set_Cut_g29 (S : Value → Value → Heap → Prop) (x0 x1 : Value) (H : Heap) : Prop :=
  bnd (nilV x0) fun v14 =>
  bnd (faV 1 v14) fun v15 =>
  bnd (ldE false 1 v15 H) fun v16 =>
  EvF P N.span_Set_first #[x0, x1] H fun v19 H1 =>
  ((bnd (ldE false 1 v15 H1) fun v' => v' = v16) ∧
  EvF P N.slices_Delete_Range #[v16, (.int .i64 0), v19] H1 fun v20 H2 =>
  bnd (nilV x0) fun v21 =>
  bnd (faV 1 v21) fun v22 =>
  bnd (stE 1 v22 v20 H2) fun H3 =>
  S x0 x1 H3)
theorem span_Set_Cut_g29_e (S : Value → Value → Heap → Prop) (x : Nat → Value) (H : Heap) : wpE tab P span_Set_Cut_pi span_Set_Cut_c16 (nQ fun l H => S (l.getD 0 undef) (l.getD 1 undef) H) ((List.range 44).map x) H = span_Set_Cut_g29 S (x 0) (x 1) H := by kernel_rfl
def span_Set_Cut_g31 (S : Value → Heap → Prop) (H : Heap) : Prop :=
  S (.int .i64 0) H
theorem span_Set_Cut_g31_e (S : Value → Heap → Prop) (x : Nat → Value) (H : Heap) : wpE tab P span_Set_Cut_pi span_Set_Cut_c23 (nQ fun l H => S (l.getD 4 undef) H) ((List.range 44).map x) H = span_Set_Cut_g31 S  H := by kernel_rfl
def span_Set_Cut_s30 (R : Value → Heap → Prop) (H : Heap) : Prop :=
  span_Set_Cut_g31 (fun x4 H => R x4 H) H
noncomputable def span_Set_Cut_q32 (R : Value → Heap → Prop) : Exit → List Value → Heap → Prop := (retQ tab span_Set_Cut_rs R)
theorem span_Set_Cut_s30_i (R : Value → Heap → Prop) (l : List Value) (H : Heap) (hl : l.length = 44) (h : span_Set_Cut_s30  R H) : wpE tab P span_Set_Cut_pi span_Set_Cut_c22 (span_Set_Cut_q32 R) l H := by
  refine seqI (c := span_Set_Cut_c22) rfl ?_
  refine regI hl (Eq.mpr (span_Set_Cut_g31_e _ (fun i => l.getD i undef) _) h) ?_
  clear h hl
  intro l H hl h
  refine thenN ?_
  refine retI rfl ?_
  exact h
def span_Set_Cut_g33 (S : Value → Value → Value → Heap → Prop) (x0 x1 : Value) (H : Heap) : Prop :=
  bnd (nilV x0) fun v24 =>
  bnd (faV 1 v24) fun v25 =>
  bnd (ldE false 1 v25 H) fun v26 =>
  bnd (lenV v26) fun v27 =>
  bnd (binV .int .gtr v27 (.int .i64 0)) fun v28 =>
  S x0 x1 v28 H
theorem span_Set_Cut_g33_e (S : Value → Value → Value → Heap → Prop) (x : Nat → Value) (H : Heap) : wpE tab P span_Set_Cut_pi span_Set_Cut_c19 (nQ fun l H => S (l.getD 0 undef) (l.getD 1 undef) (l.getD 28 undef) H) ((List.range 44).map x) H = span_Set_Cut_g33 S (x 0) (x 1) H := by kernel_rfl
def span_Set_Cut_g34 (S : Heap → Prop) (x0 x1 : Value) (H : Heap) : Prop :=
  bnd (nilV x0) fun v30 =>
  bnd (faV 1 v30) fun v31 =>
  bnd (ldE false 1 v31 H) fun v32 =>
  bnd (nilV x0) fun v34 =>
  bnd (faV 1 v34) fun v35 =>
  bnd (ldE false 1 v35 H) fun v36 =>
  bnd (ixSV 2 v36 (.int .i64 0)) fun v37 =>
  bnd (faV 0 v37) fun v38 =>
  bnd (ldE false 1 v38 H) fun v39 =>
  bnd (foldV max2V v39 [x1]) fun v41 =>
  bnd (ixSV 2 v32 (.int .i64 0)) fun v42 =>
  bnd (faV 0 v42) fun v43 =>
  bnd (stE 1 v43 v41 H) fun H1 =>
  S H1
theorem span_Set_Cut_g34_e (S : Heap → Prop) (x : Nat → Value) (H : Heap) : wpE tab P span_Set_Cut_pi span_Set_Cut_c21 (nQ fun _ H => S  H) ((List.range 44).map x) H = span_Set_Cut_g34 S (x 0) (x 1) H := by kernel_rfl
def span_Set_Cut (x0 x1 : Value) (R : Value → Heap → Prop) (H : Heap) : Prop :=
  span_Set_Cut_g24 (fun x0 x1 H => span_Set_Cut_g25 (fun x0 x1 x5 H => brV x5
  (span_Set_Cut_g26 (fun x4 H => R x4 H) H)
  (span_Set_Cut_g27 (fun x0 x1 x8 H => brV x8
  (span_Set_Cut_g28 (fun x4 H => R x4 H) H)
  (span_Set_Cut_g29 (fun x0 x1 H => span_Set_Cut_g33 (fun x0 x1 x28 H => brV x28
  (span_Set_Cut_g34 (fun H => span_Set_Cut_s30 R H) x0 x1 H)
  (span_Set_Cut_s30 R H)) x0 x1 H) x0 x1 H)) x0 x1 H)) x0 x1 H) x0 x1 H
theorem span_Set_Cut_i (R : Value → Heap → Prop) (x0 x1 : Value) (H : Heap) (h : span_Set_Cut x0 x1 R H) : wpE tab P span_Set_Cut_pi span_Set_Cut_c1 (retQ tab span_Set_Cut_rs R) [x0, x1, undef, undef, undef, undef, undef, undef, undef, undef, undef, undef, undef, undef, undef, undef, undef, undef, undef, undef, undef, undef, undef, undef, undef, undef, undef, undef, undef, undef, undef, undef, undef, undef, undef, undef, undef, undef, undef, undef, undef, undef, undef, undef] H := by
  obtain ⟨l, hl, el⟩ : ∃ l : List Value, l.length = 44 ∧ l = [x0, x1, undef, undef, undef, undef, undef, undef, undef, undef, undef, undef, undef, undef, undef, undef, undef, undef, undef, undef, undef, undef, undef, undef, undef, undef, undef, undef, undef, undef, undef, undef, undef, undef, undef, undef, undef, undef, undef, undef, undef, undef, undef, undef] := ⟨_, rfl, rfl⟩
  rw [← el]
  have h : (fun (x0 x1 : Value) => span_Set_Cut_g24 (fun x0 x1 H => span_Set_Cut_g25 (fun x0 x1 x5 H => brV x5
(span_Set_Cut_g26 (fun x4 H => R x4 H) H)
(span_Set_Cut_g27 (fun x0 x1 x8 H => brV x8
(span_Set_Cut_g28 (fun x4 H => R x4 H) H)
(span_Set_Cut_g29 (fun x0 x1 H => span_Set_Cut_g33 (fun x0 x1 x28 H => brV x28
(span_Set_Cut_g34 (fun H => span_Set_Cut_s30 R H) x0 x1 H)
(span_Set_Cut_s30 R H)) x0 x1 H) x0 x1 H)) x0 x1 H)) x0 x1 H) x0 x1 H) (l.getD 0 undef) (l.getD 1 undef) := by rw [el]; exact h
  clear el
  refine seqI (c := span_Set_Cut_c1) rfl ?_
  refine regI hl (Eq.mpr (span_Set_Cut_g24_e _ (fun i => l.getD i undef) _) h) ?_
  clear h hl
  intro l H hl h
  refine thenN ?_
  refine seqI (c := span_Set_Cut_c3) rfl ?_
  refine blockI (c := span_Set_Cut_c4) rfl ?_
  refine seqI (c := span_Set_Cut_c5) rfl ?_
  refine regI hl (Eq.mpr (span_Set_Cut_g25_e _ (fun i => l.getD i undef) _) h) ?_
  clear h hl
  intro l H hl h
  refine thenN ?_
  refine condI (c := span_Set_Cut_c7) rfl h ?_ ?_
  · clear h; intro h
    refine seqI (c := span_Set_Cut_c8) rfl ?_
    refine regI hl (Eq.mpr (span_Set_Cut_g26_e _ (fun i => l.getD i undef) _) h) ?_
    clear h hl
    intro l H hl h
    refine thenN ?_
    refine retI rfl ?_
    refine blkR ?_
    refine thenR ?_
    exact h
  · clear h; intro h
    refine seqI (c := span_Set_Cut_c10) rfl ?_
    refine regI hl (Eq.mpr (span_Set_Cut_g27_e _ (fun i => l.getD i undef) _) h) ?_
    clear h hl
    intro l H hl h
    refine thenN ?_
    refine condI (c := span_Set_Cut_c12) rfl h ?_ ?_
    · clear h; intro h
      refine seqI (c := span_Set_Cut_c13) rfl ?_
      refine regI hl (Eq.mpr (span_Set_Cut_g28_e _ (fun i => l.getD i undef) _) h) ?_
      clear h hl
      intro l H hl h
      refine thenN ?_
      refine retI rfl ?_
      refine blkR ?_
      refine thenR ?_
      exact h
    · clear h; intro h
      refine skipI rfl ?_
      refine blkN ?_
      refine thenN ?_
      refine seqI (c := span_Set_Cut_c15) rfl ?_
      refine regI hl (Eq.mpr (span_Set_Cut_g29_e _ (fun i => l.getD i undef) _) h) ?_
      clear h hl
      intro l H hl h
      refine thenN ?_
      refine seqI (c := span_Set_Cut_c17) rfl ?_
      refine seqI (c := span_Set_Cut_c18) rfl ?_
      refine regI hl (Eq.mpr (span_Set_Cut_g33_e _ (fun i => l.getD i undef) _) h) ?_
      clear h hl
      intro l H hl h
      refine thenN ?_
      refine condI (c := span_Set_Cut_c20) rfl h ?_ ?_
      · clear h; intro h
        refine regI hl (Eq.mpr (span_Set_Cut_g34_e _ (fun i => l.getD i undef) _) h) ?_
        clear h hl
        intro l H hl h
        refine thenN ?_
        exact span_Set_Cut_s30_i R l H hl h
      · clear h; intro h
        refine skipI rfl ?_
        refine thenN ?_
        exact span_Set_Cut_s30_i R l H hl h
theorem span_Set_Cut_ok : okB span_Set_Cut_pi span_Set_Cut_c1 = true := by kernel_rfl
theorem span_Set_Cut_ev0 (x0 x1 : Value) (R : Value → Heap → Prop) (H : Heap) (h : span_Set_Cut x0 x1 R H) : EvL P N.span_Set_Cut #[x0, x1] H R :=
  EvF_intro (args := [x0, x1]) (k := 42) (rs := span_Set_Cut_rs) tab_ok mixed Try.func19 (show Try.f19.body = some span_Set_Cut_c1 by kernel_rfl) Try.call19 Try.ntmps19 (by kernel_rfl) (okCode_of _ span_Set_Cut_ok) rfl (span_Set_Cut_i R x0 x1 H h)
theorem span_Set_Cut_ev (x0 x1 : Value) (R : Value → Heap → Prop) (H : Heap) (h : span_Set_Cut x0 x1 R H) : EvF P N.span_Set_Cut #[x0, x1] H R := .inl (span_Set_Cut_ev0 x0 x1 R H h)
/- 20: sounder/sounderlaw04.bits -/
def sounderlaw04_bits_rs : List ResultVar := [.cell 4 40]
noncomputable def sounderlaw04_bits_c2 : Code := subC (bodyC Try.f20) [0]
noncomputable def sounderlaw04_bits_c4 : Code := subC (bodyC Try.f20) [1, 0]
noncomputable def sounderlaw04_bits_c7 : Code := subC (bodyC Try.f20) [1, 1, 0, 0]
noncomputable def sounderlaw04_bits_c12 : Code := subC (bodyC Try.f20) [1, 1, 0, 1, 0, 0, 0, 0]
noncomputable def sounderlaw04_bits_c14 : Code := .exit 0
noncomputable def sounderlaw04_bits_c13 : Code := .cond (.tmp 14) Code.skip sounderlaw04_bits_c14
noncomputable def sounderlaw04_bits_c11 : Code := .seq sounderlaw04_bits_c12 sounderlaw04_bits_c13
noncomputable def sounderlaw04_bits_c18 : Code := subC (bodyC Try.f20) [1, 1, 0, 1, 0, 0, 1, 0, 0, 0]
noncomputable def sounderlaw04_bits_c20 : Code := subC (bodyC Try.f20) [1, 1, 0, 1, 0, 0, 1, 0, 0, 1, 0]
noncomputable def sounderlaw04_bits_c25 : Code := subC (bodyC Try.f20) [1, 1, 0, 1, 0, 0, 1, 0, 0, 1, 1, 0, 0, 0, 0]
noncomputable def sounderlaw04_bits_c27 : Code := .exit 2
noncomputable def sounderlaw04_bits_c26 : Code := .cond (.tmp 28) Code.skip sounderlaw04_bits_c27
noncomputable def sounderlaw04_bits_c24 : Code := .seq sounderlaw04_bits_c25 sounderlaw04_bits_c26
noncomputable def sounderlaw04_bits_c30 : Code := subC (bodyC Try.f20) [1, 1, 0, 1, 0, 0, 1, 0, 0, 1, 1, 0, 0, 1, 0, 0]
noncomputable def sounderlaw04_bits_c29 : Code := .block 3 sounderlaw04_bits_c30
noncomputable def sounderlaw04_bits_c31 : Code := subC (bodyC Try.f20) [1, 1, 0, 1, 0, 0, 1, 0, 0, 1, 1, 0, 0, 1, 1]
noncomputable def sounderlaw04_bits_c28 : Code := .seq sounderlaw04_bits_c29 sounderlaw04_bits_c31
noncomputable def sounderlaw04_bits_c23 : Code := .seq sounderlaw04_bits_c24 sounderlaw04_bits_c28
noncomputable def sounderlaw04_bits_c22 : Code := .loop sounderlaw04_bits_c23
noncomputable def sounderlaw04_bits_c21 : Code := .block 2 sounderlaw04_bits_c22
noncomputable def sounderlaw04_bits_c19 : Code := .seq sounderlaw04_bits_c20 sounderlaw04_bits_c21
noncomputable def sounderlaw04_bits_c17 : Code := .seq sounderlaw04_bits_c18 sounderlaw04_bits_c19
noncomputable def sounderlaw04_bits_c16 : Code := .block 1 sounderlaw04_bits_c17
noncomputable def sounderlaw04_bits_c32 : Code := subC (bodyC Try.f20) [1, 1, 0, 1, 0, 0, 1, 1]
noncomputable def sounderlaw04_bits_c15 : Code := .seq sounderlaw04_bits_c16 sounderlaw04_bits_c32
noncomputable def sounderlaw04_bits_c10 : Code := .seq sounderlaw04_bits_c11 sounderlaw04_bits_c15
noncomputable def sounderlaw04_bits_c9 : Code := .loop sounderlaw04_bits_c10
noncomputable def sounderlaw04_bits_c8 : Code := .block 0 sounderlaw04_bits_c9
noncomputable def sounderlaw04_bits_c6 : Code := .seq sounderlaw04_bits_c7 sounderlaw04_bits_c8
noncomputable def sounderlaw04_bits_c35 : Code := subC (bodyC Try.f20) [1, 1, 1, 0, 0]
noncomputable def sounderlaw04_bits_c40 : Code := subC (bodyC Try.f20) [1, 1, 1, 0, 1, 0, 0, 0, 0]
noncomputable def sounderlaw04_bits_c42 : Code := .exit 4
noncomputable def sounderlaw04_bits_c41 : Code := .cond (.tmp 35) Code.skip sounderlaw04_bits_c42
noncomputable def sounderlaw04_bits_c39 : Code := .seq sounderlaw04_bits_c40 sounderlaw04_bits_c41
noncomputable def sounderlaw04_bits_c45 : Code := subC (bodyC Try.f20) [1, 1, 1, 0, 1, 0, 0, 1, 0, 0]
noncomputable def sounderlaw04_bits_c44 : Code := .block 5 sounderlaw04_bits_c45
noncomputable def sounderlaw04_bits_c46 : Code := subC (bodyC Try.f20) [1, 1, 1, 0, 1, 0, 0, 1, 1]
noncomputable def sounderlaw04_bits_c43 : Code := .seq sounderlaw04_bits_c44 sounderlaw04_bits_c46
noncomputable def sounderlaw04_bits_c38 : Code := .seq sounderlaw04_bits_c39 sounderlaw04_bits_c43
noncomputable def sounderlaw04_bits_c37 : Code := .loop sounderlaw04_bits_c38
noncomputable def sounderlaw04_bits_c36 : Code := .block 4 sounderlaw04_bits_c37
noncomputable def sounderlaw04_bits_c34 : Code := .seq sounderlaw04_bits_c35 sounderlaw04_bits_c36
noncomputable def sounderlaw04_bits_c48 : Code := subC (bodyC Try.f20) [1, 1, 1, 1, 0]
noncomputable def sounderlaw04_bits_c47 : Code := .seq sounderlaw04_bits_c48 Code.ret
noncomputable def sounderlaw04_bits_c33 : Code := .seq sounderlaw04_bits_c34 sounderlaw04_bits_c47
noncomputable def sounderlaw04_bits_c5 : Code := .seq sounderlaw04_bits_c6 sounderlaw04_bits_c33
noncomputable def sounderlaw04_bits_c3 : Code := .seq sounderlaw04_bits_c4 sounderlaw04_bits_c5
noncomputable def sounderlaw04_bits_c1 : Code := .seq sounderlaw04_bits_c2 sounderlaw04_bits_c3
def sounderlaw04_bits_pi (_ : Nat) : Pl := .nil
def sounderlaw04_bits_g49 (S : Value → Value → Value → Heap → Prop) (x0 x1 : Value) (H : Heap) : Prop :=
  newE 40 (zeros 101) H fun v4 H1 =>
  S x0 x1 v4 H1
theorem sounderlaw04_bits_g49_e (S : Value → Value → Value → Heap → Prop) (x : Nat → Value) (H : Heap) : wpE tab P sounderlaw04_bits_pi sounderlaw04_bits_c2 (nQ fun l H => S (l.getD 0 undef) (l.getD 1 undef) (l.getD 4 undef) H) ((List.range 41).map x) H = sounderlaw04_bits_g49 S (x 0) (x 1) H := by kernel_rfl
def sounderlaw04_bits_g50 (S : Value → Value → Value → Value → Heap → Prop) (x0 x1 x4 : Value) (H : Heap) : Prop :=
  newE 40 (zeros 101) H fun v5 H1 =>
  S x0 x1 x4 v5 H1
theorem sounderlaw04_bits_g50_e (S : Value → Value → Value → Value → Heap → Prop) (x : Nat → Value) (H : Heap) : wpE tab P sounderlaw04_bits_pi sounderlaw04_bits_c4 (nQ fun l H => S (l.getD 0 undef) (l.getD 1 undef) (l.getD 4 undef) (l.getD 5 undef) H) ((List.range 41).map x) H = sounderlaw04_bits_g50 S (x 0) (x 1) (x 4) H := by kernel_rfl
def sounderlaw04_bits_g51 (S : Value → Value → Value → Value → Value → Heap → Prop) (x0 x1 x4 x5 : Value) (H : Heap) : Prop :=
  S x0 x1 x4 x5 (.int .i64 0) H
theorem sounderlaw04_bits_g51_e (S : Value → Value → Value → Value → Value → Heap → Prop) (x : Nat → Value) (H : Heap) : wpE tab P sounderlaw04_bits_pi sounderlaw04_bits_c7 (nQ fun l H => S (l.getD 0 undef) (l.getD 1 undef) (l.getD 4 undef) (l.getD 5 undef) (l.getD 6 undef) H) ((List.range 41).map x) H = sounderlaw04_bits_g51 S (x 0) (x 1) (x 4) (x 5) H := by kernel_rfl
def sounderlaw04_bits_g53 (S : Value → Value → Value → Value → Value → Value → Heap → Prop) (x0 x1 x4 x5 x6 : Value) (H : Heap) : Prop :=
  bnd (lenV x0) fun v13 =>
  bnd (binV .int .lss x6 v13) fun v14 =>
  S x0 x1 x4 x5 x6 v14 H
theorem sounderlaw04_bits_g53_e (S : Value → Value → Value → Value → Value → Value → Heap → Prop) (x : Nat → Value) (H : Heap) : wpE tab P sounderlaw04_bits_pi sounderlaw04_bits_c12 (nQ fun l H => S (l.getD 0 undef) (l.getD 1 undef) (l.getD 4 undef) (l.getD 5 undef) (l.getD 6 undef) (l.getD 14 undef) H) ((List.range 41).map x) H = sounderlaw04_bits_g53 S (x 0) (x 1) (x 4) (x 5) (x 6) H := by kernel_rfl
def sounderlaw04_bits_g54 (S : Value → Value → Value → Value → Value → Value → Value → Heap → Prop) (x0 x1 x4 x5 x6 : Value) (H : Heap) : Prop :=
  bnd (ixSV 2 x0 x6) fun v20 =>
  bnd (ldE true 2 v20 H) fun v21 =>
  EvF P N.sounderlaw04_row #[v21] H fun v22 H1 =>
  bnd (exV 0 v22) fun v23 =>
  bnd (exV 1 v22) fun v24 =>
  S x0 x1 x4 x5 x6 v23 v24 H1
theorem sounderlaw04_bits_g54_e (S : Value → Value → Value → Value → Value → Value → Value → Heap → Prop) (x : Nat → Value) (H : Heap) : wpE tab P sounderlaw04_bits_pi sounderlaw04_bits_c18 (nQ fun l H => S (l.getD 0 undef) (l.getD 1 undef) (l.getD 4 undef) (l.getD 5 undef) (l.getD 6 undef) (l.getD 7 undef) (l.getD 8 undef) H) ((List.range 41).map x) H = sounderlaw04_bits_g54 S (x 0) (x 1) (x 4) (x 5) (x 6) H := by kernel_rfl
def sounderlaw04_bits_g55 (S : Value → Value → Value → Value → Value → Value → Value → Heap → Prop) (x0 x1 x4 x5 x6 x7 x8 : Value) (H : Heap) : Prop :=
  S x0 x1 x4 x5 x6 x8 x7 H
theorem sounderlaw04_bits_g55_e (S : Value → Value → Value → Value → Value → Value → Value → Heap → Prop) (x : Nat → Value) (H : Heap) : wpE tab P sounderlaw04_bits_pi sounderlaw04_bits_c20 (nQ fun l H => S (l.getD 0 undef) (l.getD 1 undef) (l.getD 4 undef) (l.getD 5 undef) (l.getD 6 undef) (l.getD 8 undef) (l.getD 9 undef) H) ((List.range 41).map x) H = sounderlaw04_bits_g55 S (x 0) (x 1) (x 4) (x 5) (x 6) (x 7) (x 8) H := by kernel_rfl
def sounderlaw04_bits_g57 (S : Value → Value → Value → Value → Value → Value → Value → Value → Heap → Prop) (x0 x1 x4 x5 x6 x8 x9 : Value) (H : Heap) : Prop :=
  bnd (binV .int .leq x9 x8) fun v28 =>
  S x0 x1 x4 x5 x6 x8 x9 v28 H
theorem sounderlaw04_bits_g57_e (S : Value → Value → Value → Value → Value → Value → Value → Value → Heap → Prop) (x : Nat → Value) (H : Heap) : wpE tab P sounderlaw04_bits_pi sounderlaw04_bits_c25 (nQ fun l H => S (l.getD 0 undef) (l.getD 1 undef) (l.getD 4 undef) (l.getD 5 undef) (l.getD 6 undef) (l.getD 8 undef) (l.getD 9 undef) (l.getD 28 undef) H) ((List.range 41).map x) H = sounderlaw04_bits_g57 S (x 0) (x 1) (x 4) (x 5) (x 6) (x 8) (x 9) H := by kernel_rfl
def sounderlaw04_bits_g58 (S : Value → Value → Value → Value → Value → Value → Value → Heap → Prop) (x0 x1 x4 x5 x6 x8 x9 : Value) (H : Heap) : Prop :=
  bnd (ixAV 1 101 x5 x9) fun v32 =>
  bnd (stE 1 v32 (.int .i64 1) H) fun H1 =>
  S x0 x1 x4 x5 x6 x8 x9 H1
theorem sounderlaw04_bits_g58_e (S : Value → Value → Value → Value → Value → Value → Value → Heap → Prop) (x : Nat → Value) (H : Heap) : wpE tab P sounderlaw04_bits_pi sounderlaw04_bits_c30 (nQ fun l H => S (l.getD 0 undef) (l.getD 1 undef) (l.getD 4 undef) (l.getD 5 undef) (l.getD 6 undef) (l.getD 8 undef) (l.getD 9 undef) H) ((List.range 41).map x) H = sounderlaw04_bits_g58 S (x 0) (x 1) (x 4) (x 5) (x 6) (x 8) (x 9) H := by kernel_rfl
def sounderlaw04_bits_g59 (S : Value → Value → Value → Value → Value → Value → Value → Heap → Prop) (x0 x1 x4 x5 x6 x8 x9 : Value) (H : Heap) : Prop :=
  bnd (binV .int .add x9 (.int .i64 1)) fun v30 =>
  S x0 x1 x4 x5 x6 x8 v30 H
theorem sounderlaw04_bits_g59_e (S : Value → Value → Value → Value → Value → Value → Value → Heap → Prop) (x : Nat → Value) (H : Heap) : wpE tab P sounderlaw04_bits_pi sounderlaw04_bits_c31 (nQ fun l H => S (l.getD 0 undef) (l.getD 1 undef) (l.getD 4 undef) (l.getD 5 undef) (l.getD 6 undef) (l.getD 8 undef) (l.getD 9 undef) H) ((List.range 41).map x) H = sounderlaw04_bits_g59 S (x 0) (x 1) (x 4) (x 5) (x 6) (x 8) (x 9) H := by kernel_rfl
def sounderlaw04_bits_g60 (S : Value → Value → Value → Value → Value → Heap → Prop) (x0 x1 x4 x5 x6 : Value) (H : Heap) : Prop :=
  bnd (binV .int .add x6 (.int .i64 1)) fun v16 =>
  S x0 x1 x4 x5 v16 H
theorem sounderlaw04_bits_g60_e (S : Value → Value → Value → Value → Value → Heap → Prop) (x : Nat → Value) (H : Heap) : wpE tab P sounderlaw04_bits_pi sounderlaw04_bits_c32 (nQ fun l H => S (l.getD 0 undef) (l.getD 1 undef) (l.getD 4 undef) (l.getD 5 undef) (l.getD 6 undef) H) ((List.range 41).map x) H = sounderlaw04_bits_g60 S (x 0) (x 1) (x 4) (x 5) (x 6) H := by kernel_rfl
def sounderlaw04_bits_s56 (x0 x1 x4 x5 x6 x8 x9 : Value) (K1 : Value → Value → Value → Value → Value →  Heap → Prop) (K2 : Value → Value → Value → Value → Value → Value → Value →  Heap → Prop) (_R : Value → Heap → Prop) (H : Heap) : Prop :=
  sounderlaw04_bits_g57 (fun x0 x1 x4 x5 x6 x8 x9 x28 H => brV x28
  (sounderlaw04_bits_g58 (fun x0 x1 x4 x5 x6 x8 x9 H => sounderlaw04_bits_g59 (fun x0 x1 x4 x5 x6 x8 x9 H => K2 x0 x1 x4 x5 x6 x8 x9 H) x0 x1 x4 x5 x6 x8 x9 H) x0 x1 x4 x5 x6 x8 x9 H)
  (sounderlaw04_bits_g60 (fun x0 x1 x4 x5 x6 H => K1 x0 x1 x4 x5 x6 H) x0 x1 x4 x5 x6 H)) x0 x1 x4 x5 x6 x8 x9 H
noncomputable def sounderlaw04_bits_q61 (R : Value → Heap → Prop) : Exit → List Value → Heap → Prop := (retQ tab sounderlaw04_bits_rs R)
noncomputable def sounderlaw04_bits_q62 (R : Value → Heap → Prop) : Exit → List Value → Heap → Prop := (thenE (fun l H => wpE tab P sounderlaw04_bits_pi sounderlaw04_bits_c33 (sounderlaw04_bits_q61 R) l H) (sounderlaw04_bits_q61 R))
noncomputable def sounderlaw04_bits_q63 (R : Value → Heap → Prop) : Exit → List Value → Heap → Prop := (blkE 0 (sounderlaw04_bits_q62 R))
noncomputable def sounderlaw04_bits_q64 (K1 : Value → Value → Value → Value → Value →  Heap → Prop) (R : Value → Heap → Prop) : Exit → List Value → Heap → Prop := (thenE (fun l H => K1 (l.getD 0 undef) (l.getD 1 undef) (l.getD 4 undef) (l.getD 5 undef) (l.getD 6 undef) H) (sounderlaw04_bits_q63 R))
noncomputable def sounderlaw04_bits_q65 (K1 : Value → Value → Value → Value → Value →  Heap → Prop) (R : Value → Heap → Prop) : Exit → List Value → Heap → Prop := (thenE (fun l H => wpE tab P sounderlaw04_bits_pi sounderlaw04_bits_c32 (sounderlaw04_bits_q64 K1 R) l H) (sounderlaw04_bits_q64 K1 R))
noncomputable def sounderlaw04_bits_q66 (K1 : Value → Value → Value → Value → Value →  Heap → Prop) (R : Value → Heap → Prop) : Exit → List Value → Heap → Prop := (blkE 1 (sounderlaw04_bits_q65 K1 R))
noncomputable def sounderlaw04_bits_q67 (K1 : Value → Value → Value → Value → Value →  Heap → Prop) (R : Value → Heap → Prop) : Exit → List Value → Heap → Prop := (blkE 2 (sounderlaw04_bits_q66 K1 R))
noncomputable def sounderlaw04_bits_q68 (K1 : Value → Value → Value → Value → Value →  Heap → Prop) (K2 : Value → Value → Value → Value → Value → Value → Value →  Heap → Prop) (R : Value → Heap → Prop) : Exit → List Value → Heap → Prop := (thenE (fun l H => K2 (l.getD 0 undef) (l.getD 1 undef) (l.getD 4 undef) (l.getD 5 undef) (l.getD 6 undef) (l.getD 8 undef) (l.getD 9 undef) H) (sounderlaw04_bits_q67 K1 R))
theorem sounderlaw04_bits_s56_i (K1 : Value → Value → Value → Value → Value →  Heap → Prop) (K2 : Value → Value → Value → Value → Value → Value → Value →  Heap → Prop) (R : Value → Heap → Prop) (l : List Value) (H : Heap) (hl : l.length = 41) (h : sounderlaw04_bits_s56 (l.getD 0 undef) (l.getD 1 undef) (l.getD 4 undef) (l.getD 5 undef) (l.getD 6 undef) (l.getD 8 undef) (l.getD 9 undef) K1 K2 R H) : wpE tab P sounderlaw04_bits_pi sounderlaw04_bits_c23 (sounderlaw04_bits_q68 K1 K2 R) l H := by
  refine seqI (c := sounderlaw04_bits_c23) rfl ?_
  refine seqI (c := sounderlaw04_bits_c24) rfl ?_
  refine regI hl (Eq.mpr (sounderlaw04_bits_g57_e _ (fun i => l.getD i undef) _) h) ?_
  clear h hl
  intro l H hl h
  refine thenN ?_
  refine condI (c := sounderlaw04_bits_c26) rfl h ?_ ?_
  · clear h; intro h
    refine skipI rfl ?_
    refine thenN ?_
    refine seqI (c := sounderlaw04_bits_c28) rfl ?_
    refine blockI (c := sounderlaw04_bits_c29) rfl ?_
    refine regI hl (Eq.mpr (sounderlaw04_bits_g58_e _ (fun i => l.getD i undef) _) h) ?_
    clear h hl
    intro l H hl h
    refine blkN ?_
    refine thenN ?_
    refine regI hl (Eq.mpr (sounderlaw04_bits_g59_e _ (fun i => l.getD i undef) _) h) ?_
    clear h hl
    intro l H hl h
    refine thenN ?_
    exact h
  · clear h; intro h
    refine exitI (c := sounderlaw04_bits_c27) rfl ?_
    refine thenX ?_
    refine thenX ?_
    refine blkX ?_
    refine blkN ?_
    refine thenN ?_
    refine regI hl (Eq.mpr (sounderlaw04_bits_g60_e _ (fun i => l.getD i undef) _) h) ?_
    clear h hl
    intro l H hl h
    refine thenN ?_
    exact h
def sounderlaw04_bits_l69 (x0 x1 x4 x5 x6 x8 x9 : Value) (K1 : Value → Value → Value → Value → Value →  Heap → Prop) (R : Value → Heap → Prop) (H : Heap) : Prop :=
  ∃ (I : Value → Heap → Prop) (μ : Value → Heap → Nat), I x9 H ∧ ∀ (y9 : Value) (H : Heap), I y9 H → sounderlaw04_bits_s56 x0 x1 x4 x5 x6 x8 y9 K1 (fun z0 z1 z4 z5 z6 z8 z9 H' => z0 = x0 ∧ z1 = x1 ∧ z4 = x4 ∧ z5 = x5 ∧ z6 = x6 ∧ z8 = x8 ∧ (I z9 H' ∧ μ z9 H' < μ y9 H)) R H
def sounderlaw04_bits_g70 (S : Value → Value → Value → Value → Heap → Prop) (x1 x4 x5 : Value) (H : Heap) : Prop :=
  S x1 x4 x5 (.int .i64 0) H
theorem sounderlaw04_bits_g70_e (S : Value → Value → Value → Value → Heap → Prop) (x : Nat → Value) (H : Heap) : wpE tab P sounderlaw04_bits_pi sounderlaw04_bits_c35 (nQ fun l H => S (l.getD 1 undef) (l.getD 4 undef) (l.getD 5 undef) (l.getD 10 undef) H) ((List.range 41).map x) H = sounderlaw04_bits_g70 S (x 1) (x 4) (x 5) H := by kernel_rfl
def sounderlaw04_bits_g72 (S : Value → Value → Value → Value → Value → Heap → Prop) (x1 x4 x5 x10 : Value) (H : Heap) : Prop :=
  bnd (binV .int .lss x10 x1) fun v35 =>
  S x1 x4 x5 x10 v35 H
theorem sounderlaw04_bits_g72_e (S : Value → Value → Value → Value → Value → Heap → Prop) (x : Nat → Value) (H : Heap) : wpE tab P sounderlaw04_bits_pi sounderlaw04_bits_c40 (nQ fun l H => S (l.getD 1 undef) (l.getD 4 undef) (l.getD 5 undef) (l.getD 10 undef) (l.getD 35 undef) H) ((List.range 41).map x) H = sounderlaw04_bits_g72 S (x 1) (x 4) (x 5) (x 10) H := by kernel_rfl
def sounderlaw04_bits_g73 (S : Value → Value → Value → Value → Heap → Prop) (x1 x4 x5 x10 : Value) (H : Heap) : Prop :=
  bnd (ixAV 1 101 x5 x10) fun v39 =>
  bnd (stE 1 v39 (.int .i64 0) H) fun H1 =>
  S x1 x4 x5 x10 H1
theorem sounderlaw04_bits_g73_e (S : Value → Value → Value → Value → Heap → Prop) (x : Nat → Value) (H : Heap) : wpE tab P sounderlaw04_bits_pi sounderlaw04_bits_c45 (nQ fun l H => S (l.getD 1 undef) (l.getD 4 undef) (l.getD 5 undef) (l.getD 10 undef) H) ((List.range 41).map x) H = sounderlaw04_bits_g73 S (x 1) (x 4) (x 5) (x 10) H := by kernel_rfl
def sounderlaw04_bits_g74 (S : Value → Value → Value → Value → Heap → Prop) (x1 x4 x5 x10 : Value) (H : Heap) : Prop :=
  bnd (binV .int .add x10 (.int .i64 1)) fun v37 =>
  S x1 x4 x5 v37 H
theorem sounderlaw04_bits_g74_e (S : Value → Value → Value → Value → Heap → Prop) (x : Nat → Value) (H : Heap) : wpE tab P sounderlaw04_bits_pi sounderlaw04_bits_c46 (nQ fun l H => S (l.getD 1 undef) (l.getD 4 undef) (l.getD 5 undef) (l.getD 10 undef) H) ((List.range 41).map x) H = sounderlaw04_bits_g74 S (x 1) (x 4) (x 5) (x 10) H := by kernel_rfl
def sounderlaw04_bits_g75 (S : Value → Heap → Prop) (x4 x5 : Value) (H : Heap) : Prop :=
  bnd (ldE true 101 x5 H) fun v40 =>
  bnd (stE 101 x4 v40 H) fun H1 =>
  S x4 H1
theorem sounderlaw04_bits_g75_e (S : Value → Heap → Prop) (x : Nat → Value) (H : Heap) : wpE tab P sounderlaw04_bits_pi sounderlaw04_bits_c48 (nQ fun l H => S (l.getD 4 undef) H) ((List.range 41).map x) H = sounderlaw04_bits_g75 S (x 4) (x 5) H := by kernel_rfl
def sounderlaw04_bits_s71 (x1 x4 x5 x10 : Value) (K3 : Value → Value → Value → Value →  Heap → Prop) (R : Value → Heap → Prop) (H : Heap) : Prop :=
  sounderlaw04_bits_g72 (fun x1 x4 x5 x10 x35 H => brV x35
  (sounderlaw04_bits_g73 (fun x1 x4 x5 x10 H => sounderlaw04_bits_g74 (fun x1 x4 x5 x10 H => K3 x1 x4 x5 x10 H) x1 x4 x5 x10 H) x1 x4 x5 x10 H)
  (sounderlaw04_bits_g75 (fun x4 H => bnd (ldE true 101 x4 H) fun r0 =>
  R r0 H) x4 x5 H)) x1 x4 x5 x10 H
noncomputable def sounderlaw04_bits_q76 (R : Value → Heap → Prop) : Exit → List Value → Heap → Prop := (thenE (fun l H => wpE tab P sounderlaw04_bits_pi sounderlaw04_bits_c47 (sounderlaw04_bits_q61 R) l H) (sounderlaw04_bits_q61 R))
noncomputable def sounderlaw04_bits_q77 (R : Value → Heap → Prop) : Exit → List Value → Heap → Prop := (blkE 4 (sounderlaw04_bits_q76 R))
noncomputable def sounderlaw04_bits_q78 (K3 : Value → Value → Value → Value →  Heap → Prop) (R : Value → Heap → Prop) : Exit → List Value → Heap → Prop := (thenE (fun l H => K3 (l.getD 1 undef) (l.getD 4 undef) (l.getD 5 undef) (l.getD 10 undef) H) (sounderlaw04_bits_q77 R))
theorem sounderlaw04_bits_s71_i (K3 : Value → Value → Value → Value →  Heap → Prop) (R : Value → Heap → Prop) (l : List Value) (H : Heap) (hl : l.length = 41) (h : sounderlaw04_bits_s71 (l.getD 1 undef) (l.getD 4 undef) (l.getD 5 undef) (l.getD 10 undef) K3 R H) : wpE tab P sounderlaw04_bits_pi sounderlaw04_bits_c38 (sounderlaw04_bits_q78 K3 R) l H := by
  refine seqI (c := sounderlaw04_bits_c38) rfl ?_
  refine seqI (c := sounderlaw04_bits_c39) rfl ?_
  refine regI hl (Eq.mpr (sounderlaw04_bits_g72_e _ (fun i => l.getD i undef) _) h) ?_
  clear h hl
  intro l H hl h
  refine thenN ?_
  refine condI (c := sounderlaw04_bits_c41) rfl h ?_ ?_
  · clear h; intro h
    refine skipI rfl ?_
    refine thenN ?_
    refine seqI (c := sounderlaw04_bits_c43) rfl ?_
    refine blockI (c := sounderlaw04_bits_c44) rfl ?_
    refine regI hl (Eq.mpr (sounderlaw04_bits_g73_e _ (fun i => l.getD i undef) _) h) ?_
    clear h hl
    intro l H hl h
    refine blkN ?_
    refine thenN ?_
    refine regI hl (Eq.mpr (sounderlaw04_bits_g74_e _ (fun i => l.getD i undef) _) h) ?_
    clear h hl
    intro l H hl h
    refine thenN ?_
    exact h
  · clear h; intro h
    refine exitI (c := sounderlaw04_bits_c42) rfl ?_
    refine thenX ?_
    refine thenX ?_
    refine blkX ?_
    refine thenN ?_
    refine seqI (c := sounderlaw04_bits_c47) rfl ?_
    refine regI hl (Eq.mpr (sounderlaw04_bits_g75_e _ (fun i => l.getD i undef) _) h) ?_
    clear h hl
    intro l H hl h
    refine thenN ?_
    refine retI rfl ?_
    exact h
def sounderlaw04_bits_l79 (x1 x4 x5 x10 : Value) (R : Value → Heap → Prop) (H : Heap) : Prop :=
  ∃ (I : Value → Heap → Prop) (μ : Value → Heap → Nat), I x10 H ∧ ∀ (y10 : Value) (H : Heap), I y10 H → sounderlaw04_bits_s71 x1 x4 x5 y10 (fun z1 z4 z5 z10 H' => z1 = x1 ∧ z4 = x4 ∧ z5 = x5 ∧ (I z10 H' ∧ μ z10 H' < μ y10 H)) R H
def sounderlaw04_bits_s52 (x0 x1 x4 x5 x6 : Value) (K1 : Value → Value → Value → Value → Value →  Heap → Prop) (R : Value → Heap → Prop) (H : Heap) : Prop :=
  sounderlaw04_bits_g53 (fun x0 x1 x4 x5 x6 x14 H => brV x14
  (sounderlaw04_bits_g54 (fun x0 x1 x4 x5 x6 x7 x8 H => sounderlaw04_bits_g55 (fun x0 x1 x4 x5 x6 x8 x9 H => sounderlaw04_bits_l69 x0 x1 x4 x5 x6 x8 x9 K1 R H) x0 x1 x4 x5 x6 x7 x8 H) x0 x1 x4 x5 x6 H)
  (sounderlaw04_bits_g70 (fun x1 x4 x5 x10 H => sounderlaw04_bits_l79 x1 x4 x5 x10 R H) x1 x4 x5 H)) x0 x1 x4 x5 x6 H
theorem sounderlaw04_bits_s52_i (K1 : Value → Value → Value → Value → Value →  Heap → Prop) (R : Value → Heap → Prop) (l : List Value) (H : Heap) (hl : l.length = 41) (h : sounderlaw04_bits_s52 (l.getD 0 undef) (l.getD 1 undef) (l.getD 4 undef) (l.getD 5 undef) (l.getD 6 undef) K1 R H) : wpE tab P sounderlaw04_bits_pi sounderlaw04_bits_c10 (sounderlaw04_bits_q64 K1 R) l H := by
  refine seqI (c := sounderlaw04_bits_c10) rfl ?_
  refine seqI (c := sounderlaw04_bits_c11) rfl ?_
  refine regI hl (Eq.mpr (sounderlaw04_bits_g53_e _ (fun i => l.getD i undef) _) h) ?_
  clear h hl
  intro l H hl h
  refine thenN ?_
  refine condI (c := sounderlaw04_bits_c13) rfl h ?_ ?_
  · clear h; intro h
    refine skipI rfl ?_
    refine thenN ?_
    refine seqI (c := sounderlaw04_bits_c15) rfl ?_
    refine blockI (c := sounderlaw04_bits_c16) rfl ?_
    refine seqI (c := sounderlaw04_bits_c17) rfl ?_
    refine regI hl (Eq.mpr (sounderlaw04_bits_g54_e _ (fun i => l.getD i undef) _) h) ?_
    clear h hl
    intro l H hl h
    refine thenN ?_
    refine seqI (c := sounderlaw04_bits_c19) rfl ?_
    refine regI hl (Eq.mpr (sounderlaw04_bits_g55_e _ (fun i => l.getD i undef) _) h) ?_
    clear h hl
    intro l H hl h
    refine thenN ?_
    refine blockI (c := sounderlaw04_bits_c21) rfl ?_
    obtain ⟨I, μ, h0, hr⟩ := h
    refine loopI (c := sounderlaw04_bits_c22) rfl (fun l' H' => l'.getD 0 undef = l.getD 0 undef ∧ l'.getD 1 undef = l.getD 1 undef ∧ l'.getD 4 undef = l.getD 4 undef ∧ l'.getD 5 undef = l.getD 5 undef ∧ l'.getD 6 undef = l.getD 6 undef ∧ l'.getD 8 undef = l.getD 8 undef ∧ I (l'.getD 9 undef) H') (fun l' H' => μ (l'.getD 9 undef) H') hl ⟨rfl, rfl, rfl, rfl, rfl, rfl, h0⟩ ?_
    rintro l1 H1 hl1 ⟨e0, e1, e4, e5, e6, e8, hI⟩
    have hb := hr (l1.getD 9 undef) H1 hI
    rw [← e0, ← e1, ← e4, ← e5, ← e6, ← e8] at hb
    refine wpE_mono _ l1 H1 hl1 ?_ (sounderlaw04_bits_s56_i K1 _ R l1 H1 hl1 hb)
    intro e l2 H2 hl2 hq
    cases e with
    | normal => exact fun _ => (by obtain ⟨d0, d1, d4, d5, d6, d8, g1, g2⟩ := hq; exact ⟨⟨d0.trans e0, d1.trans e1, d4.trans e4, d5.trans e5, d6.trans e6, d8.trans e8, g1⟩, g2⟩)
    | _ => exact hq
  · clear h; intro h
    refine exitI (c := sounderlaw04_bits_c14) rfl ?_
    refine thenX ?_
    refine thenX ?_
    refine blkX ?_
    refine thenN ?_
    refine seqI (c := sounderlaw04_bits_c33) rfl ?_
    refine seqI (c := sounderlaw04_bits_c34) rfl ?_
    refine regI hl (Eq.mpr (sounderlaw04_bits_g70_e _ (fun i => l.getD i undef) _) h) ?_
    clear h hl
    intro l H hl h
    refine thenN ?_
    refine blockI (c := sounderlaw04_bits_c36) rfl ?_
    obtain ⟨I, μ, h0, hr⟩ := h
    refine loopI (c := sounderlaw04_bits_c37) rfl (fun l' H' => l'.getD 1 undef = l.getD 1 undef ∧ l'.getD 4 undef = l.getD 4 undef ∧ l'.getD 5 undef = l.getD 5 undef ∧ I (l'.getD 10 undef) H') (fun l' H' => μ (l'.getD 10 undef) H') hl ⟨rfl, rfl, rfl, h0⟩ ?_
    rintro l1 H1 hl1 ⟨e1, e4, e5, hI⟩
    have hb := hr (l1.getD 10 undef) H1 hI
    rw [← e1, ← e4, ← e5] at hb
    refine wpE_mono _ l1 H1 hl1 ?_ (sounderlaw04_bits_s71_i _ R l1 H1 hl1 hb)
    intro e l2 H2 hl2 hq
    cases e with
    | normal => exact fun _ => (by obtain ⟨d1, d4, d5, g1, g2⟩ := hq; exact ⟨⟨d1.trans e1, d4.trans e4, d5.trans e5, g1⟩, g2⟩)
    | _ => exact hq
def sounderlaw04_bits_l80 (x0 x1 x4 x5 x6 : Value) (R : Value → Heap → Prop) (H : Heap) : Prop :=
  ∃ (I : Value → Heap → Prop) (μ : Value → Heap → Nat), I x6 H ∧ ∀ (y6 : Value) (H : Heap), I y6 H → sounderlaw04_bits_s52 x0 x1 x4 x5 y6 (fun z0 z1 z4 z5 z6 H' => z0 = x0 ∧ z1 = x1 ∧ z4 = x4 ∧ z5 = x5 ∧ (I z6 H' ∧ μ z6 H' < μ y6 H)) R H
def sounderlaw04_bits (x0 x1 : Value) (R : Value → Heap → Prop) (H : Heap) : Prop :=
  sounderlaw04_bits_g49 (fun x0 x1 x4 H => sounderlaw04_bits_g50 (fun x0 x1 x4 x5 H => sounderlaw04_bits_g51 (fun x0 x1 x4 x5 x6 H => sounderlaw04_bits_l80 x0 x1 x4 x5 x6 R H) x0 x1 x4 x5 H) x0 x1 x4 H) x0 x1 H
theorem sounderlaw04_bits_i (R : Value → Heap → Prop) (x0 x1 : Value) (H : Heap) (h : sounderlaw04_bits x0 x1 R H) : wpE tab P sounderlaw04_bits_pi sounderlaw04_bits_c1 (retQ tab sounderlaw04_bits_rs R) [x0, x1, undef, undef, undef, undef, undef, undef, undef, undef, undef, undef, undef, undef, undef, undef, undef, undef, undef, undef, undef, undef, undef, undef, undef, undef, undef, undef, undef, undef, undef, undef, undef, undef, undef, undef, undef, undef, undef, undef, undef] H := by
  obtain ⟨l, hl, el⟩ : ∃ l : List Value, l.length = 41 ∧ l = [x0, x1, undef, undef, undef, undef, undef, undef, undef, undef, undef, undef, undef, undef, undef, undef, undef, undef, undef, undef, undef, undef, undef, undef, undef, undef, undef, undef, undef, undef, undef, undef, undef, undef, undef, undef, undef, undef, undef, undef, undef] := ⟨_, rfl, rfl⟩
  rw [← el]
  have h : (fun (x0 x1 : Value) => sounderlaw04_bits_g49 (fun x0 x1 x4 H => sounderlaw04_bits_g50 (fun x0 x1 x4 x5 H => sounderlaw04_bits_g51 (fun x0 x1 x4 x5 x6 H => sounderlaw04_bits_l80 x0 x1 x4 x5 x6 R H) x0 x1 x4 x5 H) x0 x1 x4 H) x0 x1 H) (l.getD 0 undef) (l.getD 1 undef) := by rw [el]; exact h
  clear el
  refine seqI (c := sounderlaw04_bits_c1) rfl ?_
  refine regI hl (Eq.mpr (sounderlaw04_bits_g49_e _ (fun i => l.getD i undef) _) h) ?_
  clear h hl
  intro l H hl h
  refine thenN ?_
  refine seqI (c := sounderlaw04_bits_c3) rfl ?_
  refine regI hl (Eq.mpr (sounderlaw04_bits_g50_e _ (fun i => l.getD i undef) _) h) ?_
  clear h hl
  intro l H hl h
  refine thenN ?_
  refine seqI (c := sounderlaw04_bits_c5) rfl ?_
  refine seqI (c := sounderlaw04_bits_c6) rfl ?_
  refine regI hl (Eq.mpr (sounderlaw04_bits_g51_e _ (fun i => l.getD i undef) _) h) ?_
  clear h hl
  intro l H hl h
  refine thenN ?_
  refine blockI (c := sounderlaw04_bits_c8) rfl ?_
  obtain ⟨I, μ, h0, hr⟩ := h
  refine loopI (c := sounderlaw04_bits_c9) rfl (fun l' H' => l'.getD 0 undef = l.getD 0 undef ∧ l'.getD 1 undef = l.getD 1 undef ∧ l'.getD 4 undef = l.getD 4 undef ∧ l'.getD 5 undef = l.getD 5 undef ∧ I (l'.getD 6 undef) H') (fun l' H' => μ (l'.getD 6 undef) H') hl ⟨rfl, rfl, rfl, rfl, h0⟩ ?_
  rintro l1 H1 hl1 ⟨e0, e1, e4, e5, hI⟩
  have hb := hr (l1.getD 6 undef) H1 hI
  rw [← e0, ← e1, ← e4, ← e5] at hb
  refine wpE_mono _ l1 H1 hl1 ?_ (sounderlaw04_bits_s52_i _ R l1 H1 hl1 hb)
  intro e l2 H2 hl2 hq
  cases e with
  | normal => exact fun _ => (by obtain ⟨d0, d1, d4, d5, g1, g2⟩ := hq; exact ⟨⟨d0.trans e0, d1.trans e1, d4.trans e4, d5.trans e5, g1⟩, g2⟩)
  | _ => exact hq
theorem sounderlaw04_bits_ok : okB sounderlaw04_bits_pi sounderlaw04_bits_c1 = true := by kernel_rfl
theorem sounderlaw04_bits_ev0 (x0 x1 : Value) (R : Value → Heap → Prop) (H : Heap) (h : sounderlaw04_bits x0 x1 R H) : EvL P N.sounderlaw04_bits #[x0, x1] H R :=
  EvF_intro (args := [x0, x1]) (k := 39) (rs := sounderlaw04_bits_rs) tab_ok mixed Try.func20 (show Try.f20.body = some sounderlaw04_bits_c1 by kernel_rfl) Try.call20 Try.ntmps20 (by kernel_rfl) (okCode_of _ sounderlaw04_bits_ok) rfl (sounderlaw04_bits_i R x0 x1 H h)
theorem sounderlaw04_bits_ev (x0 x1 : Value) (R : Value → Heap → Prop) (H : Heap) (h : sounderlaw04_bits x0 x1 R H) : EvF P N.sounderlaw04_bits #[x0, x1] H R := .inl (sounderlaw04_bits_ev0 x0 x1 R H h)
/- 21: sounder/sounderlaw04.is -/
def sounderlaw04_is_rs : List ResultVar := [.tmp 4]
noncomputable def sounderlaw04_is_c2 : Code := subC (bodyC Try.f21) [0]
noncomputable def sounderlaw04_is_c4 : Code := subC (bodyC Try.f21) [1, 0]
noncomputable def sounderlaw04_is_c6 : Code := subC (bodyC Try.f21) [1, 1, 0]
noncomputable def sounderlaw04_is_c9 : Code := subC (bodyC Try.f21) [1, 1, 1, 0, 0]
noncomputable def sounderlaw04_is_c14 : Code := subC (bodyC Try.f21) [1, 1, 1, 0, 1, 0, 0, 0, 0]
noncomputable def sounderlaw04_is_c16 : Code := .exit 0
noncomputable def sounderlaw04_is_c15 : Code := .cond (.tmp 17) Code.skip sounderlaw04_is_c16
noncomputable def sounderlaw04_is_c13 : Code := .seq sounderlaw04_is_c14 sounderlaw04_is_c15
noncomputable def sounderlaw04_is_c21 : Code := subC (bodyC Try.f21) [1, 1, 1, 0, 1, 0, 0, 1, 0, 0, 0, 0]
noncomputable def sounderlaw04_is_c24 : Code := subC (bodyC Try.f21) [1, 1, 1, 0, 1, 0, 0, 1, 0, 0, 0, 1, 0, 0]
noncomputable def sounderlaw04_is_c23 : Code := .seq sounderlaw04_is_c24 Code.ret
noncomputable def sounderlaw04_is_c22 : Code := .cond (.tmp 48) sounderlaw04_is_c23 Code.skip
noncomputable def sounderlaw04_is_c20 : Code := .seq sounderlaw04_is_c21 sounderlaw04_is_c22
noncomputable def sounderlaw04_is_c26 : Code := subC (bodyC Try.f21) [1, 1, 1, 0, 1, 0, 0, 1, 0, 0, 1, 0]
noncomputable def sounderlaw04_is_c28 : Code := subC (bodyC Try.f21) [1, 1, 1, 0, 1, 0, 0, 1, 0, 0, 1, 1, 0]
noncomputable def sounderlaw04_is_c33 : Code := subC (bodyC Try.f21) [1, 1, 1, 0, 1, 0, 0, 1, 0, 0, 1, 1, 1, 0, 0, 0, 0]
noncomputable def sounderlaw04_is_c35 : Code := .exit 2
noncomputable def sounderlaw04_is_c34 : Code := .cond (.tmp 65) Code.skip sounderlaw04_is_c35
noncomputable def sounderlaw04_is_c32 : Code := .seq sounderlaw04_is_c33 sounderlaw04_is_c34
noncomputable def sounderlaw04_is_c40 : Code := subC (bodyC Try.f21) [1, 1, 1, 0, 1, 0, 0, 1, 0, 0, 1, 1, 1, 0, 0, 1, 0, 0, 0, 0]
noncomputable def sounderlaw04_is_c43 : Code := subC (bodyC Try.f21) [1, 1, 1, 0, 1, 0, 0, 1, 0, 0, 1, 1, 1, 0, 0, 1, 0, 0, 0, 1, 0, 0]
noncomputable def sounderlaw04_is_c42 : Code := .seq sounderlaw04_is_c43 Code.ret
noncomputable def sounderlaw04_is_c41 : Code := .cond (.tmp 75) sounderlaw04_is_c42 Code.skip
noncomputable def sounderlaw04_is_c39 : Code := .seq sounderlaw04_is_c40 sounderlaw04_is_c41
noncomputable def sounderlaw04_is_c44 : Code := subC (bodyC Try.f21) [1, 1, 1, 0, 1, 0, 0, 1, 0, 0, 1, 1, 1, 0, 0, 1, 0, 0, 1]
noncomputable def sounderlaw04_is_c38 : Code := .seq sounderlaw04_is_c39 sounderlaw04_is_c44
noncomputable def sounderlaw04_is_c37 : Code := .block 3 sounderlaw04_is_c38
noncomputable def sounderlaw04_is_c45 : Code := subC (bodyC Try.f21) [1, 1, 1, 0, 1, 0, 0, 1, 0, 0, 1, 1, 1, 0, 0, 1, 1]
noncomputable def sounderlaw04_is_c36 : Code := .seq sounderlaw04_is_c37 sounderlaw04_is_c45
noncomputable def sounderlaw04_is_c31 : Code := .seq sounderlaw04_is_c32 sounderlaw04_is_c36
noncomputable def sounderlaw04_is_c30 : Code := .loop sounderlaw04_is_c31
noncomputable def sounderlaw04_is_c29 : Code := .block 2 sounderlaw04_is_c30
noncomputable def sounderlaw04_is_c27 : Code := .seq sounderlaw04_is_c28 sounderlaw04_is_c29
noncomputable def sounderlaw04_is_c25 : Code := .seq sounderlaw04_is_c26 sounderlaw04_is_c27
noncomputable def sounderlaw04_is_c19 : Code := .seq sounderlaw04_is_c20 sounderlaw04_is_c25
noncomputable def sounderlaw04_is_c18 : Code := .block 1 sounderlaw04_is_c19
noncomputable def sounderlaw04_is_c46 : Code := subC (bodyC Try.f21) [1, 1, 1, 0, 1, 0, 0, 1, 1]
noncomputable def sounderlaw04_is_c17 : Code := .seq sounderlaw04_is_c18 sounderlaw04_is_c46
noncomputable def sounderlaw04_is_c12 : Code := .seq sounderlaw04_is_c13 sounderlaw04_is_c17
noncomputable def sounderlaw04_is_c11 : Code := .loop sounderlaw04_is_c12
noncomputable def sounderlaw04_is_c10 : Code := .block 0 sounderlaw04_is_c11
noncomputable def sounderlaw04_is_c8 : Code := .seq sounderlaw04_is_c9 sounderlaw04_is_c10
noncomputable def sounderlaw04_is_c49 : Code := subC (bodyC Try.f21) [1, 1, 1, 1, 0, 0]
noncomputable def sounderlaw04_is_c54 : Code := subC (bodyC Try.f21) [1, 1, 1, 1, 0, 1, 0, 0, 0, 0]
noncomputable def sounderlaw04_is_c56 : Code := .exit 4
noncomputable def sounderlaw04_is_c55 : Code := .cond (.tmp 79) Code.skip sounderlaw04_is_c56
noncomputable def sounderlaw04_is_c53 : Code := .seq sounderlaw04_is_c54 sounderlaw04_is_c55
noncomputable def sounderlaw04_is_c60 : Code := subC (bodyC Try.f21) [1, 1, 1, 1, 0, 1, 0, 0, 1, 0, 0, 0]
noncomputable def sounderlaw04_is_c66 : Code := subC (bodyC Try.f21) [1, 1, 1, 1, 0, 1, 0, 0, 1, 0, 0, 1, 0, 0, 0, 0, 0]
noncomputable def sounderlaw04_is_c68 : Code := .exit 6
noncomputable def sounderlaw04_is_c67 : Code := .cond (.tmp 90) Code.skip sounderlaw04_is_c68
noncomputable def sounderlaw04_is_c65 : Code := .seq sounderlaw04_is_c66 sounderlaw04_is_c67
noncomputable def sounderlaw04_is_c70 : Code := subC (bodyC Try.f21) [1, 1, 1, 1, 0, 1, 0, 0, 1, 0, 0, 1, 0, 0, 0, 1, 0]
noncomputable def sounderlaw04_is_c69 : Code := .block 7 sounderlaw04_is_c70
noncomputable def sounderlaw04_is_c64 : Code := .seq sounderlaw04_is_c65 sounderlaw04_is_c69
noncomputable def sounderlaw04_is_c63 : Code := .loop sounderlaw04_is_c64
noncomputable def sounderlaw04_is_c62 : Code := .block 6 sounderlaw04_is_c63
noncomputable def sounderlaw04_is_c73 : Code := subC (bodyC Try.f21) [1, 1, 1, 1, 0, 1, 0, 0, 1, 0, 0, 1, 1, 0, 0]
noncomputable def sounderlaw04_is_c76 : Code := subC (bodyC Try.f21) [1, 1, 1, 1, 0, 1, 0, 0, 1, 0, 0, 1, 1, 0, 1, 0, 0]
noncomputable def sounderlaw04_is_c75 : Code := .seq sounderlaw04_is_c76 Code.ret
noncomputable def sounderlaw04_is_c74 : Code := .cond (.tmp 107) sounderlaw04_is_c75 Code.skip
noncomputable def sounderlaw04_is_c72 : Code := .seq sounderlaw04_is_c73 sounderlaw04_is_c74
noncomputable def sounderlaw04_is_c77 : Code := subC (bodyC Try.f21) [1, 1, 1, 1, 0, 1, 0, 0, 1, 0, 0, 1, 1, 1]
noncomputable def sounderlaw04_is_c71 : Code := .seq sounderlaw04_is_c72 sounderlaw04_is_c77
noncomputable def sounderlaw04_is_c61 : Code := .seq sounderlaw04_is_c62 sounderlaw04_is_c71
noncomputable def sounderlaw04_is_c59 : Code := .seq sounderlaw04_is_c60 sounderlaw04_is_c61
noncomputable def sounderlaw04_is_c58 : Code := .block 5 sounderlaw04_is_c59
noncomputable def sounderlaw04_is_c78 : Code := subC (bodyC Try.f21) [1, 1, 1, 1, 0, 1, 0, 0, 1, 1]
noncomputable def sounderlaw04_is_c57 : Code := .seq sounderlaw04_is_c58 sounderlaw04_is_c78
noncomputable def sounderlaw04_is_c52 : Code := .seq sounderlaw04_is_c53 sounderlaw04_is_c57
noncomputable def sounderlaw04_is_c51 : Code := .loop sounderlaw04_is_c52
noncomputable def sounderlaw04_is_c50 : Code := .block 4 sounderlaw04_is_c51
noncomputable def sounderlaw04_is_c48 : Code := .seq sounderlaw04_is_c49 sounderlaw04_is_c50
noncomputable def sounderlaw04_is_c80 : Code := subC (bodyC Try.f21) [1, 1, 1, 1, 1, 0]
noncomputable def sounderlaw04_is_c79 : Code := .seq sounderlaw04_is_c80 Code.ret
noncomputable def sounderlaw04_is_c47 : Code := .seq sounderlaw04_is_c48 sounderlaw04_is_c79
noncomputable def sounderlaw04_is_c7 : Code := .seq sounderlaw04_is_c8 sounderlaw04_is_c47
noncomputable def sounderlaw04_is_c5 : Code := .seq sounderlaw04_is_c6 sounderlaw04_is_c7
noncomputable def sounderlaw04_is_c3 : Code := .seq sounderlaw04_is_c4 sounderlaw04_is_c5
noncomputable def sounderlaw04_is_c1 : Code := .seq sounderlaw04_is_c2 sounderlaw04_is_c3
def sounderlaw04_is_pi (i : Nat) : Pl := match i with
  | 6 => (ones [0, 1, 2, 3, 4, 5, 6, 7, 8, 9, 10, 11, 12, 13, 14, 15, 16, 17, 18, 19, 20, 21, 22, 23, 24, 25, 26, 27, 28] .nil)
  | 21 => (ones [0, 1, 3, 4, 5, 6, 2, 7, 8, 9, 10, 12, 11, 13, 14] .nil)
  | _ => .nil
def sounderlaw04_is_g81 (S : Value → Value → Heap → Prop) (x0 x1 : Value) (H : Heap) : Prop :=
  newE 40 (Value.cells x1) H fun v3 H1 =>
  S x0 v3 H1
theorem sounderlaw04_is_g81_e (S : Value → Value → Heap → Prop) (x : Nat → Value) (H : Heap) : wpE tab P sounderlaw04_is_pi sounderlaw04_is_c2 (nQ fun l H => S (l.getD 0 undef) (l.getD 3 undef) H) ((List.range 115).map x) H = sounderlaw04_is_g81 S (x 0) (x 1) H := by kernel_rfl
def sounderlaw04_is_g82 (S : Value → Value → Value → Heap → Prop) (x0 x3 : Value) (H : Heap) : Prop :=
  EvF P N.span_Set_Ranges #[x0] H fun v13 H1 =>
  S x0 x3 v13 H1
theorem sounderlaw04_is_g82_e (S : Value → Value → Value → Heap → Prop) (x : Nat → Value) (H : Heap) : wpE tab P sounderlaw04_is_pi sounderlaw04_is_c4 (nQ fun l H => S (l.getD 0 undef) (l.getD 3 undef) (l.getD 5 undef) H) ((List.range 115).map x) H = sounderlaw04_is_g82 S (x 0) (x 3) H := by kernel_rfl
def sounderlaw04_is_g83 (S : Value → Value → Value → Value → Value → Heap → Prop) (x0 x3 x5 : Value) (H : Heap) : Prop :=
  S x0 x3 x5 (.int .i64 0) (.int .i64 200) H
theorem sounderlaw04_is_g83_e (S : Value → Value → Value → Value → Value → Heap → Prop) (x : Nat → Value) (H : Heap) : wpE tab P sounderlaw04_is_pi sounderlaw04_is_c6 (nQ fun l H => S (l.getD 0 undef) (l.getD 3 undef) (l.getD 5 undef) (l.getD 6 undef) (l.getD 7 undef) H) ((List.range 115).map x) H = sounderlaw04_is_g83 S (x 0) (x 3) (x 5) H := by kernel_rfl
def sounderlaw04_is_g84 (S : Value → Value → Value → Value → Value → Value → Heap → Prop) (x0 x3 x5 x6 x7 : Value) (H : Heap) : Prop :=
  S x0 x3 x5 x6 x7 (.int .i64 0) H
theorem sounderlaw04_is_g84_e (S : Value → Value → Value → Value → Value → Value → Heap → Prop) (x : Nat → Value) (H : Heap) : wpE tab P sounderlaw04_is_pi sounderlaw04_is_c9 (nQ fun l H => S (l.getD 0 undef) (l.getD 3 undef) (l.getD 5 undef) (l.getD 6 undef) (l.getD 7 undef) (l.getD 8 undef) H) ((List.range 115).map x) H = sounderlaw04_is_g84 S (x 0) (x 3) (x 5) (x 6) (x 7) H := by kernel_rfl
def sounderlaw04_is_g86 (S : Value → Value → Value → Value → Value → Value → Value → Heap → Prop) (x0 x3 x5 x6 x7 x8 : Value) (H : Heap) : Prop :=
  bnd (lenV x5) fun v16 =>
  bnd (binV .int .lss x8 v16) fun v17 =>
  S x0 x3 x5 x6 x7 x8 v17 H
theorem sounderlaw04_is_g86_e (S : Value → Value → Value → Value → Value → Value → Value → Heap → Prop) (x : Nat → Value) (H : Heap) : wpE tab P sounderlaw04_is_pi sounderlaw04_is_c14 (nQ fun l H => S (l.getD 0 undef) (l.getD 3 undef) (l.getD 5 undef) (l.getD 6 undef) (l.getD 7 undef) (l.getD 8 undef) (l.getD 17 undef) H) ((List.range 115).map x) H = sounderlaw04_is_g86 S (x 0) (x 3) (x 5) (x 6) (x 7) (x 8) H := by kernel_rfl
def sounderlaw04_is_g87 (S : Value → Value → Value → Value → Value → Value → Heap → Prop) (x0 x3 x5 x6 x7 x8 : Value) (H : Heap) : Prop :=
  bnd (ixSV 2 x5 x8) fun v22 =>
  bnd (faV 0 v22) fun v23 =>
  bnd (ldE false 1 v23 H) fun v24 =>
  bnd (ixSV 2 x5 x8) fun v27 =>
  bnd (faV 1 v27) fun v28 =>
  bnd (ldE false 1 v28 H) fun v29 =>
  bnd (binV .int .gtr v24 v29) fun v30 =>
  brV v30
  (S x0 x3 x5 x6 x8 (.bool true) H)
  (bnd (ixSV 2 x5 x8) fun v34 =>
  bnd (faV 1 v34) fun v35 =>
  bnd (ldE false 1 v35 H) fun v36 =>
  bnd (binV .int .sub x7 (.int .i64 1)) fun v38 =>
  bnd (binV .int .geq v36 v38) fun v39 =>
  brV v39
  (S x0 x3 x5 x6 x8 (.bool true) H)
  (bnd (ixSV 2 x5 x8) fun v44 =>
  bnd (faV 0 v44) fun v45 =>
  bnd (ldE false 1 v45 H) fun v46 =>
  bnd (binV .int .lss v46 (.int .i64 0)) fun v47 =>
  S x0 x3 x5 x6 x8 v47 H))
theorem sounderlaw04_is_g87_e (S : Value → Value → Value → Value → Value → Value → Heap → Prop) (x : Nat → Value) (H : Heap) : wpE tab P sounderlaw04_is_pi sounderlaw04_is_c21 (nQ fun l H => S (l.getD 0 undef) (l.getD 3 undef) (l.getD 5 undef) (l.getD 6 undef) (l.getD 8 undef) (l.getD 48 undef) H) ((List.range 115).map x) H = sounderlaw04_is_g87 S (x 0) (x 3) (x 5) (x 6) (x 7) (x 8) H := by kernel_rfl
def sounderlaw04_is_g88 (S : Value → Heap → Prop) (H : Heap) : Prop :=
  S (.bool false) H
theorem sounderlaw04_is_g88_e (S : Value → Heap → Prop) (x : Nat → Value) (H : Heap) : wpE tab P sounderlaw04_is_pi sounderlaw04_is_c24 (nQ fun l H => S (l.getD 4 undef) H) ((List.range 115).map x) H = sounderlaw04_is_g88 S  H := by kernel_rfl
def sounderlaw04_is_g89 (S : Value → Value → Value → Value → Value → Value → Heap → Prop) (x0 x3 x5 x6 x8 : Value) (H : Heap) : Prop :=
  bnd (ixSV 2 x5 x8) fun v51 =>
  bnd (faV 0 v51) fun v52 =>
  bnd (ldE false 1 v52 H) fun v53 =>
  S x0 x3 x5 x6 v53 x8 H
theorem sounderlaw04_is_g89_e (S : Value → Value → Value → Value → Value → Value → Heap → Prop) (x : Nat → Value) (H : Heap) : wpE tab P sounderlaw04_is_pi sounderlaw04_is_c26 (nQ fun l H => S (l.getD 0 undef) (l.getD 3 undef) (l.getD 5 undef) (l.getD 6 undef) (l.getD 7 undef) (l.getD 8 undef) H) ((List.range 115).map x) H = sounderlaw04_is_g89 S (x 0) (x 3) (x 5) (x 6) (x 8) H := by kernel_rfl
def sounderlaw04_is_g90 (S : Value → Value → Value → Value → Value → Value → Value → Heap → Prop) (x0 x3 x5 x6 x7 x8 : Value) (H : Heap) : Prop :=
  bnd (ixSV 2 x5 x8) fun v56 =>
  bnd (faV 0 v56) fun v57 =>
  bnd (ldE false 1 v57 H) fun v58 =>
  S x0 x3 x5 x6 x7 x8 v58 H
theorem sounderlaw04_is_g90_e (S : Value → Value → Value → Value → Value → Value → Value → Heap → Prop) (x : Nat → Value) (H : Heap) : wpE tab P sounderlaw04_is_pi sounderlaw04_is_c28 (nQ fun l H => S (l.getD 0 undef) (l.getD 3 undef) (l.getD 5 undef) (l.getD 6 undef) (l.getD 7 undef) (l.getD 8 undef) (l.getD 9 undef) H) ((List.range 115).map x) H = sounderlaw04_is_g90 S (x 0) (x 3) (x 5) (x 6) (x 7) (x 8) H := by kernel_rfl
def sounderlaw04_is_g92 (S : Value → Value → Value → Value → Value → Value → Value → Value → Heap → Prop) (x0 x3 x5 x6 x7 x8 x9 : Value) (H : Heap) : Prop :=
  bnd (ixSV 2 x5 x8) fun v62 =>
  bnd (faV 1 v62) fun v63 =>
  bnd (ldE false 1 v63 H) fun v64 =>
  bnd (binV .int .leq x9 v64) fun v65 =>
  S x0 x3 x5 x6 x7 x8 x9 v65 H
theorem sounderlaw04_is_g92_e (S : Value → Value → Value → Value → Value → Value → Value → Value → Heap → Prop) (x : Nat → Value) (H : Heap) : wpE tab P sounderlaw04_is_pi sounderlaw04_is_c33 (nQ fun l H => S (l.getD 0 undef) (l.getD 3 undef) (l.getD 5 undef) (l.getD 6 undef) (l.getD 7 undef) (l.getD 8 undef) (l.getD 9 undef) (l.getD 65 undef) H) ((List.range 115).map x) H = sounderlaw04_is_g92 S (x 0) (x 3) (x 5) (x 6) (x 7) (x 8) (x 9) H := by kernel_rfl
def sounderlaw04_is_g93 (S : Value → Value → Value → Value → Value → Value → Value → Value → Heap → Prop) (x0 x3 x5 x6 x7 x8 x9 : Value) (H : Heap) : Prop :=
  bnd (binV .int .gtr x9 (.int .i64 100)) fun v69 =>
  brV v69
  (S x0 x3 x5 x6 x7 x8 x9 (.bool true) H)
  (bnd (ixAV 1 101 x3 x9) fun v72 =>
  bnd (ldE false 1 v72 H) fun v73 =>
  bnd (binV .int .neq v73 (.int .i64 1)) fun v74 =>
  S x0 x3 x5 x6 x7 x8 x9 v74 H)
theorem sounderlaw04_is_g93_e (S : Value → Value → Value → Value → Value → Value → Value → Value → Heap → Prop) (x : Nat → Value) (H : Heap) : wpE tab P sounderlaw04_is_pi sounderlaw04_is_c40 (nQ fun l H => S (l.getD 0 undef) (l.getD 3 undef) (l.getD 5 undef) (l.getD 6 undef) (l.getD 7 undef) (l.getD 8 undef) (l.getD 9 undef) (l.getD 75 undef) H) ((List.range 115).map x) H = sounderlaw04_is_g93 S (x 0) (x 3) (x 5) (x 6) (x 7) (x 8) (x 9) H := by kernel_rfl
def sounderlaw04_is_g94 (S : Value → Heap → Prop) (H : Heap) : Prop :=
  S (.bool false) H
theorem sounderlaw04_is_g94_e (S : Value → Heap → Prop) (x : Nat → Value) (H : Heap) : wpE tab P sounderlaw04_is_pi sounderlaw04_is_c43 (nQ fun l H => S (l.getD 4 undef) H) ((List.range 115).map x) H = sounderlaw04_is_g94 S  H := by kernel_rfl
def sounderlaw04_is_g95 (S : Value → Value → Value → Value → Value → Value → Value → Heap → Prop) (x0 x3 x5 x6 x7 x8 x9 : Value) (H : Heap) : Prop :=
  bnd (binV .int .add x6 (.int .i64 1)) fun v77 =>
  S x0 x3 x5 v77 x7 x8 x9 H
theorem sounderlaw04_is_g95_e (S : Value → Value → Value → Value → Value → Value → Value → Heap → Prop) (x : Nat → Value) (H : Heap) : wpE tab P sounderlaw04_is_pi sounderlaw04_is_c44 (nQ fun l H => S (l.getD 0 undef) (l.getD 3 undef) (l.getD 5 undef) (l.getD 6 undef) (l.getD 7 undef) (l.getD 8 undef) (l.getD 9 undef) H) ((List.range 115).map x) H = sounderlaw04_is_g95 S (x 0) (x 3) (x 5) (x 6) (x 7) (x 8) (x 9) H := by kernel_rfl
def sounderlaw04_is_g96 (S : Value → Value → Value → Value → Value → Value → Value → Heap → Prop) (x0 x3 x5 x6 x7 x8 x9 : Value) (H : Heap) : Prop :=
  bnd (binV .int .add x9 (.int .i64 1)) fun v67 =>
  S x0 x3 x5 x6 x7 x8 v67 H
theorem sounderlaw04_is_g96_e (S : Value → Value → Value → Value → Value → Value → Value → Heap → Prop) (x : Nat → Value) (H : Heap) : wpE tab P sounderlaw04_is_pi sounderlaw04_is_c45 (nQ fun l H => S (l.getD 0 undef) (l.getD 3 undef) (l.getD 5 undef) (l.getD 6 undef) (l.getD 7 undef) (l.getD 8 undef) (l.getD 9 undef) H) ((List.range 115).map x) H = sounderlaw04_is_g96 S (x 0) (x 3) (x 5) (x 6) (x 7) (x 8) (x 9) H := by kernel_rfl
def sounderlaw04_is_g97 (S : Value → Value → Value → Value → Value → Value → Heap → Prop) (x0 x3 x5 x6 x7 x8 : Value) (H : Heap) : Prop :=
  bnd (binV .int .add x8 (.int .i64 1)) fun v19 =>
  S x0 x3 x5 x6 x7 v19 H
theorem sounderlaw04_is_g97_e (S : Value → Value → Value → Value → Value → Value → Heap → Prop) (x : Nat → Value) (H : Heap) : wpE tab P sounderlaw04_is_pi sounderlaw04_is_c46 (nQ fun l H => S (l.getD 0 undef) (l.getD 3 undef) (l.getD 5 undef) (l.getD 6 undef) (l.getD 7 undef) (l.getD 8 undef) H) ((List.range 115).map x) H = sounderlaw04_is_g97 S (x 0) (x 3) (x 5) (x 6) (x 7) (x 8) H := by kernel_rfl
def sounderlaw04_is_s91 (x0 x3 x5 x6 x7 x8 x9 : Value) (K1 : Value → Value → Value → Value → Value → Value →  Heap → Prop) (K2 : Value → Value → Value → Value → Value → Value → Value →  Heap → Prop) (R : Value → Heap → Prop) (H : Heap) : Prop :=
  sounderlaw04_is_g92 (fun x0 x3 x5 x6 x7 x8 x9 x65 H => brV x65
  (sounderlaw04_is_g93 (fun x0 x3 x5 x6 x7 x8 x9 x75 H => brV x75
  (sounderlaw04_is_g94 (fun x4 H => R x4 H) H)
  (sounderlaw04_is_g95 (fun x0 x3 x5 x6 x7 x8 x9 H => sounderlaw04_is_g96 (fun x0 x3 x5 x6 x7 x8 x9 H => K2 x0 x3 x5 x6 x7 x8 x9 H) x0 x3 x5 x6 x7 x8 x9 H) x0 x3 x5 x6 x7 x8 x9 H)) x0 x3 x5 x6 x7 x8 x9 H)
  (sounderlaw04_is_g97 (fun x0 x3 x5 x6 x7 x8 H => K1 x0 x3 x5 x6 x7 x8 H) x0 x3 x5 x6 x7 x8 H)) x0 x3 x5 x6 x7 x8 x9 H
noncomputable def sounderlaw04_is_q98 (R : Value → Heap → Prop) : Exit → List Value → Heap → Prop := (retQ tab sounderlaw04_is_rs R)
noncomputable def sounderlaw04_is_q99 (R : Value → Heap → Prop) : Exit → List Value → Heap → Prop := (thenE (fun l H => wpE tab P sounderlaw04_is_pi sounderlaw04_is_c47 (sounderlaw04_is_q98 R) l H) (sounderlaw04_is_q98 R))
noncomputable def sounderlaw04_is_q100 (R : Value → Heap → Prop) : Exit → List Value → Heap → Prop := (blkE 0 (sounderlaw04_is_q99 R))
noncomputable def sounderlaw04_is_q101 (K1 : Value → Value → Value → Value → Value → Value →  Heap → Prop) (R : Value → Heap → Prop) : Exit → List Value → Heap → Prop := (thenE (fun l H => K1 (l.getD 0 undef) (l.getD 3 undef) (l.getD 5 undef) (l.getD 6 undef) (l.getD 7 undef) (l.getD 8 undef) H) (sounderlaw04_is_q100 R))
noncomputable def sounderlaw04_is_q102 (K1 : Value → Value → Value → Value → Value → Value →  Heap → Prop) (R : Value → Heap → Prop) : Exit → List Value → Heap → Prop := (thenE (fun l H => wpE tab P sounderlaw04_is_pi sounderlaw04_is_c46 (sounderlaw04_is_q101 K1 R) l H) (sounderlaw04_is_q101 K1 R))
noncomputable def sounderlaw04_is_q103 (K1 : Value → Value → Value → Value → Value → Value →  Heap → Prop) (R : Value → Heap → Prop) : Exit → List Value → Heap → Prop := (blkE 1 (sounderlaw04_is_q102 K1 R))
noncomputable def sounderlaw04_is_q104 (K1 : Value → Value → Value → Value → Value → Value →  Heap → Prop) (R : Value → Heap → Prop) : Exit → List Value → Heap → Prop := (blkE 2 (sounderlaw04_is_q103 K1 R))
noncomputable def sounderlaw04_is_q105 (K1 : Value → Value → Value → Value → Value → Value →  Heap → Prop) (K2 : Value → Value → Value → Value → Value → Value → Value →  Heap → Prop) (R : Value → Heap → Prop) : Exit → List Value → Heap → Prop := (thenE (fun l H => K2 (l.getD 0 undef) (l.getD 3 undef) (l.getD 5 undef) (l.getD 6 undef) (l.getD 7 undef) (l.getD 8 undef) (l.getD 9 undef) H) (sounderlaw04_is_q104 K1 R))
theorem sounderlaw04_is_s91_i (K1 : Value → Value → Value → Value → Value → Value →  Heap → Prop) (K2 : Value → Value → Value → Value → Value → Value → Value →  Heap → Prop) (R : Value → Heap → Prop) (l : List Value) (H : Heap) (hl : l.length = 115) (h : sounderlaw04_is_s91 (l.getD 0 undef) (l.getD 3 undef) (l.getD 5 undef) (l.getD 6 undef) (l.getD 7 undef) (l.getD 8 undef) (l.getD 9 undef) K1 K2 R H) : wpE tab P sounderlaw04_is_pi sounderlaw04_is_c31 (sounderlaw04_is_q105 K1 K2 R) l H := by
  refine seqI (c := sounderlaw04_is_c31) rfl ?_
  refine seqI (c := sounderlaw04_is_c32) rfl ?_
  refine regI hl (Eq.mpr (sounderlaw04_is_g92_e _ (fun i => l.getD i undef) _) h) ?_
  clear h hl
  intro l H hl h
  refine thenN ?_
  refine condI (c := sounderlaw04_is_c34) rfl h ?_ ?_
  · clear h; intro h
    refine skipI rfl ?_
    refine thenN ?_
    refine seqI (c := sounderlaw04_is_c36) rfl ?_
    refine blockI (c := sounderlaw04_is_c37) rfl ?_
    refine seqI (c := sounderlaw04_is_c38) rfl ?_
    refine seqI (c := sounderlaw04_is_c39) rfl ?_
    refine regI hl (Eq.mpr (sounderlaw04_is_g93_e _ (fun i => l.getD i undef) _) h) ?_
    clear h hl
    intro l H hl h
    refine thenN ?_
    refine condI (c := sounderlaw04_is_c41) rfl h ?_ ?_
    · clear h; intro h
      refine seqI (c := sounderlaw04_is_c42) rfl ?_
      refine regI hl (Eq.mpr (sounderlaw04_is_g94_e _ (fun i => l.getD i undef) _) h) ?_
      clear h hl
      intro l H hl h
      refine thenN ?_
      refine retI rfl ?_
      refine thenR ?_
      refine blkR ?_
      refine thenR ?_
      refine thenR ?_
      refine blkR ?_
      refine blkR ?_
      refine thenR ?_
      refine thenR ?_
      refine blkR ?_
      refine thenR ?_
      exact h
    · clear h; intro h
      refine skipI rfl ?_
      refine thenN ?_
      refine regI hl (Eq.mpr (sounderlaw04_is_g95_e _ (fun i => l.getD i undef) _) h) ?_
      clear h hl
      intro l H hl h
      refine blkN ?_
      refine thenN ?_
      refine regI hl (Eq.mpr (sounderlaw04_is_g96_e _ (fun i => l.getD i undef) _) h) ?_
      clear h hl
      intro l H hl h
      refine thenN ?_
      exact h
  · clear h; intro h
    refine exitI (c := sounderlaw04_is_c35) rfl ?_
    refine thenX ?_
    refine thenX ?_
    refine blkX ?_
    refine blkN ?_
    refine thenN ?_
    refine regI hl (Eq.mpr (sounderlaw04_is_g97_e _ (fun i => l.getD i undef) _) h) ?_
    clear h hl
    intro l H hl h
    refine thenN ?_
    exact h
def sounderlaw04_is_l106 (x0 x3 x5 x6 x7 x8 x9 : Value) (K1 : Value → Value → Value → Value → Value → Value →  Heap → Prop) (R : Value → Heap → Prop) (H : Heap) : Prop :=
  ∃ (I : Value → Value → Heap → Prop) (μ : Value → Value → Heap → Nat), I x6 x9 H ∧ ∀ (y6 : Value) (y9 : Value) (H : Heap), I y6 y9 H → sounderlaw04_is_s91 x0 x3 x5 y6 x7 x8 y9 K1 (fun z0 z3 z5 z6 z7 z8 z9 H' => z0 = x0 ∧ z3 = x3 ∧ z5 = x5 ∧ z7 = x7 ∧ z8 = x8 ∧ (I z6 z9 H' ∧ μ z6 z9 H' < μ y6 y9 H)) R H
def sounderlaw04_is_g107 (S : Value → Value → Value → Value → Heap → Prop) (x0 x3 x6 : Value) (H : Heap) : Prop :=
  S x0 x3 x6 (.int .i64 0) H
theorem sounderlaw04_is_g107_e (S : Value → Value → Value → Value → Heap → Prop) (x : Nat → Value) (H : Heap) : wpE tab P sounderlaw04_is_pi sounderlaw04_is_c49 (nQ fun l H => S (l.getD 0 undef) (l.getD 3 undef) (l.getD 6 undef) (l.getD 10 undef) H) ((List.range 115).map x) H = sounderlaw04_is_g107 S (x 0) (x 3) (x 6) H := by kernel_rfl
def sounderlaw04_is_g109 (S : Value → Value → Value → Value → Value → Heap → Prop) (x0 x3 x6 x10 : Value) (H : Heap) : Prop :=
  bnd (binV .int .lss x10 (.int .i64 101)) fun v79 =>
  S x0 x3 x6 x10 v79 H
theorem sounderlaw04_is_g109_e (S : Value → Value → Value → Value → Value → Heap → Prop) (x : Nat → Value) (H : Heap) : wpE tab P sounderlaw04_is_pi sounderlaw04_is_c54 (nQ fun l H => S (l.getD 0 undef) (l.getD 3 undef) (l.getD 6 undef) (l.getD 10 undef) (l.getD 79 undef) H) ((List.range 115).map x) H = sounderlaw04_is_g109 S (x 0) (x 3) (x 6) (x 10) H := by kernel_rfl
def sounderlaw04_is_g110 (S : Value → Value → Value → Value → Value → Heap → Prop) (x0 x3 x6 x10 : Value) (H : Heap) : Prop :=
  S x0 x3 x6 x10 x10 H
theorem sounderlaw04_is_g110_e (S : Value → Value → Value → Value → Value → Heap → Prop) (x : Nat → Value) (H : Heap) : wpE tab P sounderlaw04_is_pi sounderlaw04_is_c60 (nQ fun l H => S (l.getD 0 undef) (l.getD 3 undef) (l.getD 6 undef) (l.getD 10 undef) (l.getD 11 undef) H) ((List.range 115).map x) H = sounderlaw04_is_g110 S (x 0) (x 3) (x 6) (x 10) H := by kernel_rfl
def sounderlaw04_is_g112 (S : Value → Value → Value → Value → Value → Value → Heap → Prop) (x0 x3 x6 x10 x11 : Value) (H : Heap) : Prop :=
  bnd (binV .int .lss x11 (.int .i64 101)) fun v84 =>
  brV v84
  (bnd (ixAV 1 101 x3 x11) fun v87 =>
  bnd (ldE false 1 v87 H) fun v88 =>
  bnd (binV .int .eql v88 (.int .i64 1)) fun v89 =>
  S x0 x3 x6 x10 x11 v89 H)
  (S x0 x3 x6 x10 x11 (.bool false) H)
theorem sounderlaw04_is_g112_e (S : Value → Value → Value → Value → Value → Value → Heap → Prop) (x : Nat → Value) (H : Heap) : wpE tab P sounderlaw04_is_pi sounderlaw04_is_c66 (nQ fun l H => S (l.getD 0 undef) (l.getD 3 undef) (l.getD 6 undef) (l.getD 10 undef) (l.getD 11 undef) (l.getD 90 undef) H) ((List.range 115).map x) H = sounderlaw04_is_g112 S (x 0) (x 3) (x 6) (x 10) (x 11) H := by kernel_rfl
def sounderlaw04_is_g113 (S : Value → Value → Value → Value → Value → Heap → Prop) (x0 x3 x6 x10 x11 : Value) (H : Heap) : Prop :=
  bnd (binV .int .add x11 (.int .i64 1)) fun v92 =>
  S x0 x3 x6 x10 v92 H
theorem sounderlaw04_is_g113_e (S : Value → Value → Value → Value → Value → Heap → Prop) (x : Nat → Value) (H : Heap) : wpE tab P sounderlaw04_is_pi sounderlaw04_is_c70 (nQ fun l H => S (l.getD 0 undef) (l.getD 3 undef) (l.getD 6 undef) (l.getD 10 undef) (l.getD 11 undef) H) ((List.range 115).map x) H = sounderlaw04_is_g113 S (x 0) (x 3) (x 6) (x 10) (x 11) H := by kernel_rfl
def sounderlaw04_is_g114 (S : Value → Value → Value → Value → Value → Heap → Prop) (x0 x3 x6 x10 x11 : Value) (H : Heap) : Prop :=
  bnd (ixAV 1 101 x3 x10) fun v97 =>
  bnd (ldE false 1 v97 H) fun v98 =>
  bnd (binV .int .eql v98 (.int .i64 1)) fun v99 =>
  EvF P N.span_Set_Has #[x0, x10] H fun v95 H1 =>
  ((bnd (ldE false 1 v97 H1) fun v' => v' = v98) ∧
  bnd (binV .bool .neq v95 v99) fun v100 =>
  brV v100
  (S x0 x3 x6 x10 (.bool true) H1)
  (EvF P N.span_Set_Next #[x0, x10] H1 fun v104 H2 =>
  ((bnd (ldE false 1 v97 H2) fun v' => v' = v98) ∧
  bnd (binV .int .neq v104 x11) fun v106 =>
  S x0 x3 x6 x10 v106 H2)))
theorem sounderlaw04_is_g114_e (S : Value → Value → Value → Value → Value → Heap → Prop) (x : Nat → Value) (H : Heap) : wpE tab P sounderlaw04_is_pi sounderlaw04_is_c73 (nQ fun l H => S (l.getD 0 undef) (l.getD 3 undef) (l.getD 6 undef) (l.getD 10 undef) (l.getD 107 undef) H) ((List.range 115).map x) H = sounderlaw04_is_g114 S (x 0) (x 3) (x 6) (x 10) (x 11) H := by kernel_rfl
def sounderlaw04_is_g115 (S : Value → Heap → Prop) (H : Heap) : Prop :=
  S (.bool false) H
theorem sounderlaw04_is_g115_e (S : Value → Heap → Prop) (x : Nat → Value) (H : Heap) : wpE tab P sounderlaw04_is_pi sounderlaw04_is_c76 (nQ fun l H => S (l.getD 4 undef) H) ((List.range 115).map x) H = sounderlaw04_is_g115 S  H := by kernel_rfl
def sounderlaw04_is_g116 (S : Value → Value → Value → Value → Heap → Prop) (x0 x3 x6 x10 : Value) (H : Heap) : Prop :=
  bnd (ixAV 1 101 x3 x10) fun v110 =>
  bnd (ldE false 1 v110 H) fun v111 =>
  bnd (binV .int .sub x6 v111) fun v112 =>
  S x0 x3 v112 x10 H
theorem sounderlaw04_is_g116_e (S : Value → Value → Value → Value → Heap → Prop) (x : Nat → Value) (H : Heap) : wpE tab P sounderlaw04_is_pi sounderlaw04_is_c77 (nQ fun l H => S (l.getD 0 undef) (l.getD 3 undef) (l.getD 6 undef) (l.getD 10 undef) H) ((List.range 115).map x) H = sounderlaw04_is_g116 S (x 0) (x 3) (x 6) (x 10) H := by kernel_rfl
def sounderlaw04_is_g117 (S : Value → Value → Value → Value → Heap → Prop) (x0 x3 x6 x10 : Value) (H : Heap) : Prop :=
  bnd (binV .int .add x10 (.int .i64 1)) fun v81 =>
  S x0 x3 x6 v81 H
theorem sounderlaw04_is_g117_e (S : Value → Value → Value → Value → Heap → Prop) (x : Nat → Value) (H : Heap) : wpE tab P sounderlaw04_is_pi sounderlaw04_is_c78 (nQ fun l H => S (l.getD 0 undef) (l.getD 3 undef) (l.getD 6 undef) (l.getD 10 undef) H) ((List.range 115).map x) H = sounderlaw04_is_g117 S (x 0) (x 3) (x 6) (x 10) H := by kernel_rfl
def sounderlaw04_is_s111 (x0 x3 x6 x10 x11 : Value) (K3 : Value → Value → Value → Value →  Heap → Prop) (K4 : Value → Value → Value → Value → Value →  Heap → Prop) (R : Value → Heap → Prop) (H : Heap) : Prop :=
  sounderlaw04_is_g112 (fun x0 x3 x6 x10 x11 x90 H => brV x90
  (sounderlaw04_is_g113 (fun x0 x3 x6 x10 x11 H => K4 x0 x3 x6 x10 x11 H) x0 x3 x6 x10 x11 H)
  (sounderlaw04_is_g114 (fun x0 x3 x6 x10 x107 H => brV x107
  (sounderlaw04_is_g115 (fun x4 H => R x4 H) H)
  (sounderlaw04_is_g116 (fun x0 x3 x6 x10 H => sounderlaw04_is_g117 (fun x0 x3 x6 x10 H => K3 x0 x3 x6 x10 H) x0 x3 x6 x10 H) x0 x3 x6 x10 H)) x0 x3 x6 x10 x11 H)) x0 x3 x6 x10 x11 H
noncomputable def sounderlaw04_is_q118 (R : Value → Heap → Prop) : Exit → List Value → Heap → Prop := (thenE (fun l H => wpE tab P sounderlaw04_is_pi sounderlaw04_is_c79 (sounderlaw04_is_q98 R) l H) (sounderlaw04_is_q98 R))
noncomputable def sounderlaw04_is_q119 (R : Value → Heap → Prop) : Exit → List Value → Heap → Prop := (blkE 4 (sounderlaw04_is_q118 R))
noncomputable def sounderlaw04_is_q120 (K3 : Value → Value → Value → Value →  Heap → Prop) (R : Value → Heap → Prop) : Exit → List Value → Heap → Prop := (thenE (fun l H => K3 (l.getD 0 undef) (l.getD 3 undef) (l.getD 6 undef) (l.getD 10 undef) H) (sounderlaw04_is_q119 R))
noncomputable def sounderlaw04_is_q121 (K3 : Value → Value → Value → Value →  Heap → Prop) (R : Value → Heap → Prop) : Exit → List Value → Heap → Prop := (thenE (fun l H => wpE tab P sounderlaw04_is_pi sounderlaw04_is_c78 (sounderlaw04_is_q120 K3 R) l H) (sounderlaw04_is_q120 K3 R))
noncomputable def sounderlaw04_is_q122 (K3 : Value → Value → Value → Value →  Heap → Prop) (R : Value → Heap → Prop) : Exit → List Value → Heap → Prop := (blkE 5 (sounderlaw04_is_q121 K3 R))
noncomputable def sounderlaw04_is_q123 (K3 : Value → Value → Value → Value →  Heap → Prop) (R : Value → Heap → Prop) : Exit → List Value → Heap → Prop := (thenE (fun l H => wpE tab P sounderlaw04_is_pi sounderlaw04_is_c71 (sounderlaw04_is_q122 K3 R) l H) (sounderlaw04_is_q122 K3 R))
noncomputable def sounderlaw04_is_q124 (K3 : Value → Value → Value → Value →  Heap → Prop) (R : Value → Heap → Prop) : Exit → List Value → Heap → Prop := (blkE 6 (sounderlaw04_is_q123 K3 R))
noncomputable def sounderlaw04_is_q125 (K3 : Value → Value → Value → Value →  Heap → Prop) (K4 : Value → Value → Value → Value → Value →  Heap → Prop) (R : Value → Heap → Prop) : Exit → List Value → Heap → Prop := (thenE (fun l H => K4 (l.getD 0 undef) (l.getD 3 undef) (l.getD 6 undef) (l.getD 10 undef) (l.getD 11 undef) H) (sounderlaw04_is_q124 K3 R))
theorem sounderlaw04_is_s111_i (K3 : Value → Value → Value → Value →  Heap → Prop) (K4 : Value → Value → Value → Value → Value →  Heap → Prop) (R : Value → Heap → Prop) (l : List Value) (H : Heap) (hl : l.length = 115) (h : sounderlaw04_is_s111 (l.getD 0 undef) (l.getD 3 undef) (l.getD 6 undef) (l.getD 10 undef) (l.getD 11 undef) K3 K4 R H) : wpE tab P sounderlaw04_is_pi sounderlaw04_is_c64 (sounderlaw04_is_q125 K3 K4 R) l H := by
  refine seqI (c := sounderlaw04_is_c64) rfl ?_
  refine seqI (c := sounderlaw04_is_c65) rfl ?_
  refine regI hl (Eq.mpr (sounderlaw04_is_g112_e _ (fun i => l.getD i undef) _) h) ?_
  clear h hl
  intro l H hl h
  refine thenN ?_
  refine condI (c := sounderlaw04_is_c67) rfl h ?_ ?_
  · clear h; intro h
    refine skipI rfl ?_
    refine thenN ?_
    refine blockI (c := sounderlaw04_is_c69) rfl ?_
    refine regI hl (Eq.mpr (sounderlaw04_is_g113_e _ (fun i => l.getD i undef) _) h) ?_
    clear h hl
    intro l H hl h
    refine blkN ?_
    refine thenN ?_
    exact h
  · clear h; intro h
    refine exitI (c := sounderlaw04_is_c68) rfl ?_
    refine thenX ?_
    refine thenX ?_
    refine blkX ?_
    refine thenN ?_
    refine seqI (c := sounderlaw04_is_c71) rfl ?_
    refine seqI (c := sounderlaw04_is_c72) rfl ?_
    refine regI hl (Eq.mpr (sounderlaw04_is_g114_e _ (fun i => l.getD i undef) _) h) ?_
    clear h hl
    intro l H hl h
    refine thenN ?_
    refine condI (c := sounderlaw04_is_c74) rfl h ?_ ?_
    · clear h; intro h
      refine seqI (c := sounderlaw04_is_c75) rfl ?_
      refine regI hl (Eq.mpr (sounderlaw04_is_g115_e _ (fun i => l.getD i undef) _) h) ?_
      clear h hl
      intro l H hl h
      refine thenN ?_
      refine retI rfl ?_
      refine thenR ?_
      refine blkR ?_
      refine thenR ?_
      refine thenR ?_
      refine blkR ?_
      refine thenR ?_
      exact h
    · clear h; intro h
      refine skipI rfl ?_
      refine thenN ?_
      refine regI hl (Eq.mpr (sounderlaw04_is_g116_e _ (fun i => l.getD i undef) _) h) ?_
      clear h hl
      intro l H hl h
      refine blkN ?_
      refine thenN ?_
      refine regI hl (Eq.mpr (sounderlaw04_is_g117_e _ (fun i => l.getD i undef) _) h) ?_
      clear h hl
      intro l H hl h
      refine thenN ?_
      exact h
def sounderlaw04_is_l126 (x0 x3 x6 x10 x11 : Value) (K3 : Value → Value → Value → Value →  Heap → Prop) (R : Value → Heap → Prop) (H : Heap) : Prop :=
  ∃ (I : Value → Heap → Prop) (μ : Value → Heap → Nat), I x11 H ∧ ∀ (y11 : Value) (H : Heap), I y11 H → sounderlaw04_is_s111 x0 x3 x6 x10 y11 K3 (fun z0 z3 z6 z10 z11 H' => z0 = x0 ∧ z3 = x3 ∧ z6 = x6 ∧ z10 = x10 ∧ (I z11 H' ∧ μ z11 H' < μ y11 H)) R H
def sounderlaw04_is_g127 (S : Value → Heap → Prop) (x6 : Value) (H : Heap) : Prop :=
  bnd (binV .int .eql x6 (.int .i64 0)) fun v114 =>
  S v114 H
theorem sounderlaw04_is_g127_e (S : Value → Heap → Prop) (x : Nat → Value) (H : Heap) : wpE tab P sounderlaw04_is_pi sounderlaw04_is_c80 (nQ fun l H => S (l.getD 4 undef) H) ((List.range 115).map x) H = sounderlaw04_is_g127 S (x 6) H := by kernel_rfl
def sounderlaw04_is_s108 (x0 x3 x6 x10 : Value) (K3 : Value → Value → Value → Value →  Heap → Prop) (R : Value → Heap → Prop) (H : Heap) : Prop :=
  sounderlaw04_is_g109 (fun x0 x3 x6 x10 x79 H => brV x79
  (sounderlaw04_is_g110 (fun x0 x3 x6 x10 x11 H => sounderlaw04_is_l126 x0 x3 x6 x10 x11 K3 R H) x0 x3 x6 x10 H)
  (sounderlaw04_is_g127 (fun x4 H => R x4 H) x6 H)) x0 x3 x6 x10 H
theorem sounderlaw04_is_s108_i (K3 : Value → Value → Value → Value →  Heap → Prop) (R : Value → Heap → Prop) (l : List Value) (H : Heap) (hl : l.length = 115) (h : sounderlaw04_is_s108 (l.getD 0 undef) (l.getD 3 undef) (l.getD 6 undef) (l.getD 10 undef) K3 R H) : wpE tab P sounderlaw04_is_pi sounderlaw04_is_c52 (sounderlaw04_is_q120 K3 R) l H := by
  refine seqI (c := sounderlaw04_is_c52) rfl ?_
  refine seqI (c := sounderlaw04_is_c53) rfl ?_
  refine regI hl (Eq.mpr (sounderlaw04_is_g109_e _ (fun i => l.getD i undef) _) h) ?_
  clear h hl
  intro l H hl h
  refine thenN ?_
  refine condI (c := sounderlaw04_is_c55) rfl h ?_ ?_
  · clear h; intro h
    refine skipI rfl ?_
    refine thenN ?_
    refine seqI (c := sounderlaw04_is_c57) rfl ?_
    refine blockI (c := sounderlaw04_is_c58) rfl ?_
    refine seqI (c := sounderlaw04_is_c59) rfl ?_
    refine regI hl (Eq.mpr (sounderlaw04_is_g110_e _ (fun i => l.getD i undef) _) h) ?_
    clear h hl
    intro l H hl h
    refine thenN ?_
    refine seqI (c := sounderlaw04_is_c61) rfl ?_
    refine blockI (c := sounderlaw04_is_c62) rfl ?_
    obtain ⟨I, μ, h0, hr⟩ := h
    refine loopI (c := sounderlaw04_is_c63) rfl (fun l' H' => l'.getD 0 undef = l.getD 0 undef ∧ l'.getD 3 undef = l.getD 3 undef ∧ l'.getD 6 undef = l.getD 6 undef ∧ l'.getD 10 undef = l.getD 10 undef ∧ I (l'.getD 11 undef) H') (fun l' H' => μ (l'.getD 11 undef) H') hl ⟨rfl, rfl, rfl, rfl, h0⟩ ?_
    rintro l1 H1 hl1 ⟨e0, e3, e6, e10, hI⟩
    have hb := hr (l1.getD 11 undef) H1 hI
    rw [← e0, ← e3, ← e6, ← e10] at hb
    refine wpE_mono _ l1 H1 hl1 ?_ (sounderlaw04_is_s111_i K3 _ R l1 H1 hl1 hb)
    intro e l2 H2 hl2 hq
    cases e with
    | normal => exact fun _ => (by obtain ⟨d0, d3, d6, d10, g1, g2⟩ := hq; exact ⟨⟨d0.trans e0, d3.trans e3, d6.trans e6, d10.trans e10, g1⟩, g2⟩)
    | _ => exact hq
  · clear h; intro h
    refine exitI (c := sounderlaw04_is_c56) rfl ?_
    refine thenX ?_
    refine thenX ?_
    refine blkX ?_
    refine thenN ?_
    refine seqI (c := sounderlaw04_is_c79) rfl ?_
    refine regI hl (Eq.mpr (sounderlaw04_is_g127_e _ (fun i => l.getD i undef) _) h) ?_
    clear h hl
    intro l H hl h
    refine thenN ?_
    refine retI rfl ?_
    exact h
def sounderlaw04_is_l128 (x0 x3 x6 x10 : Value) (R : Value → Heap → Prop) (H : Heap) : Prop :=
  ∃ (I : Value → Value → Heap → Prop) (μ : Value → Value → Heap → Nat), I x6 x10 H ∧ ∀ (y6 : Value) (y10 : Value) (H : Heap), I y6 y10 H → sounderlaw04_is_s108 x0 x3 y6 y10 (fun z0 z3 z6 z10 H' => z0 = x0 ∧ z3 = x3 ∧ (I z6 z10 H' ∧ μ z6 z10 H' < μ y6 y10 H)) R H
def sounderlaw04_is_s85 (x0 x3 x5 x6 x7 x8 : Value) (K1 : Value → Value → Value → Value → Value → Value →  Heap → Prop) (R : Value → Heap → Prop) (H : Heap) : Prop :=
  sounderlaw04_is_g86 (fun x0 x3 x5 x6 x7 x8 x17 H => brV x17
  (sounderlaw04_is_g87 (fun x0 x3 x5 x6 x8 x48 H => brV x48
  (sounderlaw04_is_g88 (fun x4 H => R x4 H) H)
  (sounderlaw04_is_g89 (fun x0 x3 x5 x6 x7 x8 H => sounderlaw04_is_g90 (fun x0 x3 x5 x6 x7 x8 x9 H => sounderlaw04_is_l106 x0 x3 x5 x6 x7 x8 x9 K1 R H) x0 x3 x5 x6 x7 x8 H) x0 x3 x5 x6 x8 H)) x0 x3 x5 x6 x7 x8 H)
  (sounderlaw04_is_g107 (fun x0 x3 x6 x10 H => sounderlaw04_is_l128 x0 x3 x6 x10 R H) x0 x3 x6 H)) x0 x3 x5 x6 x7 x8 H
theorem sounderlaw04_is_s85_i (K1 : Value → Value → Value → Value → Value → Value →  Heap → Prop) (R : Value → Heap → Prop) (l : List Value) (H : Heap) (hl : l.length = 115) (h : sounderlaw04_is_s85 (l.getD 0 undef) (l.getD 3 undef) (l.getD 5 undef) (l.getD 6 undef) (l.getD 7 undef) (l.getD 8 undef) K1 R H) : wpE tab P sounderlaw04_is_pi sounderlaw04_is_c12 (sounderlaw04_is_q101 K1 R) l H := by
  refine seqI (c := sounderlaw04_is_c12) rfl ?_
  refine seqI (c := sounderlaw04_is_c13) rfl ?_
  refine regI hl (Eq.mpr (sounderlaw04_is_g86_e _ (fun i => l.getD i undef) _) h) ?_
  clear h hl
  intro l H hl h
  refine thenN ?_
  refine condI (c := sounderlaw04_is_c15) rfl h ?_ ?_
  · clear h; intro h
    refine skipI rfl ?_
    refine thenN ?_
    refine seqI (c := sounderlaw04_is_c17) rfl ?_
    refine blockI (c := sounderlaw04_is_c18) rfl ?_
    refine seqI (c := sounderlaw04_is_c19) rfl ?_
    refine seqI (c := sounderlaw04_is_c20) rfl ?_
    refine regI hl (Eq.mpr (sounderlaw04_is_g87_e _ (fun i => l.getD i undef) _) h) ?_
    clear h hl
    intro l H hl h
    refine thenN ?_
    refine condI (c := sounderlaw04_is_c22) rfl h ?_ ?_
    · clear h; intro h
      refine seqI (c := sounderlaw04_is_c23) rfl ?_
      refine regI hl (Eq.mpr (sounderlaw04_is_g88_e _ (fun i => l.getD i undef) _) h) ?_
      clear h hl
      intro l H hl h
      refine thenN ?_
      refine retI rfl ?_
      refine thenR ?_
      refine blkR ?_
      refine thenR ?_
      refine thenR ?_
      refine blkR ?_
      refine thenR ?_
      exact h
    · clear h; intro h
      refine skipI rfl ?_
      refine thenN ?_
      refine seqI (c := sounderlaw04_is_c25) rfl ?_
      refine regI hl (Eq.mpr (sounderlaw04_is_g89_e _ (fun i => l.getD i undef) _) h) ?_
      clear h hl
      intro l H hl h
      refine thenN ?_
      refine seqI (c := sounderlaw04_is_c27) rfl ?_
      refine regI hl (Eq.mpr (sounderlaw04_is_g90_e _ (fun i => l.getD i undef) _) h) ?_
      clear h hl
      intro l H hl h
      refine thenN ?_
      refine blockI (c := sounderlaw04_is_c29) rfl ?_
      obtain ⟨I, μ, h0, hr⟩ := h
      refine loopI (c := sounderlaw04_is_c30) rfl (fun l' H' => l'.getD 0 undef = l.getD 0 undef ∧ l'.getD 3 undef = l.getD 3 undef ∧ l'.getD 5 undef = l.getD 5 undef ∧ l'.getD 7 undef = l.getD 7 undef ∧ l'.getD 8 undef = l.getD 8 undef ∧ I (l'.getD 6 undef) (l'.getD 9 undef) H') (fun l' H' => μ (l'.getD 6 undef) (l'.getD 9 undef) H') hl ⟨rfl, rfl, rfl, rfl, rfl, h0⟩ ?_
      rintro l1 H1 hl1 ⟨e0, e3, e5, e7, e8, hI⟩
      have hb := hr (l1.getD 6 undef) (l1.getD 9 undef) H1 hI
      rw [← e0, ← e3, ← e5, ← e7, ← e8] at hb
      refine wpE_mono _ l1 H1 hl1 ?_ (sounderlaw04_is_s91_i K1 _ R l1 H1 hl1 hb)
      intro e l2 H2 hl2 hq
      cases e with
      | normal => exact fun _ => (by obtain ⟨d0, d3, d5, d7, d8, g1, g2⟩ := hq; exact ⟨⟨d0.trans e0, d3.trans e3, d5.trans e5, d7.trans e7, d8.trans e8, g1⟩, g2⟩)
      | _ => exact hq
  · clear h; intro h
    refine exitI (c := sounderlaw04_is_c16) rfl ?_
    refine thenX ?_
    refine thenX ?_
    refine blkX ?_
    refine thenN ?_
    refine seqI (c := sounderlaw04_is_c47) rfl ?_
    refine seqI (c := sounderlaw04_is_c48) rfl ?_
    refine regI hl (Eq.mpr (sounderlaw04_is_g107_e _ (fun i => l.getD i undef) _) h) ?_
    clear h hl
    intro l H hl h
    refine thenN ?_
    refine blockI (c := sounderlaw04_is_c50) rfl ?_
    obtain ⟨I, μ, h0, hr⟩ := h
    refine loopI (c := sounderlaw04_is_c51) rfl (fun l' H' => l'.getD 0 undef = l.getD 0 undef ∧ l'.getD 3 undef = l.getD 3 undef ∧ I (l'.getD 6 undef) (l'.getD 10 undef) H') (fun l' H' => μ (l'.getD 6 undef) (l'.getD 10 undef) H') hl ⟨rfl, rfl, h0⟩ ?_
    rintro l1 H1 hl1 ⟨e0, e3, hI⟩
    have hb := hr (l1.getD 6 undef) (l1.getD 10 undef) H1 hI
    rw [← e0, ← e3] at hb
    refine wpE_mono _ l1 H1 hl1 ?_ (sounderlaw04_is_s108_i _ R l1 H1 hl1 hb)
    intro e l2 H2 hl2 hq
    cases e with
    | normal => exact fun _ => (by obtain ⟨d0, d3, g1, g2⟩ := hq; exact ⟨⟨d0.trans e0, d3.trans e3, g1⟩, g2⟩)
    | _ => exact hq
def sounderlaw04_is_l129 (x0 x3 x5 x6 x7 x8 : Value) (R : Value → Heap → Prop) (H : Heap) : Prop :=
  ∃ (I : Value → Value → Value → Heap → Prop) (μ : Value → Value → Value → Heap → Nat), I x6 x7 x8 H ∧ ∀ (y6 : Value) (y7 : Value) (y8 : Value) (H : Heap), I y6 y7 y8 H → sounderlaw04_is_s85 x0 x3 x5 y6 y7 y8 (fun z0 z3 z5 z6 z7 z8 H' => z0 = x0 ∧ z3 = x3 ∧ z5 = x5 ∧ (I z6 z7 z8 H' ∧ μ z6 z7 z8 H' < μ y6 y7 y8 H)) R H
def sounderlaw04_is (x0 x1 : Value) (R : Value → Heap → Prop) (H : Heap) : Prop :=
  sounderlaw04_is_g81 (fun x0 x3 H => sounderlaw04_is_g82 (fun x0 x3 x5 H => sounderlaw04_is_g83 (fun x0 x3 x5 x6 x7 H => sounderlaw04_is_g84 (fun x0 x3 x5 x6 x7 x8 H => sounderlaw04_is_l129 x0 x3 x5 x6 x7 x8 R H) x0 x3 x5 x6 x7 H) x0 x3 x5 H) x0 x3 H) x0 x1 H
theorem sounderlaw04_is_i (R : Value → Heap → Prop) (x0 x1 : Value) (H : Heap) (h : sounderlaw04_is x0 x1 R H) : wpE tab P sounderlaw04_is_pi sounderlaw04_is_c1 (retQ tab sounderlaw04_is_rs R) [x0, x1, undef, undef, undef, undef, undef, undef, undef, undef, undef, undef, undef, undef, undef, undef, undef, undef, undef, undef, undef, undef, undef, undef, undef, undef, undef, undef, undef, undef, undef, undef, undef, undef, undef, undef, undef, undef, undef, undef, undef, undef, undef, undef, undef, undef, undef, undef, undef, undef, undef, undef, undef, undef, undef, undef, undef, undef, undef, undef, undef, undef, undef, undef, undef, undef, undef, undef, undef, undef, undef, undef, undef, undef, undef, undef, undef, undef, undef, undef, undef, undef, undef, undef, undef, undef, undef, undef, undef, undef, undef, undef, undef, undef, undef, undef, undef, undef, undef, undef, undef, undef, undef, undef, undef, undef, undef, undef, undef, undef, undef, undef, undef, undef, undef] H := by
  obtain ⟨l, hl, el⟩ : ∃ l : List Value, l.length = 115 ∧ l = [x0, x1, undef, undef, undef, undef, undef, undef, undef, undef, undef, undef, undef, undef, undef, undef, undef, undef, undef, undef, undef, undef, undef, undef, undef, undef, undef, undef, undef, undef, undef, undef, undef, undef, undef, undef, undef, undef, undef, undef, undef, undef, undef, undef, undef, undef, undef, undef, undef, undef, undef, undef, undef, undef, undef, undef, undef, undef, undef, undef, undef, undef, undef, undef, undef, undef, undef, undef, undef, undef, undef, undef, undef, undef, undef, undef, undef, undef, undef, undef, undef, undef, undef, undef, undef, undef, undef, undef, undef, undef, undef, undef, undef, undef, undef, undef, undef, undef, undef, undef, undef, undef, undef, undef, undef, undef, undef, undef, undef, undef, undef, undef, undef, undef, undef] := ⟨_, rfl, rfl⟩
  rw [← el]
  have h : (fun (x0 x1 : Value) => sounderlaw04_is_g81 (fun x0 x3 H => sounderlaw04_is_g82 (fun x0 x3 x5 H => sounderlaw04_is_g83 (fun x0 x3 x5 x6 x7 H => sounderlaw04_is_g84 (fun x0 x3 x5 x6 x7 x8 H => sounderlaw04_is_l129 x0 x3 x5 x6 x7 x8 R H) x0 x3 x5 x6 x7 H) x0 x3 x5 H) x0 x3 H) x0 x1 H) (l.getD 0 undef) (l.getD 1 undef) := by rw [el]; exact h
  clear el
  refine seqI (c := sounderlaw04_is_c1) rfl ?_
  refine regI hl (Eq.mpr (sounderlaw04_is_g81_e _ (fun i => l.getD i undef) _) h) ?_
  clear h hl
  intro l H hl h
  refine thenN ?_
  refine seqI (c := sounderlaw04_is_c3) rfl ?_
  refine regI hl (Eq.mpr (sounderlaw04_is_g82_e _ (fun i => l.getD i undef) _) h) ?_
  clear h hl
  intro l H hl h
  refine thenN ?_
  refine seqI (c := sounderlaw04_is_c5) rfl ?_
  refine regI hl (Eq.mpr (sounderlaw04_is_g83_e _ (fun i => l.getD i undef) _) h) ?_
  clear h hl
  intro l H hl h
  refine thenN ?_
  refine seqI (c := sounderlaw04_is_c7) rfl ?_
  refine seqI (c := sounderlaw04_is_c8) rfl ?_
  refine regI hl (Eq.mpr (sounderlaw04_is_g84_e _ (fun i => l.getD i undef) _) h) ?_
  clear h hl
  intro l H hl h
  refine thenN ?_
  refine blockI (c := sounderlaw04_is_c10) rfl ?_
  obtain ⟨I, μ, h0, hr⟩ := h
  refine loopI (c := sounderlaw04_is_c11) rfl (fun l' H' => l'.getD 0 undef = l.getD 0 undef ∧ l'.getD 3 undef = l.getD 3 undef ∧ l'.getD 5 undef = l.getD 5 undef ∧ I (l'.getD 6 undef) (l'.getD 7 undef) (l'.getD 8 undef) H') (fun l' H' => μ (l'.getD 6 undef) (l'.getD 7 undef) (l'.getD 8 undef) H') hl ⟨rfl, rfl, rfl, h0⟩ ?_
  rintro l1 H1 hl1 ⟨e0, e3, e5, hI⟩
  have hb := hr (l1.getD 6 undef) (l1.getD 7 undef) (l1.getD 8 undef) H1 hI
  rw [← e0, ← e3, ← e5] at hb
  refine wpE_mono _ l1 H1 hl1 ?_ (sounderlaw04_is_s85_i _ R l1 H1 hl1 hb)
  intro e l2 H2 hl2 hq
  cases e with
  | normal => exact fun _ => (by obtain ⟨d0, d3, d5, g1, g2⟩ := hq; exact ⟨⟨d0.trans e0, d3.trans e3, d5.trans e5, g1⟩, g2⟩)
  | _ => exact hq
theorem sounderlaw04_is_ok : okB sounderlaw04_is_pi sounderlaw04_is_c1 = true := by kernel_rfl
theorem sounderlaw04_is_ev0 (x0 x1 : Value) (R : Value → Heap → Prop) (H : Heap) (h : sounderlaw04_is x0 x1 R H) : EvL P N.sounderlaw04_is #[x0, x1] H R :=
  EvF_intro (args := [x0, x1]) (k := 113) (rs := sounderlaw04_is_rs) tab_ok mixed Try.func21 (show Try.f21.body = some sounderlaw04_is_c1 by kernel_rfl) Try.call21 Try.ntmps21 (by kernel_rfl) (okCode_of _ sounderlaw04_is_ok) rfl (sounderlaw04_is_i R x0 x1 H h)
theorem sounderlaw04_is_ev (x0 x1 : Value) (R : Value → Heap → Prop) (H : Heap) (h : sounderlaw04_is x0 x1 R H) : EvF P N.sounderlaw04_is #[x0, x1] H R := .inl (sounderlaw04_is_ev0 x0 x1 R H h)
/- 22: (*sounder/span.Set).Copy -/
def span_Set_Copy_rs : List ResultVar := [.tmp 2]
noncomputable def span_Set_Copy_c2 : Code := subC (bodyC Try.f22) [0]
noncomputable def span_Set_Copy_c5 : Code := subC (bodyC Try.f22) [1, 0, 0]
noncomputable def span_Set_Copy_c8 : Code := subC (bodyC Try.f22) [1, 0, 1, 0, 0]
noncomputable def span_Set_Copy_c7 : Code := .seq span_Set_Copy_c8 Code.ret
noncomputable def span_Set_Copy_c6 : Code := .cond (.tmp 4) span_Set_Copy_c7 Code.skip
noncomputable def span_Set_Copy_c4 : Code := .seq span_Set_Copy_c5 span_Set_Copy_c6
noncomputable def span_Set_Copy_c10 : Code := subC (bodyC Try.f22) [1, 1, 0]
noncomputable def span_Set_Copy_c9 : Code := .seq span_Set_Copy_c10 Code.ret
noncomputable def span_Set_Copy_c3 : Code := .seq span_Set_Copy_c4 span_Set_Copy_c9
noncomputable def span_Set_Copy_c1 : Code := .seq span_Set_Copy_c2 span_Set_Copy_c3
def span_Set_Copy_pi (i : Nat) : Pl := match i with
  | 3 => (ones [0, 1, 2, 3, 4, 5, 6, 7, 8, 9, 10, 11] .nil)
  | _ => .nil
def span_Set_Copy_g11 (S : Value → Heap → Prop) (x0 : Value) (H : Heap) : Prop :=
  S x0 H
theorem span_Set_Copy_g11_e (S : Value → Heap → Prop) (x : Nat → Value) (H : Heap) : wpE tab P span_Set_Copy_pi span_Set_Copy_c2 (nQ fun l H => S (l.getD 0 undef) H) ((List.range 16).map x) H = span_Set_Copy_g11 S (x 0) H := by kernel_rfl
def span_Set_Copy_g12 (S : Value → Value → Heap → Prop) (x0 : Value) (H : Heap) : Prop :=
  EvF P N.span_Set_none #[x0] H fun v4 H1 =>
  S x0 v4 H1
theorem span_Set_Copy_g12_e (S : Value → Value → Heap → Prop) (x : Nat → Value) (H : Heap) : wpE tab P span_Set_Copy_pi span_Set_Copy_c5 (nQ fun l H => S (l.getD 0 undef) (l.getD 4 undef) H) ((List.range 16).map x) H = span_Set_Copy_g12 S (x 0) H := by kernel_rfl
def span_Set_Copy_g13 (S : Value → Heap → Prop) (H : Heap) : Prop :=
  S (.pointer none) H
theorem span_Set_Copy_g13_e (S : Value → Heap → Prop) (x : Nat → Value) (H : Heap) : wpE tab P span_Set_Copy_pi span_Set_Copy_c8 (nQ fun l H => S (l.getD 2 undef) H) ((List.range 16).map x) H = span_Set_Copy_g13 S  H := by kernel_rfl
def span_Set_Copy_g14 (S : Value → Heap → Prop) (x0 : Value) (H : Heap) : Prop :=
  bnd (nilV x0) fun v6 =>
  bnd (faV 0 v6) fun v7 =>
  bnd (ldE false 1 v7 H) fun v8 =>
  bnd (nilV x0) fun v10 =>
  bnd (faV 1 v10) fun v11 =>
  bnd (ldE false 1 v11 H) fun v12 =>
  EvF P N.slices_Clone_Range #[v12] H fun v13 H1 =>
  ((bnd (ldE false 1 v7 H1) fun v' => v' = v8) ∧
  bnd (buildV #[(.int .i64 0), (.slice none 0 0)] (places [(0, 1), (1, 1)]) [(0, v8), (1, v13)]) fun v14 =>
  newE 53 (Value.cells v14) H1 fun v15 H2 =>
  ((bnd (ldE false 1 v7 H2) fun v' => v' = v8) ∧
  S v15 H2))
theorem span_Set_Copy_g14_e (S : Value → Heap → Prop) (x : Nat → Value) (H : Heap) : wpE tab P span_Set_Copy_pi span_Set_Copy_c10 (nQ fun l H => S (l.getD 2 undef) H) ((List.range 16).map x) H = span_Set_Copy_g14 S (x 0) H := by kernel_rfl
def span_Set_Copy (x0 : Value) (R : Value → Heap → Prop) (H : Heap) : Prop :=
  span_Set_Copy_g11 (fun x0 H => span_Set_Copy_g12 (fun x0 x4 H => brV x4
  (span_Set_Copy_g13 (fun x2 H => R x2 H) H)
  (span_Set_Copy_g14 (fun x2 H => R x2 H) x0 H)) x0 H) x0 H
theorem span_Set_Copy_i (R : Value → Heap → Prop) (x0 : Value) (H : Heap) (h : span_Set_Copy x0 R H) : wpE tab P span_Set_Copy_pi span_Set_Copy_c1 (retQ tab span_Set_Copy_rs R) [x0, undef, undef, undef, undef, undef, undef, undef, undef, undef, undef, undef, undef, undef, undef, undef] H := by
  obtain ⟨l, hl, el⟩ : ∃ l : List Value, l.length = 16 ∧ l = [x0, undef, undef, undef, undef, undef, undef, undef, undef, undef, undef, undef, undef, undef, undef, undef] := ⟨_, rfl, rfl⟩
  rw [← el]
  have h : (fun (x0 : Value) => span_Set_Copy_g11 (fun x0 H => span_Set_Copy_g12 (fun x0 x4 H => brV x4
(span_Set_Copy_g13 (fun x2 H => R x2 H) H)
(span_Set_Copy_g14 (fun x2 H => R x2 H) x0 H)) x0 H) x0 H) (l.getD 0 undef) := by rw [el]; exact h
  clear el
  refine seqI (c := span_Set_Copy_c1) rfl ?_
  refine regI hl (Eq.mpr (span_Set_Copy_g11_e _ (fun i => l.getD i undef) _) h) ?_
  clear h hl
  intro l H hl h
  refine thenN ?_
  refine seqI (c := span_Set_Copy_c3) rfl ?_
  refine seqI (c := span_Set_Copy_c4) rfl ?_
  refine regI hl (Eq.mpr (span_Set_Copy_g12_e _ (fun i => l.getD i undef) _) h) ?_
  clear h hl
  intro l H hl h
  refine thenN ?_
  refine condI (c := span_Set_Copy_c6) rfl h ?_ ?_
  · clear h; intro h
    refine seqI (c := span_Set_Copy_c7) rfl ?_
    refine regI hl (Eq.mpr (span_Set_Copy_g13_e _ (fun i => l.getD i undef) _) h) ?_
    clear h hl
    intro l H hl h
    refine thenN ?_
    refine retI rfl ?_
    refine thenR ?_
    exact h
  · clear h; intro h
    refine skipI rfl ?_
    refine thenN ?_
    refine seqI (c := span_Set_Copy_c9) rfl ?_
    refine regI hl (Eq.mpr (span_Set_Copy_g14_e _ (fun i => l.getD i undef) _) h) ?_
    clear h hl
    intro l H hl h
    refine thenN ?_
    refine retI rfl ?_
    exact h
theorem span_Set_Copy_ok : okB span_Set_Copy_pi span_Set_Copy_c1 = true := by kernel_rfl
theorem span_Set_Copy_ev0 (x0 : Value) (R : Value → Heap → Prop) (H : Heap) (h : span_Set_Copy x0 R H) : EvL P N.span_Set_Copy #[x0] H R :=
  EvF_intro (args := [x0]) (k := 15) (rs := span_Set_Copy_rs) tab_ok mixed Try.func22 (show Try.f22.body = some span_Set_Copy_c1 by kernel_rfl) Try.call22 Try.ntmps22 (by kernel_rfl) (okCode_of _ span_Set_Copy_ok) rfl (span_Set_Copy_i R x0 H h)
theorem span_Set_Copy_ev (x0 : Value) (R : Value → Heap → Prop) (H : Heap) (h : span_Set_Copy x0 R H) : EvF P N.span_Set_Copy #[x0] H R := .inl (span_Set_Copy_ev0 x0 R H h)
/- 23: (*sounder/span.Set).Ranges -/
def span_Set_Ranges_rs : List ResultVar := [.tmp 2]
noncomputable def span_Set_Ranges_c2 : Code := subC (bodyC Try.f23) [0]
noncomputable def span_Set_Ranges_c5 : Code := subC (bodyC Try.f23) [1, 0, 0]
noncomputable def span_Set_Ranges_c8 : Code := subC (bodyC Try.f23) [1, 0, 1, 0, 0]
noncomputable def span_Set_Ranges_c7 : Code := .seq span_Set_Ranges_c8 Code.ret
noncomputable def span_Set_Ranges_c6 : Code := .cond (.tmp 4) span_Set_Ranges_c7 Code.skip
noncomputable def span_Set_Ranges_c4 : Code := .seq span_Set_Ranges_c5 span_Set_Ranges_c6
noncomputable def span_Set_Ranges_c10 : Code := subC (bodyC Try.f23) [1, 1, 0]
noncomputable def span_Set_Ranges_c9 : Code := .seq span_Set_Ranges_c10 Code.ret
noncomputable def span_Set_Ranges_c3 : Code := .seq span_Set_Ranges_c4 span_Set_Ranges_c9
noncomputable def span_Set_Ranges_c1 : Code := .seq span_Set_Ranges_c2 span_Set_Ranges_c3
def span_Set_Ranges_pi (_ : Nat) : Pl := .nil
def span_Set_Ranges_g11 (S : Value → Heap → Prop) (x0 : Value) (H : Heap) : Prop :=
  S x0 H
theorem span_Set_Ranges_g11_e (S : Value → Heap → Prop) (x : Nat → Value) (H : Heap) : wpE tab P span_Set_Ranges_pi span_Set_Ranges_c2 (nQ fun l H => S (l.getD 0 undef) H) ((List.range 8).map x) H = span_Set_Ranges_g11 S (x 0) H := by kernel_rfl
def span_Set_Ranges_g12 (S : Value → Value → Heap → Prop) (x0 : Value) (H : Heap) : Prop :=
  EvF P N.span_Set_none #[x0] H fun v4 H1 =>
  S x0 v4 H1
theorem span_Set_Ranges_g12_e (S : Value → Value → Heap → Prop) (x : Nat → Value) (H : Heap) : wpE tab P span_Set_Ranges_pi span_Set_Ranges_c5 (nQ fun l H => S (l.getD 0 undef) (l.getD 4 undef) H) ((List.range 8).map x) H = span_Set_Ranges_g12 S (x 0) H := by kernel_rfl
def span_Set_Ranges_g13 (S : Value → Heap → Prop) (H : Heap) : Prop :=
  S (.slice none 0 0) H
theorem span_Set_Ranges_g13_e (S : Value → Heap → Prop) (x : Nat → Value) (H : Heap) : wpE tab P span_Set_Ranges_pi span_Set_Ranges_c8 (nQ fun l H => S (l.getD 2 undef) H) ((List.range 8).map x) H = span_Set_Ranges_g13 S  H := by kernel_rfl
def span_Set_Ranges_g14 (S : Value → Heap → Prop) (x0 : Value) (H : Heap) : Prop :=
  EvF P N.span_Set_falling #[x0] H fun v6 H1 =>
  EvF P N.slices_Collect_Range #[v6] H1 fun v7 H2 =>
  S v7 H2
theorem span_Set_Ranges_g14_e (S : Value → Heap → Prop) (x : Nat → Value) (H : Heap) : wpE tab P span_Set_Ranges_pi span_Set_Ranges_c10 (nQ fun l H => S (l.getD 2 undef) H) ((List.range 8).map x) H = span_Set_Ranges_g14 S (x 0) H := by kernel_rfl
def span_Set_Ranges (x0 : Value) (R : Value → Heap → Prop) (H : Heap) : Prop :=
  span_Set_Ranges_g11 (fun x0 H => span_Set_Ranges_g12 (fun x0 x4 H => brV x4
  (span_Set_Ranges_g13 (fun x2 H => R x2 H) H)
  (span_Set_Ranges_g14 (fun x2 H => R x2 H) x0 H)) x0 H) x0 H
theorem span_Set_Ranges_i (R : Value → Heap → Prop) (x0 : Value) (H : Heap) (h : span_Set_Ranges x0 R H) : wpE tab P span_Set_Ranges_pi span_Set_Ranges_c1 (retQ tab span_Set_Ranges_rs R) [x0, undef, undef, undef, undef, undef, undef, undef] H := by
  obtain ⟨l, hl, el⟩ : ∃ l : List Value, l.length = 8 ∧ l = [x0, undef, undef, undef, undef, undef, undef, undef] := ⟨_, rfl, rfl⟩
  rw [← el]
  have h : (fun (x0 : Value) => span_Set_Ranges_g11 (fun x0 H => span_Set_Ranges_g12 (fun x0 x4 H => brV x4
(span_Set_Ranges_g13 (fun x2 H => R x2 H) H)
(span_Set_Ranges_g14 (fun x2 H => R x2 H) x0 H)) x0 H) x0 H) (l.getD 0 undef) := by rw [el]; exact h
  clear el
  refine seqI (c := span_Set_Ranges_c1) rfl ?_
  refine regI hl (Eq.mpr (span_Set_Ranges_g11_e _ (fun i => l.getD i undef) _) h) ?_
  clear h hl
  intro l H hl h
  refine thenN ?_
  refine seqI (c := span_Set_Ranges_c3) rfl ?_
  refine seqI (c := span_Set_Ranges_c4) rfl ?_
  refine regI hl (Eq.mpr (span_Set_Ranges_g12_e _ (fun i => l.getD i undef) _) h) ?_
  clear h hl
  intro l H hl h
  refine thenN ?_
  refine condI (c := span_Set_Ranges_c6) rfl h ?_ ?_
  · clear h; intro h
    refine seqI (c := span_Set_Ranges_c7) rfl ?_
    refine regI hl (Eq.mpr (span_Set_Ranges_g13_e _ (fun i => l.getD i undef) _) h) ?_
    clear h hl
    intro l H hl h
    refine thenN ?_
    refine retI rfl ?_
    refine thenR ?_
    exact h
  · clear h; intro h
    refine skipI rfl ?_
    refine thenN ?_
    refine seqI (c := span_Set_Ranges_c9) rfl ?_
    refine regI hl (Eq.mpr (span_Set_Ranges_g14_e _ (fun i => l.getD i undef) _) h) ?_
    clear h hl
    intro l H hl h
    refine thenN ?_
    refine retI rfl ?_
    exact h
theorem span_Set_Ranges_ok : okB span_Set_Ranges_pi span_Set_Ranges_c1 = true := by kernel_rfl
theorem span_Set_Ranges_ev0 (x0 : Value) (R : Value → Heap → Prop) (H : Heap) (h : span_Set_Ranges x0 R H) : EvL P N.span_Set_Ranges #[x0] H R :=
  EvF_intro (args := [x0]) (k := 7) (rs := span_Set_Ranges_rs) tab_ok mixed Try.func23 (show Try.f23.body = some span_Set_Ranges_c1 by kernel_rfl) Try.call23 Try.ntmps23 (by kernel_rfl) (okCode_of _ span_Set_Ranges_ok) rfl (span_Set_Ranges_i R x0 H h)
theorem span_Set_Ranges_ev (x0 : Value) (R : Value → Heap → Prop) (H : Heap) (h : span_Set_Ranges x0 R H) : EvF P N.span_Set_Ranges #[x0] H R := .inl (span_Set_Ranges_ev0 x0 R H h)
end Go.Hc
