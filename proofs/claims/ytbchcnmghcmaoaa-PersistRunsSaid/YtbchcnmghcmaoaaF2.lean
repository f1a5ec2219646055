/- Functions, printed by gen.py. -/
import Derived.Test.YtbchcnmghcmaoaaT
set_option linter.unusedSimpArgs false
set_option linter.unusedVariables false
set_option maxRecDepth 100000
namespace Go.Hc
open Go Go.Proofs
/- 12: sounder/sounderlaw10.works -/
def sounderlaw10_works_rs : List ResultVar := [.tmp 0]
noncomputable def sounderlaw10_works_c2 : Code := subC (bodyC Try.f12) [0]
noncomputable def sounderlaw10_works_c4 : Code := subC (bodyC Try.f12) [1, 0]
noncomputable def sounderlaw10_works_c7 : Code := subC (bodyC Try.f12) [1, 1, 0, 0]
noncomputable def sounderlaw10_works_c10 : Code := subC (bodyC Try.f12) [1, 1, 0, 1, 0, 0]
noncomputable def sounderlaw10_works_c9 : Code := .seq sounderlaw10_works_c10 Code.ret
noncomputable def sounderlaw10_works_c8 : Code := .cond (.tmp 18) sounderlaw10_works_c9 Code.skip
noncomputable def sounderlaw10_works_c6 : Code := .seq sounderlaw10_works_c7 sounderlaw10_works_c8
noncomputable def sounderlaw10_works_c12 : Code := subC (bodyC Try.f12) [1, 1, 1, 0]
noncomputable def sounderlaw10_works_c14 : Code := subC (bodyC Try.f12) [1, 1, 1, 1, 0]
noncomputable def sounderlaw10_works_c13 : Code := .seq sounderlaw10_works_c14 Code.ret
noncomputable def sounderlaw10_works_c11 : Code := .seq sounderlaw10_works_c12 sounderlaw10_works_c13
noncomputable def sounderlaw10_works_c5 : Code := .seq sounderlaw10_works_c6 sounderlaw10_works_c11
noncomputable def sounderlaw10_works_c3 : Code := .seq sounderlaw10_works_c4 sounderlaw10_works_c5
noncomputable def sounderlaw10_works_c1 : Code := .seq sounderlaw10_works_c2 sounderlaw10_works_c3
def sounderlaw10_works_pi (_ : Nat) : Pl := .nil
def sounderlaw10_works_g15 (S : Heap → Prop) (H : Heap) : Prop :=
  S H
theorem sounderlaw10_works_g15_e (S : Heap → Prop) (x : Nat → Value) (H : Heap) : wpE tab P sounderlaw10_works_pi sounderlaw10_works_c2 (nQ fun _ H => S  H) ((List.range 48).map x) H = sounderlaw10_works_g15 S  H := by kernel_rfl
def sounderlaw10_works_g16 (S : Value → Heap → Prop) (H : Heap) : Prop :=
  EvF P N.sounderlaw10_four #[] H fun v3 H1 =>
  S v3 H1
theorem sounderlaw10_works_g16_e (S : Value → Heap → Prop) (x : Nat → Value) (H : Heap) : wpE tab P sounderlaw10_works_pi sounderlaw10_works_c4 (nQ fun l H => S (l.getD 1 undef) H) ((List.range 48).map x) H = sounderlaw10_works_g16 S  H := by kernel_rfl
def sounderlaw10_works_g17 (S : Value → Value → Heap → Prop) (x1 : Value) (H : Heap) : Prop :=
  bnd (buildV #[(.int .i64 0), (.int .i64 0), (.int .i64 0)] (every 1) [(0, (.int .i64 190)), (1, (.int .i64 1)), (2, (.int .i64 8))]) fun v5 =>
  EvF P N.sounderlaw10_is #[x1, (.pointer none), (.int .i64 5), v5] H fun v6 H1 =>
  bnd (unV .not v6) fun v7 =>
  brV v7
  (S x1 (.bool true) H1)
  (bnd (buildV #[(.int .i64 0), (.int .i64 0), (.int .i64 0)] (every 1) [(0, (.int .i64 150)), (1, (.int .i64 3)), (2, (.int .i64 8))]) fun v10 =>
  EvF P N.sounderlaw10_is #[x1, (.pointer none), (.int .i64 10), v10] H1 fun v11 H2 =>
  bnd (unV .not v11) fun v12 =>
  brV v12
  (S x1 (.bool true) H2)
  (EvF P N.sounderlaw10_none #[x1, (.pointer none), (.int .i64 200)] H2 fun v16 H3 =>
  bnd (unV .not v16) fun v17 =>
  S x1 v17 H3))
theorem sounderlaw10_works_g17_e (S : Value → Value → Heap → Prop) (x : Nat → Value) (H : Heap) : wpE tab P sounderlaw10_works_pi sounderlaw10_works_c7 (nQ fun l H => S (l.getD 1 undef) (l.getD 18 undef) H) ((List.range 48).map x) H = sounderlaw10_works_g17 S (x 1) H := by kernel_rfl
def sounderlaw10_works_g18 (S : Value → Heap → Prop) (H : Heap) : Prop :=
  S (.bool false) H
theorem sounderlaw10_works_g18_e (S : Value → Heap → Prop) (x : Nat → Value) (H : Heap) : wpE tab P sounderlaw10_works_pi sounderlaw10_works_c10 (nQ fun l H => S (l.getD 0 undef) H) ((List.range 48).map x) H = sounderlaw10_works_g18 S  H := by kernel_rfl
def sounderlaw10_works_g19 (S : Value → Value → Heap → Prop) (x1 : Value) (H : Heap) : Prop :=
  bnd (buildV #[(.int .i64 0), (.int .i64 0), (.int .i64 0), (.int .i64 0), (.int .i64 0)] (places [(0, 1), (1, 1), (2, 1), (3, 1), (4, 1)]) [(0, (.int .i64 9)), (1, (.int .i64 9)), (2, (.int .i64 10)), (4, (.int .i64 5))]) fun v19 =>
  newE 36 #[(.int .i64 0), (.int .i64 0), (.int .i64 0), (.int .i64 0), (.int .i64 0)] H fun v2 H1 =>
  bnd (stE 5 v2 v19 H1) fun H2 =>
  S x1 v2 H2
theorem sounderlaw10_works_g19_e (S : Value → Value → Heap → Prop) (x : Nat → Value) (H : Heap) : wpE tab P sounderlaw10_works_pi sounderlaw10_works_c12 (nQ fun l H => S (l.getD 1 undef) (l.getD 2 undef) H) ((List.range 48).map x) H = sounderlaw10_works_g19 S (x 1) H := by kernel_rfl
def sounderlaw10_works_g20 (S : Value → Heap → Prop) (x1 x2 : Value) (H : Heap) : Prop :=
  bnd (buildV #[(.int .i64 0), (.int .i64 0)] (places [(0, 1), (1, 1)]) [(0, (.int .i64 4)), (1, (.int .i64 4))]) fun v21 =>
  bslE 45 #[(.int .i64 0), (.int .i64 0)] 2 1 [(0, v21)] H fun v22 H1 =>
  EvF P N.sounderlaw10_set #[v22] H1 fun v23 H2 =>
  bnd (buildV #[(.int .i64 0), (.int .i64 0), (.int .i64 0)] (every 1) [(0, (.int .i64 140)), (1, (.int .i64 5)), (2, (.int .i64 8))]) fun v24 =>
  EvF P N.sounderlaw10_is #[x1, v23, (.int .i64 5), v24] H2 fun v25 H3 =>
  brV v25
  (bnd (buildV #[(.int .i64 0), (.int .i64 0)] (places [(0, 1), (1, 1)]) [(0, (.int .i64 2)), (1, (.int .i64 2))]) fun v28 =>
  bnd (buildV #[(.int .i64 0), (.int .i64 0)] (places [(0, 1), (1, 1)]) [(0, (.int .i64 6)), (1, (.int .i64 6))]) fun v29 =>
  bslE 45 #[(.int .i64 0), (.int .i64 0)] 2 2 [(0, v28), (1, v29)] H3 fun v30 H4 =>
  EvF P N.sounderlaw10_set #[v30] H4 fun v31 H5 =>
  bnd (buildV #[(.int .i64 0), (.int .i64 0), (.int .i64 0)] (every 1) [(0, (.int .i64 10)), (1, (.int .i64 3)), (2, (.int .i64 5))]) fun v32 =>
  EvF P N.sounderlaw10_is #[x1, v31, (.int .i64 5), v32] H5 fun v33 H6 =>
  brV v33
  (bnd (buildV #[(.int .i64 0), (.int .i64 0)] (places [(0, 1), (1, 1)]) [(0, (.int .i64 1)), (1, (.int .i64 9))]) fun v37 =>
  bslE 45 #[(.int .i64 0), (.int .i64 0)] 2 1 [(0, v37)] H6 fun v38 H7 =>
  EvF P N.sounderlaw10_set #[v38] H7 fun v39 H8 =>
  EvF P N.sounderlaw10_none #[x1, v39, (.int .i64 5)] H8 fun v40 H9 =>
  brV v40
  (bnd (ldE true 5 x2 H9) fun v44 =>
  EvF P N.persist_Is #[x1, (.pointer none), v44, (.int .i64 0)] H9 fun v45 H10 =>
  bnd (unV .not v45) fun v46 =>
  S v46 H10)
  (S (.bool false) H9))
  (S (.bool false) H6))
  (S (.bool false) H3)
theorem sounderlaw10_works_g20_e (S : Value → Heap → Prop) (x : Nat → Value) (H : Heap) : wpE tab P sounderlaw10_works_pi sounderlaw10_works_c14 (nQ fun l H => S (l.getD 0 undef) H) ((List.range 48).map x) H = sounderlaw10_works_g20 S (x 1) (x 2) H := by kernel_rfl
def sounderlaw10_works (R : Value → Heap → Prop) (H : Heap) : Prop :=
  sounderlaw10_works_g15 (fun H => sounderlaw10_works_g16 (fun x1 H => sounderlaw10_works_g17 (fun x1 x18 H => brV x18
  (sounderlaw10_works_g18 (fun x0 H => R x0 H) H)
  (sounderlaw10_works_g19 (fun x1 x2 H => sounderlaw10_works_g20 (fun x0 H => R x0 H) x1 x2 H) x1 H)) x1 H) H) H
theorem sounderlaw10_works_i (R : Value → Heap → Prop) (H : Heap) (h : sounderlaw10_works  R H) : wpE tab P sounderlaw10_works_pi sounderlaw10_works_c1 (retQ tab sounderlaw10_works_rs R) [undef, undef, undef, undef, undef, undef, undef, undef, undef, undef, undef, undef, undef, undef, undef, undef, undef, undef, undef, undef, undef, undef, undef, undef, undef, undef, undef, undef, undef, undef, undef, undef, undef, undef, undef, undef, undef, undef, undef, undef, undef, undef, undef, undef, undef, undef, undef, undef] H := by
  obtain ⟨l, hl, el⟩ : ∃ l : List Value, l.length = 48 ∧ l = [undef, undef, undef, undef, undef, undef, undef, undef, undef, undef, undef, undef, undef, undef, undef, undef, undef, undef, undef, undef, undef, undef, undef, undef, undef, undef, undef, undef, undef, undef, undef, undef, undef, undef, undef, undef, undef, undef, undef, undef, undef, undef, undef, undef, undef, undef, undef, undef] := ⟨_, rfl, rfl⟩
  rw [← el]
  have h : sounderlaw10_works_g15 (fun H => sounderlaw10_works_g16 (fun x1 H => sounderlaw10_works_g17 (fun x1 x18 H => brV x18
(sounderlaw10_works_g18 (fun x0 H => R x0 H) H)
(sounderlaw10_works_g19 (fun x1 x2 H => sounderlaw10_works_g20 (fun x0 H => R x0 H) x1 x2 H) x1 H)) x1 H) H) H := by exact h
  clear el
  refine seqI (c := sounderlaw10_works_c1) rfl ?_
  refine regI hl (Eq.mpr (sounderlaw10_works_g15_e _ (fun i => l.getD i undef) _) h) ?_
  clear h hl
  intro l H hl h
  refine thenN ?_
  refine seqI (c := sounderlaw10_works_c3) rfl ?_
  refine regI hl (Eq.mpr (sounderlaw10_works_g16_e _ (fun i => l.getD i undef) _) h) ?_
  clear h hl
  intro l H hl h
  refine thenN ?_
  refine seqI (c := sounderlaw10_works_c5) rfl ?_
  refine seqI (c := sounderlaw10_works_c6) rfl ?_
  refine regI hl (Eq.mpr (sounderlaw10_works_g17_e _ (fun i => l.getD i undef) _) h) ?_
  clear h hl
  intro l H hl h
  refine thenN ?_
  refine condI (c := sounderlaw10_works_c8) rfl h ?_ ?_
  · clear h; intro h
    refine seqI (c := sounderlaw10_works_c9) rfl ?_
    refine regI hl (Eq.mpr (sounderlaw10_works_g18_e _ (fun i => l.getD i undef) _) h) ?_
    clear h hl
    intro l H hl h
    refine thenN ?_
    refine retI rfl ?_
    refine thenR ?_
    exact h
  · clear h; intro h
    refine skipI rfl ?_
    refine thenN ?_
    refine seqI (c := sounderlaw10_works_c11) rfl ?_
    refine regI hl (Eq.mpr (sounderlaw10_works_g19_e _ (fun i => l.getD i undef) _) h) ?_
    clear h hl
    intro l H hl h
    refine thenN ?_
    refine seqI (c := sounderlaw10_works_c13) rfl ?_
    refine regI hl (Eq.mpr (sounderlaw10_works_g20_e _ (fun i => l.getD i undef) _) h) ?_
    clear h hl
    intro l H hl h
    refine thenN ?_
    refine retI rfl ?_
    exact h
theorem sounderlaw10_works_ok : okB sounderlaw10_works_pi sounderlaw10_works_c1 = true := by kernel_rfl
theorem sounderlaw10_works_ev0 (R : Value → Heap → Prop) (H : Heap) (h : sounderlaw10_works  R H) : EvL P N.sounderlaw10_works #[] H R :=
  EvF_intro (args := []) (k := 48) (rs := sounderlaw10_works_rs) tab_ok mixed Try.func12 (show Try.f12.body = some sounderlaw10_works_c1 by kernel_rfl) Try.call12 Try.ntmps12 (by kernel_rfl) (okCode_of _ sounderlaw10_works_ok) rfl (sounderlaw10_works_i R  H h)
theorem sounderlaw10_works_ev (R : Value → Heap → Prop) (H : Heap) (h : sounderlaw10_works  R H) : EvF P N.sounderlaw10_works #[] H R := .inl (sounderlaw10_works_ev0  R H h)
/- 13: sounder/sounderlaw10.at -/
def sounderlaw10_at_rs : List ResultVar := [.cell 4 38]
noncomputable def sounderlaw10_at_c2 : Code := subC (bodyC Try.f13) [0]
noncomputable def sounderlaw10_at_c4 : Code := subC (bodyC Try.f13) [1, 0]
noncomputable def sounderlaw10_at_c3 : Code := .seq sounderlaw10_at_c4 Code.ret
noncomputable def sounderlaw10_at_c1 : Code := .seq sounderlaw10_at_c2 sounderlaw10_at_c3
def sounderlaw10_at_pi (_ : Nat) : Pl := .nil
def sounderlaw10_at_g5 (S : Value → Value → Value → Heap → Prop) (x0 x1 : Value) (H : Heap) : Prop :=
  newE 38 #[(.int .i64 0), (.int .i64 0), (.int .i64 0), (.bool false), (.bool false), (.bool false)] H fun v4 H1 =>
  S x0 x1 v4 H1
theorem sounderlaw10_at_g5_e (S : Value → Value → Value → Heap → Prop) (x : Nat → Value) (H : Heap) : wpE tab P sounderlaw10_at_pi sounderlaw10_at_c2 (nQ fun l H => S (l.getD 0 undef) (l.getD 1 undef) (l.getD 4 undef) H) ((List.range 8).map x) H = sounderlaw10_at_g5 S (x 0) (x 1) H := by kernel_rfl
def sounderlaw10_at_g6 (S : Value → Heap → Prop) (x0 x1 x4 : Value) (H : Heap) : Prop :=
  bnd (buildV #[(.int .i64 0), (.int .i64 0), (.int .i64 0), (.bool false), (.bool false), (.bool false)] (places [(0, 1), (1, 1), (2, 1), (3, 1), (4, 1), (5, 1)]) [(0, x0), (1, x1), (2, (.int .i64 100)), (3, (.bool true)), (4, (.bool true))]) fun v7 =>
  bnd (stE 6 x4 v7 H) fun H1 =>
  S x4 H1
theorem sounderlaw10_at_g6_e (S : Value → Heap → Prop) (x : Nat → Value) (H : Heap) : wpE tab P sounderlaw10_at_pi sounderlaw10_at_c4 (nQ fun l H => S (l.getD 4 undef) H) ((List.range 8).map x) H = sounderlaw10_at_g6 S (x 0) (x 1) (x 4) H := by kernel_rfl
def sounderlaw10_at (x0 x1 : Value) (R : Value → Heap → Prop) (H : Heap) : Prop :=
  sounderlaw10_at_g5 (fun x0 x1 x4 H => sounderlaw10_at_g6 (fun x4 H => bnd (ldE true 6 x4 H) fun r0 =>
  R r0 H) x0 x1 x4 H) x0 x1 H
theorem sounderlaw10_at_i (R : Value → Heap → Prop) (x0 x1 : Value) (H : Heap) (h : sounderlaw10_at x0 x1 R H) : wpE tab P sounderlaw10_at_pi sounderlaw10_at_c1 (retQ tab sounderlaw10_at_rs R) [x0, x1, undef, undef, undef, undef, undef, undef] H := by
  obtain ⟨l, hl, el⟩ : ∃ l : List Value, l.length = 8 ∧ l = [x0, x1, undef, undef, undef, undef, undef, undef] := ⟨_, rfl, rfl⟩
  rw [← el]
  have h : (fun (x0 x1 : Value) => sounderlaw10_at_g5 (fun x0 x1 x4 H => sounderlaw10_at_g6 (fun x4 H => bnd (ldE true 6 x4 H) fun r0 =>
R r0 H) x0 x1 x4 H) x0 x1 H) (l.getD 0 undef) (l.getD 1 undef) := by rw [el]; exact h
  clear el
  refine seqI (c := sounderlaw10_at_c1) rfl ?_
  refine regI hl (Eq.mpr (sounderlaw10_at_g5_e _ (fun i => l.getD i undef) _) h) ?_
  clear h hl
  intro l H hl h
  refine thenN ?_
  refine seqI (c := sounderlaw10_at_c3) rfl ?_
  refine regI hl (Eq.mpr (sounderlaw10_at_g6_e _ (fun i => l.getD i undef) _) h) ?_
  clear h hl
  intro l H hl h
  refine thenN ?_
  refine retI rfl ?_
  exact h
theorem sounderlaw10_at_ok : okB sounderlaw10_at_pi sounderlaw10_at_c1 = true := by kernel_rfl
theorem sounderlaw10_at_ev0 (x0 x1 : Value) (R : Value → Heap → Prop) (H : Heap) (h : sounderlaw10_at x0 x1 R H) : EvL P N.sounderlaw10_at #[x0, x1] H R :=
  EvF_intro (args := [x0, x1]) (k := 6) (rs := sounderlaw10_at_rs) tab_ok mixed Try.func13 (show Try.f13.body = some sounderlaw10_at_c1 by kernel_rfl) Try.call13 Try.ntmps13 (by kernel_rfl) (okCode_of _ sounderlaw10_at_ok) rfl (sounderlaw10_at_i R x0 x1 H h)
theorem sounderlaw10_at_ev (x0 x1 : Value) (R : Value → Heap → Prop) (H : Heap) (h : sounderlaw10_at x0 x1 R H) : EvF P N.sounderlaw10_at #[x0, x1] H R := .inl (sounderlaw10_at_ev0 x0 x1 R H h)
/- 14: sounder/persist.Is -/
def persist_Is_rs : List ResultVar := [.tmp 8]
noncomputable def persist_Is_c2 : Code := subC (bodyC Try.f14) [0]
noncomputable def persist_Is_c4 : Code := subC (bodyC Try.f14) [1, 0]
noncomputable def persist_Is_c6 : Code := subC (bodyC Try.f14) [1, 1, 0]
noncomputable def persist_Is_c5 : Code := .seq persist_Is_c6 Code.ret
noncomputable def persist_Is_c3 : Code := .seq persist_Is_c4 persist_Is_c5
noncomputable def persist_Is_c1 : Code := .seq persist_Is_c2 persist_Is_c3
def persist_Is_pi (_ : Nat) : Pl := .nil
def persist_Is_g7 (S : Value → Value → Value → Value → Heap → Prop) (x0 x1 x2 x3 : Value) (H : Heap) : Prop :=
  newE 36 (Value.cells x2) H fun v6 H1 =>
  S x0 x1 x3 v6 H1
theorem persist_Is_g7_e (S : Value → Value → Value → Value → Heap → Prop) (x : Nat → Value) (H : Heap) : wpE tab P persist_Is_pi persist_Is_c2 (nQ fun l H => S (l.getD 0 undef) (l.getD 1 undef) (l.getD 3 undef) (l.getD 6 undef) H) ((List.range 36).map x) H = persist_Is_g7 S (x 0) (x 1) (x 2) (x 3) H := by kernel_rfl
def persist_Is_g8 (S : Value → Value → Value → Value → Heap → Prop) (x0 x1 x3 x6 : Value) (H : Heap) : Prop :=
  bnd (faV 4 x6) fun v16 =>
  bnd (ldE false 1 v16 H) fun v17 =>
  EvF P N.persist_Period #[x0, x1, v17] H fun v18 H1 =>
  bnd (exV 0 v18) fun v19 =>
  bnd (exV 1 v18) fun _ =>
  bnd (exV 2 v18) fun _ =>
  bnd (exV 3 v18) fun v22 =>
  S x3 x6 v19 v22 H1
theorem persist_Is_g8_e (S : Value → Value → Value → Value → Heap → Prop) (x : Nat → Value) (H : Heap) : wpE tab P persist_Is_pi persist_Is_c4 (nQ fun l H => S (l.getD 3 undef) (l.getD 6 undef) (l.getD 9 undef) (l.getD 12 undef) H) ((List.range 36).map x) H = persist_Is_g8 S (x 0) (x 1) (x 3) (x 6) H := by kernel_rfl
def persist_Is_g9 (S : Value → Heap → Prop) (x3 x6 x9 x12 : Value) (H : Heap) : Prop :=
  brV x12
  (bnd (ldE true 5 x6 H) fun v25 =>
  EvF P N.rtt_Check #[v25] H fun v26 H1 =>
  bnd (binV .int .eql v26 (.int .i64 0)) fun v27 =>
  brV v27
  (bnd (ldE true 5 x6 H1) fun v31 =>
  EvF P N.pto_Persist #[v31, x3] H1 fun v33 H2 =>
  bnd (binV .int .gtr x9 v33) fun v34 =>
  S v34 H2)
  (S (.bool false) H1))
  (S (.bool false) H)
theorem persist_Is_g9_e (S : Value → Heap → Prop) (x : Nat → Value) (H : Heap) : wpE tab P persist_Is_pi persist_Is_c6 (nQ fun l H => S (l.getD 8 undef) H) ((List.range 36).map x) H = persist_Is_g9 S (x 3) (x 6) (x 9) (x 12) H := by kernel_rfl
def persist_Is (x0 x1 x2 x3 : Value) (R : Value → Heap → Prop) (H : Heap) : Prop :=
  persist_Is_g7 (fun x0 x1 x3 x6 H => persist_Is_g8 (fun x3 x6 x9 x12 H => persist_Is_g9 (fun x8 H => R x8 H) x3 x6 x9 x12 H) x0 x1 x3 x6 H) x0 x1 x2 x3 H
theorem persist_Is_i (R : Value → Heap → Prop) (x0 x1 x2 x3 : Value) (H : Heap) (h : persist_Is x0 x1 x2 x3 R H) : wpE tab P persist_Is_pi persist_Is_c1 (retQ tab persist_Is_rs R) [x0, x1, x2, x3, undef, undef, undef, undef, undef, undef, undef, undef, undef, undef, undef, undef, undef, undef, undef, undef, undef, undef, undef, undef, undef, undef, undef, undef, undef, undef, undef, undef, undef, undef, undef, undef] H := by
  obtain ⟨l, hl, el⟩ : ∃ l : List Value, l.length = 36 ∧ l = [x0, x1, x2, x3, undef, undef, undef, undef, undef, undef, undef, undef, undef, undef, undef, undef, undef, undef, undef, undef, undef, undef, undef, undef, undef, undef, undef, undef, undef, undef, undef, undef, undef, undef, undef, undef] := ⟨_, rfl, rfl⟩
  rw [← el]
  have h : (fun (x0 x1 x2 x3 : Value) => persist_Is_g7 (fun x0 x1 x3 x6 H => persist_Is_g8 (fun x3 x6 x9 x12 H => persist_Is_g9 (fun x8 H => R x8 H) x3 x6 x9 x12 H) x0 x1 x3 x6 H) x0 x1 x2 x3 H) (l.getD 0 undef) (l.getD 1 undef) (l.getD 2 undef) (l.getD 3 undef) := by rw [el]; exact h
  clear el
  refine seqI (c := persist_Is_c1) rfl ?_
  refine regI hl (Eq.mpr (persist_Is_g7_e _ (fun i => l.getD i undef) _) h) ?_
  clear h hl
  intro l H hl h
  refine thenN ?_
  refine seqI (c := persist_Is_c3) rfl ?_
  refine regI hl (Eq.mpr (persist_Is_g8_e _ (fun i => l.getD i undef) _) h) ?_
  clear h hl
  intro l H hl h
  refine thenN ?_
  refine seqI (c := persist_Is_c5) rfl ?_
  refine regI hl (Eq.mpr (persist_Is_g9_e _ (fun i => l.getD i undef) _) h) ?_
  clear h hl
  intro l H hl h
  refine thenN ?_
  refine retI rfl ?_
  exact h
theorem persist_Is_ok : okB persist_Is_pi persist_Is_c1 = true := by kernel_rfl
theorem persist_Is_ev0 (x0 x1 x2 x3 : Value) (R : Value → Heap → Prop) (H : Heap) (h : persist_Is x0 x1 x2 x3 R H) : EvL P N.persist_Is #[x0, x1, x2, x3] H R :=
  EvF_intro (args := [x0, x1, x2, x3]) (k := 32) (rs := persist_Is_rs) tab_ok mixed Try.func14 (show Try.f14.body = some persist_Is_c1 by kernel_rfl) Try.call14 Try.ntmps14 (by kernel_rfl) (okCode_of _ persist_Is_ok) rfl (persist_Is_i R x0 x1 x2 x3 H h)
theorem persist_Is_ev (x0 x1 x2 x3 : Value) (R : Value → Heap → Prop) (H : Heap) (h : persist_Is x0 x1 x2 x3 R H) : EvF P N.persist_Is #[x0, x1, x2, x3] H R := .inl (persist_Is_ev0 x0 x1 x2 x3 R H h)
/- 15: sounder/sounderlaw10.four -/
def sounderlaw10_four_rs : List ResultVar := [.tmp 0]
noncomputable def sounderlaw10_four_c2 : Code := subC (bodyC Try.f15) [0]
noncomputable def sounderlaw10_four_c4 : Code := subC (bodyC Try.f15) [1, 0]
noncomputable def sounderlaw10_four_c3 : Code := .seq sounderlaw10_four_c4 Code.ret
noncomputable def sounderlaw10_four_c1 : Code := .seq sounderlaw10_four_c2 sounderlaw10_four_c3
def sounderlaw10_four_pi (_ : Nat) : Pl := .nil
def sounderlaw10_four_g5 (S : Heap → Prop) (H : Heap) : Prop :=
  S H
theorem sounderlaw10_four_g5_e (S : Heap → Prop) (x : Nat → Value) (H : Heap) : wpE tab P sounderlaw10_four_pi sounderlaw10_four_c2 (nQ fun _ H => S  H) ((List.range 6).map x) H = sounderlaw10_four_g5 S  H := by kernel_rfl
def sounderlaw10_four_g6 (S : Value → Heap → Prop) (H : Heap) : Prop :=
  EvF P N.sounderlaw10_at #[(.int .i64 1), (.int .i64 10)] H fun v1 H1 =>
  EvF P N.sounderlaw10_at #[(.int .i64 3), (.int .i64 50)] H1 fun v2 H2 =>
  EvF P N.sounderlaw10_at #[(.int .i64 5), (.int .i64 60)] H2 fun v3 H3 =>
  EvF P N.sounderlaw10_at #[(.int .i64 8), (.int .i64 200)] H3 fun v4 H4 =>
  bslE 38 #[(.int .i64 0), (.int .i64 0), (.int .i64 0), (.bool false), (.bool false), (.bool false)] 6 4 [(0, v1), (1, v2), (2, v3), (3, v4)] H4 fun v5 H5 =>
  S v5 H5
theorem sounderlaw10_four_g6_e (S : Value → Heap → Prop) (x : Nat → Value) (H : Heap) : wpE tab P sounderlaw10_four_pi sounderlaw10_four_c4 (nQ fun l H => S (l.getD 0 undef) H) ((List.range 6).map x) H = sounderlaw10_four_g6 S  H := by kernel_rfl
def sounderlaw10_four (R : Value → Heap → Prop) (H : Heap) : Prop :=
  sounderlaw10_four_g5 (fun H => sounderlaw10_four_g6 (fun x0 H => R x0 H) H) H
theorem sounderlaw10_four_i (R : Value → Heap → Prop) (H : Heap) (h : sounderlaw10_four  R H) : wpE tab P sounderlaw10_four_pi sounderlaw10_four_c1 (retQ tab sounderlaw10_four_rs R) [undef, undef, undef, undef, undef, undef] H := by
  obtain ⟨l, hl, el⟩ : ∃ l : List Value, l.length = 6 ∧ l = [undef, undef, undef, undef, undef, undef] := ⟨_, rfl, rfl⟩
  rw [← el]
  have h : sounderlaw10_four_g5 (fun H => sounderlaw10_four_g6 (fun x0 H => R x0 H) H) H := by exact h
  clear el
  refine seqI (c := sounderlaw10_four_c1) rfl ?_
  refine regI hl (Eq.mpr (sounderlaw10_four_g5_e _ (fun i => l.getD i undef) _) h) ?_
  clear h hl
  intro l H hl h
  refine thenN ?_
  refine seqI (c := sounderlaw10_four_c3) rfl ?_
  refine regI hl (Eq.mpr (sounderlaw10_four_g6_e _ (fun i => l.getD i undef) _) h) ?_
  clear h hl
  intro l H hl h
  refine thenN ?_
  refine retI rfl ?_
  exact h
theorem sounderlaw10_four_ok : okB sounderlaw10_four_pi sounderlaw10_four_c1 = true := by kernel_rfl
theorem sounderlaw10_four_ev0 (R : Value → Heap → Prop) (H : Heap) (h : sounderlaw10_four  R H) : EvL P N.sounderlaw10_four #[] H R :=
  EvF_intro (args := []) (k := 6) (rs := sounderlaw10_four_rs) tab_ok mixed Try.func15 (show Try.f15.body = some sounderlaw10_four_c1 by kernel_rfl) Try.call15 Try.ntmps15 (by kernel_rfl) (okCode_of _ sounderlaw10_four_ok) rfl (sounderlaw10_four_i R  H h)
theorem sounderlaw10_four_ev (R : Value → Heap → Prop) (H : Heap) (h : sounderlaw10_four  R H) : EvF P N.sounderlaw10_four #[] H R := .inl (sounderlaw10_four_ev0  R H h)
/- 17: sounder/sounderlaw10.is -/
def sounderlaw10_is_rs : List ResultVar := [.tmp 8]
noncomputable def sounderlaw10_is_c2 : Code := subC (bodyC Try.f17) [0]
noncomputable def sounderlaw10_is_c4 : Code := subC (bodyC Try.f17) [1, 0]
noncomputable def sounderlaw10_is_c6 : Code := subC (bodyC Try.f17) [1, 1, 0]
noncomputable def sounderlaw10_is_c5 : Code := .seq sounderlaw10_is_c6 Code.ret
noncomputable def sounderlaw10_is_c3 : Code := .seq sounderlaw10_is_c4 sounderlaw10_is_c5
noncomputable def sounderlaw10_is_c1 : Code := .seq sounderlaw10_is_c2 sounderlaw10_is_c3
def sounderlaw10_is_pi (_ : Nat) : Pl := .nil
def sounderlaw10_is_g7 (S : Value → Value → Value → Value → Heap → Prop) (x0 x1 x2 x3 : Value) (H : Heap) : Prop :=
  newE 24 (Value.cells x3) H fun v7 H1 =>
  S x0 x1 x2 v7 H1
theorem sounderlaw10_is_g7_e (S : Value → Value → Value → Value → Heap → Prop) (x : Nat → Value) (H : Heap) : wpE tab P sounderlaw10_is_pi sounderlaw10_is_c2 (nQ fun l H => S (l.getD 0 undef) (l.getD 1 undef) (l.getD 2 undef) (l.getD 7 undef) H) ((List.range 31).map x) H = sounderlaw10_is_g7 S (x 0) (x 1) (x 2) (x 3) H := by kernel_rfl
def sounderlaw10_is_g8 (S : Value → Value → Value → Value → Value → Heap → Prop) (x0 x1 x2 x7 : Value) (H : Heap) : Prop :=
  EvF P N.persist_Period #[x0, x1, x2] H fun v17 H1 =>
  bnd (exV 0 v17) fun v18 =>
  bnd (exV 1 v17) fun v19 =>
  bnd (exV 2 v17) fun v20 =>
  bnd (exV 3 v17) fun v21 =>
  S x7 v18 v19 v20 v21 H1
theorem sounderlaw10_is_g8_e (S : Value → Value → Value → Value → Value → Heap → Prop) (x : Nat → Value) (H : Heap) : wpE tab P sounderlaw10_is_pi sounderlaw10_is_c4 (nQ fun l H => S (l.getD 7 undef) (l.getD 9 undef) (l.getD 10 undef) (l.getD 11 undef) (l.getD 12 undef) H) ((List.range 31).map x) H = sounderlaw10_is_g8 S (x 0) (x 1) (x 2) (x 7) H := by kernel_rfl
def sounderlaw10_is_g9 (S : Value → Heap → Prop) (x7 x9 x10 x11 x12 : Value) (H : Heap) : Prop :=
  brV x12
  (bnd (buildV #[(.int .i64 0), (.int .i64 0), (.int .i64 0)] (every 1) [(0, x9), (1, x10), (2, x11)]) fun v27 =>
  bnd (ldE true 3 x7 H) fun v28 =>
  bnd (binV (.agg [true, true, true]) .eql v27 v28) fun v29 =>
  S v29 H)
  (S (.bool false) H)
theorem sounderlaw10_is_g9_e (S : Value → Heap → Prop) (x : Nat → Value) (H : Heap) : wpE tab P sounderlaw10_is_pi sounderlaw10_is_c6 (nQ fun l H => S (l.getD 8 undef) H) ((List.range 31).map x) H = sounderlaw10_is_g9 S (x 7) (x 9) (x 10) (x 11) (x 12) H := by kernel_rfl
def sounderlaw10_is (x0 x1 x2 x3 : Value) (R : Value → Heap → Prop) (H : Heap) : Prop :=
  sounderlaw10_is_g7 (fun x0 x1 x2 x7 H => sounderlaw10_is_g8 (fun x7 x9 x10 x11 x12 H => sounderlaw10_is_g9 (fun x8 H => R x8 H) x7 x9 x10 x11 x12 H) x0 x1 x2 x7 H) x0 x1 x2 x3 H
theorem sounderlaw10_is_i (R : Value → Heap → Prop) (x0 x1 x2 x3 : Value) (H : Heap) (h : sounderlaw10_is x0 x1 x2 x3 R H) : wpE tab P sounderlaw10_is_pi sounderlaw10_is_c1 (retQ tab sounderlaw10_is_rs R) [x0, x1, x2, x3, undef, undef, undef, undef, undef, undef, undef, undef, undef, undef, undef, undef, undef, undef, undef, undef, undef, undef, undef, undef, undef, undef, undef, undef, undef, undef, undef] H := by
  obtain ⟨l, hl, el⟩ : ∃ l : List Value, l.length = 31 ∧ l = [x0, x1, x2, x3, undef, undef, undef, undef, undef, undef, undef, undef, undef, undef, undef, undef, undef, undef, undef, undef, undef, undef, undef, undef, undef, undef, undef, undef, undef, undef, undef] := ⟨_, rfl, rfl⟩
  rw [← el]
  have h : (fun (x0 x1 x2 x3 : Value) => sounderlaw10_is_g7 (fun x0 x1 x2 x7 H => sounderlaw10_is_g8 (fun x7 x9 x10 x11 x12 H => sounderlaw10_is_g9 (fun x8 H => R x8 H) x7 x9 x10 x11 x12 H) x0 x1 x2 x7 H) x0 x1 x2 x3 H) (l.getD 0 undef) (l.getD 1 undef) (l.getD 2 undef) (l.getD 3 undef) := by rw [el]; exact h
  clear el
  refine seqI (c := sounderlaw10_is_c1) rfl ?_
  refine regI hl (Eq.mpr (sounderlaw10_is_g7_e _ (fun i => l.getD i undef) _) h) ?_
  clear h hl
  intro l H hl h
  refine thenN ?_
  refine seqI (c := sounderlaw10_is_c3) rfl ?_
  refine regI hl (Eq.mpr (sounderlaw10_is_g8_e _ (fun i => l.getD i undef) _) h) ?_
  clear h hl
  intro l H hl h
  refine thenN ?_
  refine seqI (c := sounderlaw10_is_c5) rfl ?_
  refine regI hl (Eq.mpr (sounderlaw10_is_g9_e _ (fun i => l.getD i undef) _) h) ?_
  clear h hl
  intro l H hl h
  refine thenN ?_
  refine retI rfl ?_
  exact h
theorem sounderlaw10_is_ok : okB sounderlaw10_is_pi sounderlaw10_is_c1 = true := by kernel_rfl
theorem sounderlaw10_is_ev0 (x0 x1 x2 x3 : Value) (R : Value → Heap → Prop) (H : Heap) (h : sounderlaw10_is x0 x1 x2 x3 R H) : EvL P N.sounderlaw10_is #[x0, x1, x2, x3] H R :=
  EvF_intro (args := [x0, x1, x2, x3]) (k := 27) (rs := sounderlaw10_is_rs) tab_ok mixed Try.func17 (show Try.f17.body = some sounderlaw10_is_c1 by kernel_rfl) Try.call17 Try.ntmps17 (by kernel_rfl) (okCode_of _ sounderlaw10_is_ok) rfl (sounderlaw10_is_i R x0 x1 x2 x3 H h)
theorem sounderlaw10_is_ev (x0 x1 x2 x3 : Value) (R : Value → Heap → Prop) (H : Heap) (h : sounderlaw10_is x0 x1 x2 x3 R H) : EvF P N.sounderlaw10_is #[x0, x1, x2, x3] H R := .inl (sounderlaw10_is_ev0 x0 x1 x2 x3 R H h)
/- 18: sounder/sounderlaw10.set -/
def sounderlaw10_set_rs : List ResultVar := [.tmp 2]
noncomputable def sounderlaw10_set_c2 : Code := subC (bodyC Try.f18) [0]
noncomputable def sounderlaw10_set_c4 : Code := subC (bodyC Try.f18) [1, 0]
noncomputable def sounderlaw10_set_c7 : Code := subC (bodyC Try.f18) [1, 1, 0, 0]
noncomputable def sounderlaw10_set_c12 : Code := subC (bodyC Try.f18) [1, 1, 0, 1, 0, 0, 0, 0]
noncomputable def sounderlaw10_set_c14 : Code := .exit 0
noncomputable def sounderlaw10_set_c13 : Code := .cond (.tmp 13) Code.skip sounderlaw10_set_c14
noncomputable def sounderlaw10_set_c11 : Code := .seq sounderlaw10_set_c12 sounderlaw10_set_c13
noncomputable def sounderlaw10_set_c17 : Code := subC (bodyC Try.f18) [1, 1, 0, 1, 0, 0, 1, 0, 0]
noncomputable def sounderlaw10_set_c16 : Code := .block 1 sounderlaw10_set_c17
noncomputable def sounderlaw10_set_c18 : Code := subC (bodyC Try.f18) [1, 1, 0, 1, 0, 0, 1, 1]
noncomputable def sounderlaw10_set_c15 : Code := .seq sounderlaw10_set_c16 sounderlaw10_set_c18
noncomputable def sounderlaw10_set_c10 : Code := .seq sounderlaw10_set_c11 sounderlaw10_set_c15
noncomputable def sounderlaw10_set_c9 : Code := .loop sounderlaw10_set_c10
noncomputable def sounderlaw10_set_c8 : Code := .block 0 sounderlaw10_set_c9
noncomputable def sounderlaw10_set_c6 : Code := .seq sounderlaw10_set_c7 sounderlaw10_set_c8
noncomputable def sounderlaw10_set_c20 : Code := subC (bodyC Try.f18) [1, 1, 1, 0]
noncomputable def sounderlaw10_set_c19 : Code := .seq sounderlaw10_set_c20 Code.ret
noncomputable def sounderlaw10_set_c5 : Code := .seq sounderlaw10_set_c6 sounderlaw10_set_c19
noncomputable def sounderlaw10_set_c3 : Code := .seq sounderlaw10_set_c4 sounderlaw10_set_c5
noncomputable def sounderlaw10_set_c1 : Code := .seq sounderlaw10_set_c2 sounderlaw10_set_c3
def sounderlaw10_set_pi (i : Nat) : Pl := match i with
  | 5 => (ones [0, 1, 2, 3, 4, 5, 6, 7, 8, 9, 10, 11] .nil)
  | _ => .nil
def sounderlaw10_set_g21 (S : Value → Heap → Prop) (x0 : Value) (H : Heap) : Prop :=
  S x0 H
theorem sounderlaw10_set_g21_e (S : Value → Heap → Prop) (x : Nat → Value) (H : Heap) : wpE tab P sounderlaw10_set_pi sounderlaw10_set_c2 (nQ fun l H => S (l.getD 0 undef) H) ((List.range 29).map x) H = sounderlaw10_set_g21 S (x 0) H := by kernel_rfl
def sounderlaw10_set_g22 (S : Value → Value → Heap → Prop) (x0 : Value) (H : Heap) : Prop :=
  EvF P N.span_New #[(.int .i64 256)] H fun v7 H1 =>
  bnd (exV 0 v7) fun v8 =>
  bnd (exV 1 v7) fun _ =>
  S x0 v8 H1
theorem sounderlaw10_set_g22_e (S : Value → Value → Heap → Prop) (x : Nat → Value) (H : Heap) : wpE tab P sounderlaw10_set_pi sounderlaw10_set_c4 (nQ fun l H => S (l.getD 0 undef) (l.getD 3 undef) H) ((List.range 29).map x) H = sounderlaw10_set_g22 S (x 0) H := by kernel_rfl
def sounderlaw10_set_g23 (S : Value → Value → Value → Heap → Prop) (x0 x3 : Value) (H : Heap) : Prop :=
  S x0 x3 (.int .i64 0) H
theorem sounderlaw10_set_g23_e (S : Value → Value → Value → Heap → Prop) (x : Nat → Value) (H : Heap) : wpE tab P sounderlaw10_set_pi sounderlaw10_set_c7 (nQ fun l H => S (l.getD 0 undef) (l.getD 3 undef) (l.getD 5 undef) H) ((List.range 29).map x) H = sounderlaw10_set_g23 S (x 0) (x 3) H := by kernel_rfl
def sounderlaw10_set_g25 (S : Value → Value → Value → Value → Heap → Prop) (x0 x3 x5 : Value) (H : Heap) : Prop :=
  bnd (lenV x0) fun v12 =>
  bnd (binV .int .lss x5 v12) fun v13 =>
  S x0 x3 x5 v13 H
theorem sounderlaw10_set_g25_e (S : Value → Value → Value → Value → Heap → Prop) (x : Nat → Value) (H : Heap) : wpE tab P sounderlaw10_set_pi sounderlaw10_set_c12 (nQ fun l H => S (l.getD 0 undef) (l.getD 3 undef) (l.getD 5 undef) (l.getD 13 undef) H) ((List.range 29).map x) H = sounderlaw10_set_g25 S (x 0) (x 3) (x 5) H := by kernel_rfl
def sounderlaw10_set_g26 (S : Value → Value → Value → Heap → Prop) (x0 x3 x5 : Value) (H : Heap) : Prop :=
  bnd (ixSV 2 x0 x5) fun v19 =>
  bnd (faV 0 v19) fun v20 =>
  bnd (ldE false 1 v20 H) fun v21 =>
  bnd (ixSV 2 x0 x5) fun v24 =>
  bnd (faV 1 v24) fun v25 =>
  bnd (ldE false 1 v25 H) fun v26 =>
  EvF P N.span_Set_Add #[x3, v21, v26] H fun _ H1 =>
  S x0 x3 x5 H1
theorem sounderlaw10_set_g26_e (S : Value → Value → Value → Heap → Prop) (x : Nat → Value) (H : Heap) : wpE tab P sounderlaw10_set_pi sounderlaw10_set_c17 (nQ fun l H => S (l.getD 0 undef) (l.getD 3 undef) (l.getD 5 undef) H) ((List.range 29).map x) H = sounderlaw10_set_g26 S (x 0) (x 3) (x 5) H := by kernel_rfl
def sounderlaw10_set_g27 (S : Value → Value → Value → Heap → Prop) (x0 x3 x5 : Value) (H : Heap) : Prop :=
  bnd (binV .int .add x5 (.int .i64 1)) fun v15 =>
  S x0 x3 v15 H
theorem sounderlaw10_set_g27_e (S : Value → Value → Value → Heap → Prop) (x : Nat → Value) (H : Heap) : wpE tab P sounderlaw10_set_pi sounderlaw10_set_c18 (nQ fun l H => S (l.getD 0 undef) (l.getD 3 undef) (l.getD 5 undef) H) ((List.range 29).map x) H = sounderlaw10_set_g27 S (x 0) (x 3) (x 5) H := by kernel_rfl
def sounderlaw10_set_g28 (S : Value → Heap → Prop) (x3 : Value) (H : Heap) : Prop :=
  S x3 H
theorem sounderlaw10_set_g28_e (S : Value → Heap → Prop) (x : Nat → Value) (H : Heap) : wpE tab P sounderlaw10_set_pi sounderlaw10_set_c20 (nQ fun l H => S (l.getD 2 undef) H) ((List.range 29).map x) H = sounderlaw10_set_g28 S (x 3) H := by kernel_rfl
def sounderlaw10_set_s24 (x0 x3 x5 : Value) (K1 : Value → Value → Value →  Heap → Prop) (R : Value → Heap → Prop) (H : Heap) : Prop :=
  sounderlaw10_set_g25 (fun x0 x3 x5 x13 H => brV x13
  (sounderlaw10_set_g26 (fun x0 x3 x5 H => sounderlaw10_set_g27 (fun x0 x3 x5 H => K1 x0 x3 x5 H) x0 x3 x5 H) x0 x3 x5 H)
  (sounderlaw10_set_g28 (fun x2 H => R x2 H) x3 H)) x0 x3 x5 H
noncomputable def sounderlaw10_set_q29 (R : Value → Heap → Prop) : Exit → List Value → Heap → Prop := (retQ tab sounderlaw10_set_rs R)
noncomputable def sounderlaw10_set_q30 (R : Value → Heap → Prop) : Exit → List Value → Heap → Prop := (thenE (fun l H => wpE tab P sounderlaw10_set_pi sounderlaw10_set_c19 (sounderlaw10_set_q29 R) l H) (sounderlaw10_set_q29 R))
noncomputable def sounderlaw10_set_q31 (R : Value → Heap → Prop) : Exit → List Value → Heap → Prop := (blkE 0 (sounderlaw10_set_q30 R))
noncomputable def sounderlaw10_set_q32 (K1 : Value → Value → Value →  Heap → Prop) (R : Value → Heap → Prop) : Exit → List Value → Heap → Prop := (thenE (fun l H => K1 (l.getD 0 undef) (l.getD 3 undef) (l.getD 5 undef) H) (sounderlaw10_set_q31 R))
theorem sounderlaw10_set_s24_i (K1 : Value → Value → Value →  Heap → Prop) (R : Value → Heap → Prop) (l : List Value) (H : Heap) (hl : l.length = 29) (h : sounderlaw10_set_s24 (l.getD 0 undef) (l.getD 3 undef) (l.getD 5 undef) K1 R H) : wpE tab P sounderlaw10_set_pi sounderlaw10_set_c10 (sounderlaw10_set_q32 K1 R) l H := by
  refine seqI (c := sounderlaw10_set_c10) rfl ?_
  refine seqI (c := sounderlaw10_set_c11) rfl ?_
  refine regI hl (Eq.mpr (sounderlaw10_set_g25_e _ (fun i => l.getD i undef) _) h) ?_
  clear h hl
  intro l H hl h
  refine thenN ?_
  refine condI (c := sounderlaw10_set_c13) rfl h ?_ ?_
  · clear h; intro h
    refine skipI rfl ?_
    refine thenN ?_
    refine seqI (c := sounderlaw10_set_c15) rfl ?_
    refine blockI (c := sounderlaw10_set_c16) rfl ?_
    refine regI hl (Eq.mpr (sounderlaw10_set_g26_e _ (fun i => l.getD i undef) _) h) ?_
    clear h hl
    intro l H hl h
    refine blkN ?_
    refine thenN ?_
    refine regI hl (Eq.mpr (sounderlaw10_set_g27_e _ (fun i => l.getD i undef) _) h) ?_
    clear h hl
    intro l H hl h
    refine thenN ?_
    exact h
  · clear h; intro h
    refine exitI (c := sounderlaw10_set_c14) rfl ?_
    refine thenX ?_
    refine thenX ?_
    refine blkX ?_
    refine thenN ?_
    refine seqI (c := sounderlaw10_set_c19) rfl ?_
    refine regI hl (Eq.mpr (sounderlaw10_set_g28_e _ (fun i => l.getD i undef) _) h) ?_
    clear h hl
    intro l H hl h
    refine thenN ?_
    refine retI rfl ?_
    exact h
def sounderlaw10_set_l33 (x0 x3 x5 : Value) (R : Value → Heap → Prop) (H : Heap) : Prop :=
  ∃ (I : Value → Heap → Prop) (μ : Value → Heap → Nat), I x5 H ∧ ∀ (y5 : Value) (H : Heap), I y5 H → sounderlaw10_set_s24 x0 x3 y5 (fun z0 z3 z5 H' => z0 = x0 ∧ z3 = x3 ∧ (I z5 H' ∧ μ z5 H' < μ y5 H)) R H
def sounderlaw10_set (x0 : Value) (R : Value → Heap → Prop) (H : Heap) : Prop :=
  sounderlaw10_set_g21 (fun x0 H => sounderlaw10_set_g22 (fun x0 x3 H => sounderlaw10_set_g23 (fun x0 x3 x5 H => sounderlaw10_set_l33 x0 x3 x5 R H) x0 x3 H) x0 H) x0 H
theorem sounderlaw10_set_i (R : Value → Heap → Prop) (x0 : Value) (H : Heap) (h : sounderlaw10_set x0 R H) : wpE tab P sounderlaw10_set_pi sounderlaw10_set_c1 (retQ tab sounderlaw10_set_rs R) [x0, undef, undef, undef, undef, undef, undef, undef, undef, undef, undef, undef, undef, undef, undef, undef, undef, undef, undef, undef, undef, undef, undef, undef, undef, undef, undef, undef, undef] H := by
  obtain ⟨l, hl, el⟩ : ∃ l : List Value, l.length = 29 ∧ l = [x0, undef, undef, undef, undef, undef, undef, undef, undef, undef, undef, undef, undef, undef, undef, undef, undef, undef, undef, undef, undef, undef, undef, undef, undef, undef, undef, undef, undef] := ⟨_, rfl, rfl⟩
  rw [← el]
  have h : (fun (x0 : Value) => sounderlaw10_set_g21 (fun x0 H => sounderlaw10_set_g22 (fun x0 x3 H => sounderlaw10_set_g23 (fun x0 x3 x5 H => sounderlaw10_set_l33 x0 x3 x5 R H) x0 x3 H) x0 H) x0 H) (l.getD 0 undef) := by rw [el]; exact h
  clear el
  refine seqI (c := sounderlaw10_set_c1) rfl ?_
  refine regI hl (Eq.mpr (sounderlaw10_set_g21_e _ (fun i => l.getD i undef) _) h) ?_
  clear h hl
  intro l H hl h
  refine thenN ?_
  refine seqI (c := sounderlaw10_set_c3) rfl ?_
  refine regI hl (Eq.mpr (sounderlaw10_set_g22_e _ (fun i => l.getD i undef) _) h) ?_
  clear h hl
  intro l H hl h
  refine thenN ?_
  refine seqI (c := sounderlaw10_set_c5) rfl ?_
  refine seqI (c := sounderlaw10_set_c6) rfl ?_
  refine regI hl (Eq.mpr (sounderlaw10_set_g23_e _ (fun i => l.getD i undef) _) h) ?_
  clear h hl
  intro l H hl h
  refine thenN ?_
  refine blockI (c := sounderlaw10_set_c8) rfl ?_
  obtain ⟨I, μ, h0, hr⟩ := h
  refine loopI (c := sounderlaw10_set_c9) rfl (fun l' H' => l'.getD 0 undef = l.getD 0 undef ∧ l'.getD 3 undef = l.getD 3 undef ∧ I (l'.getD 5 undef) H') (fun l' H' => μ (l'.getD 5 undef) H') hl ⟨rfl, rfl, h0⟩ ?_
  rintro l1 H1 hl1 ⟨e0, e3, hI⟩
  have hb := hr (l1.getD 5 undef) H1 hI
  rw [← e0, ← e3] at hb
  refine wpE_mono _ l1 H1 hl1 ?_ (sounderlaw10_set_s24_i _ R l1 H1 hl1 hb)
  intro e l2 H2 hl2 hq
  cases e with
  | normal => exact fun _ => (by obtain ⟨d0, d3, g1, g2⟩ := hq; exact ⟨⟨d0.trans e0, d3.trans e3, g1⟩, g2⟩)
  | _ => exact hq
theorem sounderlaw10_set_ok : okB sounderlaw10_set_pi sounderlaw10_set_c1 = true := by kernel_rfl
theorem sounderlaw10_set_ev0 (x0 : Value) (R : Value → Heap → Prop) (H : Heap) (h : sounderlaw10_set x0 R H) : EvL P N.sounderlaw10_set #[x0] H R :=
  EvF_intro (args := [x0]) (k := 28) (rs := sounderlaw10_set_rs) tab_ok mixed Try.func18 (show Try.f18.body = some sounderlaw10_set_c1 by kernel_rfl) Try.call18 Try.ntmps18 (by kernel_rfl) (okCode_of _ sounderlaw10_set_ok) rfl (sounderlaw10_set_i R x0 H h)
theorem sounderlaw10_set_ev (x0 : Value) (R : Value → Heap → Prop) (H : Heap) (h : sounderlaw10_set x0 R H) : EvF P N.sounderlaw10_set #[x0] H R := .inl (sounderlaw10_set_ev0 x0 R H h)
/- 19: sounder/sounderlaw10.none -/
def sounderlaw10_none_rs : List ResultVar := [.tmp 6]
noncomputable def sounderlaw10_none_c2 : Code := subC (bodyC Try.f19) [0]
noncomputable def sounderlaw10_none_c4 : Code := subC (bodyC Try.f19) [1, 0]
noncomputable def sounderlaw10_none_c6 : Code := subC (bodyC Try.f19) [1, 1, 0]
noncomputable def sounderlaw10_none_c5 : Code := .seq sounderlaw10_none_c6 Code.ret
noncomputable def sounderlaw10_none_c3 : Code := .seq sounderlaw10_none_c4 sounderlaw10_none_c5
noncomputable def sounderlaw10_none_c1 : Code := .seq sounderlaw10_none_c2 sounderlaw10_none_c3
def sounderlaw10_none_pi (_ : Nat) : Pl := .nil
def sounderlaw10_none_g7 (S : Value → Value → Value → Heap → Prop) (x0 x1 x2 : Value) (H : Heap) : Prop :=
  S x0 x1 x2 H
theorem sounderlaw10_none_g7_e (S : Value → Value → Value → Heap → Prop) (x : Nat → Value) (H : Heap) : wpE tab P sounderlaw10_none_pi sounderlaw10_none_c2 (nQ fun l H => S (l.getD 0 undef) (l.getD 1 undef) (l.getD 2 undef) H) ((List.range 34).map x) H = sounderlaw10_none_g7 S (x 0) (x 1) (x 2) H := by kernel_rfl
def sounderlaw10_none_g8 (S : Value → Value → Value → Value → Heap → Prop) (x0 x1 x2 : Value) (H : Heap) : Prop :=
  EvF P N.persist_Period #[x0, x1, x2] H fun v15 H1 =>
  bnd (exV 0 v15) fun v16 =>
  bnd (exV 1 v15) fun v17 =>
  bnd (exV 2 v15) fun v18 =>
  bnd (exV 3 v15) fun v19 =>
  S v16 v17 v18 v19 H1
theorem sounderlaw10_none_g8_e (S : Value → Value → Value → Value → Heap → Prop) (x : Nat → Value) (H : Heap) : wpE tab P sounderlaw10_none_pi sounderlaw10_none_c4 (nQ fun l H => S (l.getD 7 undef) (l.getD 8 undef) (l.getD 9 undef) (l.getD 10 undef) H) ((List.range 34).map x) H = sounderlaw10_none_g8 S (x 0) (x 1) (x 2) H := by kernel_rfl
def sounderlaw10_none_g9 (S : Value → Heap → Prop) (x7 x8 x9 x10 : Value) (H : Heap) : Prop :=
  bnd (unV .not x10) fun v21 =>
  brV v21
  (bnd (binV .int .eql x7 (.int .i64 0)) fun v24 =>
  brV v24
  (bnd (binV .int .eql x8 (.int .i64 0)) fun v28 =>
  brV v28
  (bnd (binV .int .eql x9 (.int .i64 0)) fun v32 =>
  S v32 H)
  (S (.bool false) H))
  (S (.bool false) H))
  (S (.bool false) H)
theorem sounderlaw10_none_g9_e (S : Value → Heap → Prop) (x : Nat → Value) (H : Heap) : wpE tab P sounderlaw10_none_pi sounderlaw10_none_c6 (nQ fun l H => S (l.getD 6 undef) H) ((List.range 34).map x) H = sounderlaw10_none_g9 S (x 7) (x 8) (x 9) (x 10) H := by kernel_rfl
def sounderlaw10_none (x0 x1 x2 : Value) (R : Value → Heap → Prop) (H : Heap) : Prop :=
  sounderlaw10_none_g7 (fun x0 x1 x2 H => sounderlaw10_none_g8 (fun x7 x8 x9 x10 H => sounderlaw10_none_g9 (fun x6 H => R x6 H) x7 x8 x9 x10 H) x0 x1 x2 H) x0 x1 x2 H
theorem sounderlaw10_none_i (R : Value → Heap → Prop) (x0 x1 x2 : Value) (H : Heap) (h : sounderlaw10_none x0 x1 x2 R H) : wpE tab P sounderlaw10_none_pi sounderlaw10_none_c1 (retQ tab sounderlaw10_none_rs R) [x0, x1, x2, undef, undef, undef, undef, undef, undef, undef, undef, undef, undef, undef, undef, undef, undef, undef, undef, undef, undef, undef, undef, undef, undef, undef, undef, undef, undef, undef, undef, undef, undef, undef] H := by
  obtain ⟨l, hl, el⟩ : ∃ l : List Value, l.length = 34 ∧ l = [x0, x1, x2, undef, undef, undef, undef, undef, undef, undef, undef, undef, undef, undef, undef, undef, undef, undef, undef, undef, undef, undef, undef, undef, undef, undef, undef, undef, undef, undef, undef, undef, undef, undef] := ⟨_, rfl, rfl⟩
  rw [← el]
  have h : (fun (x0 x1 x2 : Value) => sounderlaw10_none_g7 (fun x0 x1 x2 H => sounderlaw10_none_g8 (fun x7 x8 x9 x10 H => sounderlaw10_none_g9 (fun x6 H => R x6 H) x7 x8 x9 x10 H) x0 x1 x2 H) x0 x1 x2 H) (l.getD 0 undef) (l.getD 1 undef) (l.getD 2 undef) := by rw [el]; exact h
  clear el
  refine seqI (c := sounderlaw10_none_c1) rfl ?_
  refine regI hl (Eq.mpr (sounderlaw10_none_g7_e _ (fun i => l.getD i undef) _) h) ?_
  clear h hl
  intro l H hl h
  refine thenN ?_
  refine seqI (c := sounderlaw10_none_c3) rfl ?_
  refine regI hl (Eq.mpr (sounderlaw10_none_g8_e _ (fun i => l.getD i undef) _) h) ?_
  clear h hl
  intro l H hl h
  refine thenN ?_
  refine seqI (c := sounderlaw10_none_c5) rfl ?_
  refine regI hl (Eq.mpr (sounderlaw10_none_g9_e _ (fun i => l.getD i undef) _) h) ?_
  clear h hl
  intro l H hl h
  refine thenN ?_
  refine retI rfl ?_
  exact h
theorem sounderlaw10_none_ok : okB sounderlaw10_none_pi sounderlaw10_none_c1 = true := by kernel_rfl
theorem sounderlaw10_none_ev0 (x0 x1 x2 : Value) (R : Value → Heap → Prop) (H : Heap) (h : sounderlaw10_none x0 x1 x2 R H) : EvL P N.sounderlaw10_none #[x0, x1, x2] H R :=
  EvF_intro (args := [x0, x1, x2]) (k := 31) (rs := sounderlaw10_none_rs) tab_ok mixed Try.func19 (show Try.f19.body = some sounderlaw10_none_c1 by kernel_rfl) Try.call19 Try.ntmps19 (by kernel_rfl) (okCode_of _ sounderlaw10_none_ok) rfl (sounderlaw10_none_i R x0 x1 x2 H h)
theorem sounderlaw10_none_ev (x0 x1 x2 : Value) (R : Value → Heap → Prop) (H : Heap) (h : sounderlaw10_none x0 x1 x2 R H) : EvF P N.sounderlaw10_none #[x0, x1, x2] H R := .inl (sounderlaw10_none_ev0 x0 x1 x2 R H h)
/- 20: (*sounder/span.Set).Has -/
def span_Set_Has_rs : List ResultVar := [.tmp 4]
noncomputable def span_Set_Has_c2 : Code := subC (bodyC Try.f20) [0]
noncomputable def span_Set_Has_c4 : Code := subC (bodyC Try.f20) [1, 0]
noncomputable def span_Set_Has_c6 : Code := subC (bodyC Try.f20) [1, 1, 0]
noncomputable def span_Set_Has_c5 : Code := .seq span_Set_Has_c6 Code.ret
noncomputable def span_Set_Has_c3 : Code := .seq span_Set_Has_c4 span_Set_Has_c5
noncomputable def span_Set_Has_c1 : Code := .seq span_Set_Has_c2 span_Set_Has_c3
def span_Set_Has_pi (_ : Nat) : Pl := .nil
def span_Set_Has_g7 (S : Value → Value → Heap → Prop) (x0 x1 : Value) (H : Heap) : Prop :=
  S x0 x1 H
theorem span_Set_Has_g7_e (S : Value → Value → Heap → Prop) (x : Nat → Value) (H : Heap) : wpE tab P span_Set_Has_pi span_Set_Has_c2 (nQ fun l H => S (l.getD 0 undef) (l.getD 1 undef) H) ((List.range 14).map x) H = span_Set_Has_g7 S (x 0) (x 1) H := by kernel_rfl
def span_Set_Has_g8 (S : Value → Heap → Prop) (x0 x1 : Value) (H : Heap) : Prop :=
  EvF P N.span_Set_at #[x0, x1] H fun v10 H1 =>
  bnd (exV 0 v10) fun v11 =>
  bnd (exV 1 v10) fun v12 =>
  newE 45 #[(.int .i64 0), (.int .i64 0)] H1 fun v5 H2 =>
  bnd (stE 2 v5 v11 H2) fun H3 =>
  S v12 H3
theorem span_Set_Has_g8_e (S : Value → Heap → Prop) (x : Nat → Value) (H : Heap) : wpE tab P span_Set_Has_pi span_Set_Has_c4 (nQ fun l H => S (l.getD 6 undef) H) ((List.range 14).map x) H = span_Set_Has_g8 S (x 0) (x 1) H := by kernel_rfl
def span_Set_Has_g9 (S : Value → Heap → Prop) (x6 : Value) (H : Heap) : Prop :=
  S x6 H
theorem span_Set_Has_g9_e (S : Value → Heap → Prop) (x : Nat → Value) (H : Heap) : wpE tab P span_Set_Has_pi span_Set_Has_c6 (nQ fun l H => S (l.getD 4 undef) H) ((List.range 14).map x) H = span_Set_Has_g9 S (x 6) H := by kernel_rfl
def span_Set_Has (x0 x1 : Value) (R : Value → Heap → Prop) (H : Heap) : Prop :=
  span_Set_Has_g7 (fun x0 x1 H => span_Set_Has_g8 (fun x6 H => span_Set_Has_g9 (fun x4 H => R x4 H) x6 H) x0 x1 H) x0 x1 H
theorem span_Set_Has_i (R : Value → Heap → Prop) (x0 x1 : Value) (H : Heap) (h : span_Set_Has x0 x1 R H) : wpE tab P span_Set_Has_pi span_Set_Has_c1 (retQ tab span_Set_Has_rs R) [x0, x1, undef, undef, undef, undef, undef, undef, undef, undef, undef, undef, undef, undef] H := by
  obtain ⟨l, hl, el⟩ : ∃ l : List Value, l.length = 14 ∧ l = [x0, x1, undef, undef, undef, undef, undef, undef, undef, undef, undef, undef, undef, undef] := ⟨_, rfl, rfl⟩
  rw [← el]
  have h : (fun (x0 x1 : Value) => span_Set_Has_g7 (fun x0 x1 H => span_Set_Has_g8 (fun x6 H => span_Set_Has_g9 (fun x4 H => R x4 H) x6 H) x0 x1 H) x0 x1 H) (l.getD 0 undef) (l.getD 1 undef) := by rw [el]; exact h
  clear el
  refine seqI (c := span_Set_Has_c1) rfl ?_
  refine regI hl (Eq.mpr (span_Set_Has_g7_e _ (fun i => l.getD i undef) _) h) ?_
  clear h hl
  intro l H hl h
  refine thenN ?_
  refine seqI (c := span_Set_Has_c3) rfl ?_
  refine regI hl (Eq.mpr (span_Set_Has_g8_e _ (fun i => l.getD i undef) _) h) ?_
  clear h hl
  intro l H hl h
  refine thenN ?_
  refine seqI (c := span_Set_Has_c5) rfl ?_
  refine regI hl (Eq.mpr (span_Set_Has_g9_e _ (fun i => l.getD i undef) _) h) ?_
  clear h hl
  intro l H hl h
  refine thenN ?_
  refine retI rfl ?_
  exact h
theorem span_Set_Has_ok : okB span_Set_Has_pi span_Set_Has_c1 = true := by kernel_rfl
theorem span_Set_Has_ev0 (x0 x1 : Value) (R : Value → Heap → Prop) (H : Heap) (h : span_Set_Has x0 x1 R H) : EvL P N.span_Set_Has #[x0, x1] H R :=
  EvF_intro (args := [x0, x1]) (k := 12) (rs := span_Set_Has_rs) tab_ok mixed Try.func20 (show Try.f20.body = some span_Set_Has_c1 by kernel_rfl) Try.call20 Try.ntmps20 (by kernel_rfl) (okCode_of _ span_Set_Has_ok) rfl (span_Set_Has_i R x0 x1 H h)
theorem span_Set_Has_ev (x0 x1 : Value) (R : Value → Heap → Prop) (H : Heap) (h : span_Set_Has x0 x1 R H) : EvF P N.span_Set_Has #[x0, x1] H R := .inl (span_Set_Has_ev0 x0 x1 R H h)
/- 21: (*sounder/span.Set).Add -/
def span_Set_Add_rs : List ResultVar := [.tmp 6]
noncomputable def span_Set_Add_c2 : Code := subC (bodyC Try.f21) [0]
noncomputable def span_Set_Add_c6 : Code := subC (bodyC Try.f21) [1, 0, 0, 0]
noncomputable def span_Set_Add_c9 : Code := subC (bodyC Try.f21) [1, 0, 0, 1, 0, 0]
noncomputable def span_Set_Add_c8 : Code := .seq span_Set_Add_c9 Code.ret
noncomputable def span_Set_Add_c12 : Code := subC (bodyC Try.f21) [1, 0, 0, 1, 1, 0, 0]
noncomputable def span_Set_Add_c15 : Code := subC (bodyC Try.f21) [1, 0, 0, 1, 1, 0, 1, 1, 0]
noncomputable def span_Set_Add_c17 : Code := subC (bodyC Try.f21) [1, 0, 0, 1, 1, 0, 1, 1, 1, 1]
noncomputable def span_Set_Add_c16 : Code := .cond (.tmp 13) Code.skip span_Set_Add_c17
noncomputable def span_Set_Add_c14 : Code := .seq span_Set_Add_c15 span_Set_Add_c16
noncomputable def span_Set_Add_c13 : Code := .cond (.tmp 13) Code.skip span_Set_Add_c14
noncomputable def span_Set_Add_c11 : Code := .seq span_Set_Add_c12 span_Set_Add_c13
noncomputable def span_Set_Add_c20 : Code := subC (bodyC Try.f21) [1, 0, 0, 1, 1, 1, 0, 0]
noncomputable def span_Set_Add_c19 : Code := .seq span_Set_Add_c20 Code.ret
noncomputable def span_Set_Add_c18 : Code := .cond (.tmp 13) span_Set_Add_c19 Code.skip
noncomputable def span_Set_Add_c10 : Code := .seq span_Set_Add_c11 span_Set_Add_c18
noncomputable def span_Set_Add_c7 : Code := .cond (.tmp 10) span_Set_Add_c8 span_Set_Add_c10
noncomputable def span_Set_Add_c5 : Code := .seq span_Set_Add_c6 span_Set_Add_c7
noncomputable def span_Set_Add_c4 : Code := .block 0 span_Set_Add_c5
noncomputable def span_Set_Add_c22 : Code := subC (bodyC Try.f21) [1, 1, 0]
noncomputable def span_Set_Add_c24 : Code := subC (bodyC Try.f21) [1, 1, 1, 0]
noncomputable def span_Set_Add_c26 : Code := subC (bodyC Try.f21) [1, 1, 1, 1, 0]
noncomputable def span_Set_Add_c29 : Code := subC (bodyC Try.f21) [1, 1, 1, 1, 1, 0, 0]
noncomputable def span_Set_Add_c31 : Code := subC (bodyC Try.f21) [1, 1, 1, 1, 1, 0, 1, 0]
noncomputable def span_Set_Add_c30 : Code := .cond (.tmp 39) span_Set_Add_c31 Code.skip
noncomputable def span_Set_Add_c28 : Code := .seq span_Set_Add_c29 span_Set_Add_c30
noncomputable def span_Set_Add_c34 : Code := subC (bodyC Try.f21) [1, 1, 1, 1, 1, 1, 0, 0]
noncomputable def span_Set_Add_c37 : Code := subC (bodyC Try.f21) [1, 1, 1, 1, 1, 1, 0, 1, 0, 0]
noncomputable def span_Set_Add_c36 : Code := .seq span_Set_Add_c37 Code.ret
noncomputable def span_Set_Add_c35 : Code := .cond (.tmp 76) span_Set_Add_c36 Code.skip
noncomputable def span_Set_Add_c33 : Code := .seq span_Set_Add_c34 span_Set_Add_c35
noncomputable def span_Set_Add_c39 : Code := subC (bodyC Try.f21) [1, 1, 1, 1, 1, 1, 1, 0]
noncomputable def span_Set_Add_c41 : Code := subC (bodyC Try.f21) [1, 1, 1, 1, 1, 1, 1, 1, 0]
noncomputable def span_Set_Add_c40 : Code := .seq span_Set_Add_c41 Code.ret
noncomputable def span_Set_Add_c38 : Code := .seq span_Set_Add_c39 span_Set_Add_c40
noncomputable def span_Set_Add_c32 : Code := .seq span_Set_Add_c33 span_Set_Add_c38
noncomputable def span_Set_Add_c27 : Code := .seq span_Set_Add_c28 span_Set_Add_c32
noncomputable def span_Set_Add_c25 : Code := .seq span_Set_Add_c26 span_Set_Add_c27
noncomputable def span_Set_Add_c23 : Code := .seq span_Set_Add_c24 span_Set_Add_c25
noncomputable def span_Set_Add_c21 : Code := .seq span_Set_Add_c22 span_Set_Add_c23
noncomputable def span_Set_Add_c3 : Code := .seq span_Set_Add_c4 span_Set_Add_c21
noncomputable def span_Set_Add_c1 : Code := .seq span_Set_Add_c2 span_Set_Add_c3
def span_Set_Add_pi (i : Nat) : Pl := match i with
  | 11 => (ones [0, 1, 2, 3, 4, 5, 6, 7, 8, 9, 10, 11, 12, 13, 14, 15, 16, 17, 18, 19, 20, 21, 22] .nil)
  | 12 => (ones [0, 1, 2, 3, 4, 5, 6, 7, 8, 9, 10, 11, 12, 13, 14] .nil)
  | 14 => (ones [0, 1, 2, 3, 4, 5, 6, 7, 8, 9, 10, 11, 12] .nil)
  | _ => .nil
def span_Set_Add_g42 (S : Value → Value → Value → Heap → Prop) (x0 x1 x2 : Value) (H : Heap) : Prop :=
  newE 28 (Value.cells x0) H fun v3 H1 =>
  newE 3 (Value.cells x2) H1 fun v5 H2 =>
  S x1 v3 v5 H2
theorem span_Set_Add_g42_e (S : Value → Value → Value → Heap → Prop) (x : Nat → Value) (H : Heap) : wpE tab P span_Set_Add_pi span_Set_Add_c2 (nQ fun l H => S (l.getD 1 undef) (l.getD 3 undef) (l.getD 5 undef) H) ((List.range 89).map x) H = span_Set_Add_g42 S (x 0) (x 1) (x 2) H := by kernel_rfl
def span_Set_Add_g43 (S : Value → Value → Value → Value → Heap → Prop) (x1 x3 x5 : Value) (H : Heap) : Prop :=
  bnd (ldE false 1 x3 H) fun v11 =>
  EvF P N.span_Set_none #[v11] H fun v12 H1 =>
  S x1 x3 x5 v12 H1
theorem span_Set_Add_g43_e (S : Value → Value → Value → Value → Heap → Prop) (x : Nat → Value) (H : Heap) : wpE tab P span_Set_Add_pi span_Set_Add_c6 (nQ fun l H => S (l.getD 1 undef) (l.getD 3 undef) (l.getD 5 undef) (l.getD 10 undef) H) ((List.range 89).map x) H = span_Set_Add_g43 S (x 1) (x 3) (x 5) H := by kernel_rfl
def span_Set_Add_g44 (S : Value → Heap → Prop) (H : Heap) : Prop :=
  S (.int .i64 1) H
theorem span_Set_Add_g44_e (S : Value → Heap → Prop) (x : Nat → Value) (H : Heap) : wpE tab P span_Set_Add_pi span_Set_Add_c9 (nQ fun l H => S (l.getD 6 undef) H) ((List.range 89).map x) H = span_Set_Add_g44 S  H := by kernel_rfl
def span_Set_Add_g46 (S : Value → Heap → Prop) (H : Heap) : Prop :=
  S (.int .i64 2) H
theorem span_Set_Add_g46_e (S : Value → Heap → Prop) (x : Nat → Value) (H : Heap) : wpE tab P span_Set_Add_pi span_Set_Add_c20 (nQ fun l H => S (l.getD 6 undef) H) ((List.range 89).map x) H = span_Set_Add_g46 S  H := by kernel_rfl
def span_Set_Add_g47 (S : Value → Value → Value → Value → Heap → Prop) (x1 x3 x5 : Value) (H : Heap) : Prop :=
  bnd (ldE false 1 x3 H) fun v23 =>
  bnd (binV .int .sub x1 (.int .i64 1)) fun v25 =>
  EvF P N.span_Set_first #[v23, v25] H fun v26 H1 =>
  S x1 x3 x5 v26 H1
theorem span_Set_Add_g47_e (S : Value → Value → Value → Value → Heap → Prop) (x : Nat → Value) (H : Heap) : wpE tab P span_Set_Add_pi span_Set_Add_c22 (nQ fun l H => S (l.getD 1 undef) (l.getD 3 undef) (l.getD 5 undef) (l.getD 7 undef) H) ((List.range 89).map x) H = span_Set_Add_g47 S (x 1) (x 3) (x 5) H := by kernel_rfl
def span_Set_Add_g48 (S : Value → Value → Value → Value → Value → Heap → Prop) (x1 x3 x5 x7 : Value) (H : Heap) : Prop :=
  bnd (ldE false 1 x3 H) fun v27 =>
  bnd (nilV v27) fun v28 =>
  bnd (faV 1 v28) fun v29 =>
  bnd (ldE false 1 v29 H) fun v30 =>
  bnd (lenV v30) fun v31 =>
  EvF P N.sort_Search #[v31, (.func (.func N.span_Set_Add_1) #[] #[x3, x5])] H fun v33 H1 =>
  S x1 x3 x5 x7 v33 H1
theorem span_Set_Add_g48_e (S : Value → Value → Value → Value → Value → Heap → Prop) (x : Nat → Value) (H : Heap) : wpE tab P span_Set_Add_pi span_Set_Add_c24 (nQ fun l H => S (l.getD 1 undef) (l.getD 3 undef) (l.getD 5 undef) (l.getD 7 undef) (l.getD 8 undef) H) ((List.range 89).map x) H = span_Set_Add_g48 S (x 1) (x 3) (x 5) (x 7) H := by kernel_rfl
def span_Set_Add_g49 (S : Value → Value → Value → Value → Value → Value → Heap → Prop) (x1 x3 x5 x7 x8 : Value) (H : Heap) : Prop :=
  bnd (ldE false 1 x5 H) fun v35 =>
  bnd (buildV #[(.int .i64 0), (.int .i64 0)] (places [(0, 1), (1, 1)]) [(0, x1), (1, v35)]) fun v36 =>
  newE 45 #[(.int .i64 0), (.int .i64 0)] H fun v9 H1 =>
  bnd (stE 2 v9 v36 H1) fun H2 =>
  S x1 x3 x5 x7 x8 v9 H2
theorem span_Set_Add_g49_e (S : Value → Value → Value → Value → Value → Value → Heap → Prop) (x : Nat → Value) (H : Heap) : wpE tab P span_Set_Add_pi span_Set_Add_c26 (nQ fun l H => S (l.getD 1 undef) (l.getD 3 undef) (l.getD 5 undef) (l.getD 7 undef) (l.getD 8 undef) (l.getD 9 undef) H) ((List.range 89).map x) H = span_Set_Add_g49 S (x 1) (x 3) (x 5) (x 7) (x 8) H := by kernel_rfl
def span_Set_Add_g51 (S : Value → Value → Value → Value → Value → Heap → Prop) (x3 x7 x8 x9 : Value) (H : Heap) : Prop :=
  bnd (ldE false 1 x3 H) fun v62 =>
  bnd (nilV v62) fun v63 =>
  bnd (faV 1 v63) fun v64 =>
  bnd (ldE false 1 v64 H) fun v65 =>
  bnd (lenV v65) fun v66 =>
  bnd (binV .int .sub x8 x7) fun v69 =>
  bnd (binV .int .sub v66 v69) fun v70 =>
  bnd (binV .int .add v70 (.int .i64 1)) fun v71 =>
  bnd (ldE false 1 x3 H) fun v72 =>
  bnd (nilV v72) fun v73 =>
  bnd (faV 0 v73) fun v74 =>
  bnd (ldE false 1 v74 H) fun v75 =>
  bnd (binV .int .gtr v71 v75) fun v76 =>
  S x3 x7 x8 x9 v76 H
theorem span_Set_Add_g51_e (S : Value → Value → Value → Value → Value → Heap → Prop) (x : Nat → Value) (H : Heap) : wpE tab P span_Set_Add_pi span_Set_Add_c34 (nQ fun l H => S (l.getD 3 undef) (l.getD 7 undef) (l.getD 8 undef) (l.getD 9 undef) (l.getD 76 undef) H) ((List.range 89).map x) H = span_Set_Add_g51 S (x 3) (x 7) (x 8) (x 9) H := by kernel_rfl
def span_Set_Add_g52 (S : Value → Heap → Prop) (H : Heap) : Prop :=
  S (.int .i64 5) H
theorem span_Set_Add_g52_e (S : Value → Heap → Prop) (x : Nat → Value) (H : Heap) : wpE tab P span_Set_Add_pi span_Set_Add_c37 (nQ fun l H => S (l.getD 6 undef) H) ((List.range 89).map x) H = span_Set_Add_g52 S  H := by kernel_rfl
def span_Set_Add_g53 (S : Heap → Prop) (x3 x7 x8 x9 : Value) (H : Heap) : Prop :=
  bnd (ldE false 1 x3 H) fun v77 =>
  bnd (ldE false 1 x3 H) fun v78 =>
  bnd (nilV v78) fun v79 =>
  bnd (faV 1 v79) fun v80 =>
  bnd (ldE false 1 v80 H) fun v81 =>
  bnd (ldE true 2 x9 H) fun v84 =>
  bslE 45 #[(.int .i64 0), (.int .i64 0)] 2 1 [(0, v84)] H fun v85 H1 =>
  ((bnd (ldE false 1 v80 H1) fun v' => v' = v81) ∧
  ((bnd (ldE false 1 x3 H1) fun v' => v' = v78) ∧
  ((bnd (ldE false 1 x3 H1) fun v' => v' = v77) ∧
  EvF P N.slices_Replace_Range #[v81, x7, x8, v85] H1 fun v86 H2 =>
  ((bnd (ldE false 1 x3 H2) fun v' => v' = v78) ∧
  ((bnd (ldE false 1 x3 H2) fun v' => v' = v77) ∧
  bnd (nilV v77) fun v87 =>
  bnd (faV 1 v87) fun v88 =>
  bnd (stE 1 v88 v86 H2) fun H3 =>
  S H3)))))
theorem span_Set_Add_g53_e (S : Heap → Prop) (x : Nat → Value) (H : Heap) : wpE tab P span_Set_Add_pi span_Set_Add_c39 (nQ fun _ H => S  H) ((List.range 89).map x) H = span_Set_Add_g53 S (x 3) (x 7) (x 8) (x 9) H := by kernel_rfl
def span_Set_Add_g54 (S : Value → Heap → Prop) (H : Heap) : Prop :=
  S (.int .i64 0) H
theorem span_Set_Add_g54_e (S : Value → Heap → Prop) (x : Nat → Value) (H : Heap) : wpE tab P span_Set_Add_pi span_Set_Add_c41 (nQ fun l H => S (l.getD 6 undef) H) ((List.range 89).map x) H = span_Set_Add_g54 S  H := by kernel_rfl
def span_Set_Add_s50 (x3 x7 x8 x9 : Value) (R : Value → Heap → Prop) (H : Heap) : Prop :=
  span_Set_Add_g51 (fun x3 x7 x8 x9 x76 H => brV x76
  (span_Set_Add_g52 (fun x6 H => R x6 H) H)
  (span_Set_Add_g53 (fun H => span_Set_Add_g54 (fun x6 H => R x6 H) H) x3 x7 x8 x9 H)) x3 x7 x8 x9 H
noncomputable def span_Set_Add_q55 (R : Value → Heap → Prop) : Exit → List Value → Heap → Prop := (retQ tab span_Set_Add_rs R)
theorem span_Set_Add_s50_i (R : Value → Heap → Prop) (l : List Value) (H : Heap) (hl : l.length = 89) (h : span_Set_Add_s50 (l.getD 3 undef) (l.getD 7 undef) (l.getD 8 undef) (l.getD 9 undef) R H) : wpE tab P span_Set_Add_pi span_Set_Add_c32 (span_Set_Add_q55 R) l H := by
  refine seqI (c := span_Set_Add_c32) rfl ?_
  refine seqI (c := span_Set_Add_c33) rfl ?_
  refine regI hl (Eq.mpr (span_Set_Add_g51_e _ (fun i => l.getD i undef) _) h) ?_
  clear h hl
  intro l H hl h
  refine thenN ?_
  refine condI (c := span_Set_Add_c35) rfl h ?_ ?_
  · clear h; intro h
    refine seqI (c := span_Set_Add_c36) rfl ?_
    refine regI hl (Eq.mpr (span_Set_Add_g52_e _ (fun i => l.getD i undef) _) h) ?_
    clear h hl
    intro l H hl h
    refine thenN ?_
    refine retI rfl ?_
    refine thenR ?_
    exact h
  · clear h; intro h
    refine skipI rfl ?_
    refine thenN ?_
    refine seqI (c := span_Set_Add_c38) rfl ?_
    refine regI hl (Eq.mpr (span_Set_Add_g53_e _ (fun i => l.getD i undef) _) h) ?_
    clear h hl
    intro l H hl h
    refine thenN ?_
    refine seqI (c := span_Set_Add_c40) rfl ?_
    refine regI hl (Eq.mpr (span_Set_Add_g54_e _ (fun i => l.getD i undef) _) h) ?_
    clear h hl
    intro l H hl h
    refine thenN ?_
    refine retI rfl ?_
    exact h
def span_Set_Add_g56 (S : Value → Value → Value → Value → Value → Value → Value → Heap → Prop) (x1 x3 x5 x7 x8 x9 : Value) (H : Heap) : Prop :=
  bnd (binV .int .lss x7 x8) fun v39 =>
  S x1 x3 x5 x7 x8 x9 v39 H
theorem span_Set_Add_g56_e (S : Value → Value → Value → Value → Value → Value → Value → Heap → Prop) (x : Nat → Value) (H : Heap) : wpE tab P span_Set_Add_pi span_Set_Add_c29 (nQ fun l H => S (l.getD 1 undef) (l.getD 3 undef) (l.getD 5 undef) (l.getD 7 undef) (l.getD 8 undef) (l.getD 9 undef) (l.getD 39 undef) H) ((List.range 89).map x) H = span_Set_Add_g56 S (x 1) (x 3) (x 5) (x 7) (x 8) (x 9) H := by kernel_rfl
def span_Set_Add_g57 (S : Value → Value → Value → Value → Heap → Prop) (x1 x3 x5 x7 x8 x9 : Value) (H : Heap) : Prop :=
  bnd (ldE false 1 x3 H) fun v41 =>
  bnd (nilV v41) fun v42 =>
  bnd (faV 1 v42) fun v43 =>
  bnd (ldE false 1 v43 H) fun v44 =>
  bnd (ixSV 2 v44 x7) fun v46 =>
  bnd (faV 0 v46) fun v47 =>
  bnd (ldE false 1 v47 H) fun v48 =>
  bnd (foldV min2V x1 [v48]) fun v49 =>
  bnd (ldE false 1 x5 H) fun v50 =>
  bnd (ldE false 1 x3 H) fun v51 =>
  bnd (nilV v51) fun v52 =>
  bnd (faV 1 v52) fun v53 =>
  bnd (ldE false 1 v53 H) fun v54 =>
  bnd (binV .int .sub x8 (.int .i64 1)) fun v56 =>
  bnd (ixSV 2 v54 v56) fun v57 =>
  bnd (faV 1 v57) fun v58 =>
  bnd (ldE false 1 v58 H) fun v59 =>
  bnd (foldV max2V v50 [v59]) fun v60 =>
  bnd (buildV #[(.int .i64 0), (.int .i64 0)] (places [(0, 1), (1, 1)]) [(0, v49), (1, v60)]) fun v61 =>
  bnd (stE 2 x9 v61 H) fun H1 =>
  S x3 x7 x8 x9 H1
theorem span_Set_Add_g57_e (S : Value → Value → Value → Value → Heap → Prop) (x : Nat → Value) (H : Heap) : wpE tab P span_Set_Add_pi span_Set_Add_c31 (nQ fun l H => S (l.getD 3 undef) (l.getD 7 undef) (l.getD 8 undef) (l.getD 9 undef) H) ((List.range 89).map x) H = span_Set_Add_g57 S (x 1) (x 3) (x 5) (x 7) (x 8) (x 9) H := by kernel_rfl
def span_Set_Add_s45 (x1 x3 x5 x13 : Value) (R : Value → Heap → Prop) (H : Heap) : Prop :=
  brV x13
  (span_Set_Add_g46 (fun x6 H => R x6 H) H)
  (span_Set_Add_g47 (fun x1 x3 x5 x7 H => span_Set_Add_g48 (fun x1 x3 x5 x7 x8 H => span_Set_Add_g49 (fun x1 x3 x5 x7 x8 x9 H => span_Set_Add_g56 (fun x1 x3 x5 x7 x8 x9 x39 H => brV x39
  (span_Set_Add_g57 (fun x3 x7 x8 x9 H => span_Set_Add_s50 x3 x7 x8 x9 R H) x1 x3 x5 x7 x8 x9 H)
  (span_Set_Add_s50 x3 x7 x8 x9 R H)) x1 x3 x5 x7 x8 x9 H) x1 x3 x5 x7 x8 H) x1 x3 x5 x7 H) x1 x3 x5 H)
noncomputable def span_Set_Add_q58 (R : Value → Heap → Prop) : Exit → List Value → Heap → Prop := (thenE (fun l H => wpE tab P span_Set_Add_pi span_Set_Add_c21 (span_Set_Add_q55 R) l H) (span_Set_Add_q55 R))
noncomputable def span_Set_Add_q59 (R : Value → Heap → Prop) : Exit → List Value → Heap → Prop := (blkE 0 (span_Set_Add_q58 R))
theorem span_Set_Add_s45_i (R : Value → Heap → Prop) (l : List Value) (H : Heap) (hl : l.length = 89) (h : span_Set_Add_s45 (l.getD 1 undef) (l.getD 3 undef) (l.getD 5 undef) (l.getD 13 undef) R H) : wpE tab P span_Set_Add_pi span_Set_Add_c18 (span_Set_Add_q59 R) l H := by
  refine condI (c := span_Set_Add_c18) rfl h ?_ ?_
  · clear h; intro h
    refine seqI (c := span_Set_Add_c19) rfl ?_
    refine regI hl (Eq.mpr (span_Set_Add_g46_e _ (fun i => l.getD i undef) _) h) ?_
    clear h hl
    intro l H hl h
    refine thenN ?_
    refine retI rfl ?_
    refine blkR ?_
    refine thenR ?_
    exact h
  · clear h; intro h
    refine skipI rfl ?_
    refine blkN ?_
    refine thenN ?_
    refine seqI (c := span_Set_Add_c21) rfl ?_
    refine regI hl (Eq.mpr (span_Set_Add_g47_e _ (fun i => l.getD i undef) _) h) ?_
    clear h hl
    intro l H hl h
    refine thenN ?_
    refine seqI (c := span_Set_Add_c23) rfl ?_
    refine regI hl (Eq.mpr (span_Set_Add_g48_e _ (fun i => l.getD i undef) _) h) ?_
    clear h hl
    intro l H hl h
    refine thenN ?_
    refine seqI (c := span_Set_Add_c25) rfl ?_
    refine regI hl (Eq.mpr (span_Set_Add_g49_e _ (fun i => l.getD i undef) _) h) ?_
    clear h hl
    intro l H hl h
    refine thenN ?_
    refine seqI (c := span_Set_Add_c27) rfl ?_
    refine seqI (c := span_Set_Add_c28) rfl ?_
    refine regI hl (Eq.mpr (span_Set_Add_g56_e _ (fun i => l.getD i undef) _) h) ?_
    clear h hl
    intro l H hl h
    refine thenN ?_
    refine condI (c := span_Set_Add_c30) rfl h ?_ ?_
    · clear h; intro h
      refine regI hl (Eq.mpr (span_Set_Add_g57_e _ (fun i => l.getD i undef) _) h) ?_
      clear h hl
      intro l H hl h
      refine thenN ?_
      exact span_Set_Add_s50_i R l H hl h
    · clear h; intro h
      refine skipI rfl ?_
      refine thenN ?_
      exact span_Set_Add_s50_i R l H hl h
def span_Set_Add_g60 (S : Value → Value → Value → Value → Heap → Prop) (x1 x3 x5 : Value) (H : Heap) : Prop :=
  EvF P N.span_is #[x1] H fun v15 H1 =>
  bnd (unV .not v15) fun v16 =>
  S x1 x3 x5 v16 H1
theorem span_Set_Add_g60_e (S : Value → Value → Value → Value → Heap → Prop) (x : Nat → Value) (H : Heap) : wpE tab P span_Set_Add_pi span_Set_Add_c12 (nQ fun l H => S (l.getD 1 undef) (l.getD 3 undef) (l.getD 5 undef) (l.getD 13 undef) H) ((List.range 89).map x) H = span_Set_Add_g60 S (x 1) (x 3) (x 5) H := by kernel_rfl
def span_Set_Add_g61 (S : Value → Value → Value → Value → Heap → Prop) (x1 x3 x5 : Value) (H : Heap) : Prop :=
  bnd (ldE false 1 x5 H) fun v17 =>
  EvF P N.span_is #[v17] H fun v18 H1 =>
  bnd (unV .not v18) fun v19 =>
  S x1 x3 x5 v19 H1
theorem span_Set_Add_g61_e (S : Value → Value → Value → Value → Heap → Prop) (x : Nat → Value) (H : Heap) : wpE tab P span_Set_Add_pi span_Set_Add_c15 (nQ fun l H => S (l.getD 1 undef) (l.getD 3 undef) (l.getD 5 undef) (l.getD 13 undef) H) ((List.range 89).map x) H = span_Set_Add_g61 S (x 1) (x 3) (x 5) H := by kernel_rfl
def span_Set_Add_g62 (S : Value → Value → Value → Value → Heap → Prop) (x1 x3 x5 : Value) (H : Heap) : Prop :=
  bnd (ldE false 1 x5 H) fun v21 =>
  bnd (binV .int .gtr x1 v21) fun v22 =>
  S x1 x3 x5 v22 H
theorem span_Set_Add_g62_e (S : Value → Value → Value → Value → Heap → Prop) (x : Nat → Value) (H : Heap) : wpE tab P span_Set_Add_pi span_Set_Add_c17 (nQ fun l H => S (l.getD 1 undef) (l.getD 3 undef) (l.getD 5 undef) (l.getD 13 undef) H) ((List.range 89).map x) H = span_Set_Add_g62 S (x 1) (x 3) (x 5) H := by kernel_rfl
def span_Set_Add (x0 x1 x2 : Value) (R : Value → Heap → Prop) (H : Heap) : Prop :=
  span_Set_Add_g42 (fun x1 x3 x5 H => span_Set_Add_g43 (fun x1 x3 x5 x10 H => brV x10
  (span_Set_Add_g44 (fun x6 H => R x6 H) H)
  (span_Set_Add_g60 (fun x1 x3 x5 x13 H => brV x13
  (span_Set_Add_s45 x1 x3 x5 x13 R H)
  (span_Set_Add_g61 (fun x1 x3 x5 x13 H => brV x13
  (span_Set_Add_s45 x1 x3 x5 x13 R H)
  (span_Set_Add_g62 (fun x1 x3 x5 x13 H => span_Set_Add_s45 x1 x3 x5 x13 R H) x1 x3 x5 H)) x1 x3 x5 H)) x1 x3 x5 H)) x1 x3 x5 H) x0 x1 x2 H
theorem span_Set_Add_i (R : Value → Heap → Prop) (x0 x1 x2 : Value) (H : Heap) (h : span_Set_Add x0 x1 x2 R H) : wpE tab P span_Set_Add_pi span_Set_Add_c1 (retQ tab span_Set_Add_rs R) [x0, x1, x2, undef, undef, undef, undef, undef, undef, undef, undef, undef, undef, undef, undef, undef, undef, undef, undef, undef, undef, undef, undef, undef, undef, undef, undef, undef, undef, undef, undef, undef, undef, undef, undef, undef, undef, undef, undef, undef, undef, undef, undef, undef, undef, undef, undef, undef, undef, undef, undef, undef, undef, undef, undef, undef, undef, undef, undef, undef, undef, undef, undef, undef, undef, undef, undef, undef, undef, undef, undef, undef, undef, undef, undef, undef, undef, undef, undef, undef, undef, undef, undef, undef, undef, undef, undef, undef, undef] H := by
  obtain ⟨l, hl, el⟩ : ∃ l : List Value, l.length = 89 ∧ l = [x0, x1, x2, undef, undef, undef, undef, undef, undef, undef, undef, undef, undef, undef, undef, undef, undef, undef, undef, undef, undef, undef, undef, undef, undef, undef, undef, undef, undef, undef, undef, undef, undef, undef, undef, undef, undef, undef, undef, undef, undef, undef, undef, undef, undef, undef, undef, undef, undef, undef, undef, undef, undef, undef, undef, undef, undef, undef, undef, undef, undef, undef, undef, undef, undef, undef, undef, undef, undef, undef, undef, undef, undef, undef, undef, undef, undef, undef, undef, undef, undef, undef, undef, undef, undef, undef, undef, undef, undef] := ⟨_, rfl, rfl⟩
  rw [← el]
  have h : (fun (x0 x1 x2 : Value) => span_Set_Add_g42 (fun x1 x3 x5 H => span_Set_Add_g43 (fun x1 x3 x5 x10 H => brV x10
(span_Set_Add_g44 (fun x6 H => R x6 H) H)
(span_Set_Add_g60 (fun x1 x3 x5 x13 H => brV x13
(span_Set_Add_s45 x1 x3 x5 x13 R H)
(span_Set_Add_g61 (fun x1 x3 x5 x13 H => brV x13
(span_Set_Add_s45 x1 x3 x5 x13 R H)
(span_Set_Add_g62 (fun x1 x3 x5 x13 H => span_Set_Add_s45 x1 x3 x5 x13 R H) x1 x3 x5 H)) x1 x3 x5 H)) x1 x3 x5 H)) x1 x3 x5 H) x0 x1 x2 H) (l.getD 0 undef) (l.getD 1 undef) (l.getD 2 undef) := by rw [el]; exact h
  clear el
  refine seqI (c := span_Set_Add_c1) rfl ?_
  refine regI hl (Eq.mpr (span_Set_Add_g42_e _ (fun i => l.getD i undef) _) h) ?_
  clear h hl
  intro l H hl h
  refine thenN ?_
  refine seqI (c := span_Set_Add_c3) rfl ?_
  refine blockI (c := span_Set_Add_c4) rfl ?_
  refine seqI (c := span_Set_Add_c5) rfl ?_
  refine regI hl (Eq.mpr (span_Set_Add_g43_e _ (fun i => l.getD i undef) _) h) ?_
  clear h hl
  intro l H hl h
  refine thenN ?_
  refine condI (c := span_Set_Add_c7) rfl h ?_ ?_
  · clear h; intro h
    refine seqI (c := span_Set_Add_c8) rfl ?_
    refine regI hl (Eq.mpr (span_Set_Add_g44_e _ (fun i => l.getD i undef) _) h) ?_
    clear h hl
    intro l H hl h
    refine thenN ?_
    refine retI rfl ?_
    refine blkR ?_
    refine thenR ?_
    exact h
  · clear h; intro h
    refine seqI (c := span_Set_Add_c10) rfl ?_
    refine seqI (c := span_Set_Add_c11) rfl ?_
    refine regI hl (Eq.mpr (span_Set_Add_g60_e _ (fun i => l.getD i undef) _) h) ?_
    clear h hl
    intro l H hl h
    refine thenN ?_
    refine condI (c := span_Set_Add_c13) rfl h ?_ ?_
    · clear h; intro h
      refine skipI rfl ?_
      refine thenN ?_
      exact span_Set_Add_s45_i R l H hl h
    · clear h; intro h
      refine seqI (c := span_Set_Add_c14) rfl ?_
      refine regI hl (Eq.mpr (span_Set_Add_g61_e _ (fun i => l.getD i undef) _) h) ?_
      clear h hl
      intro l H hl h
      refine thenN ?_
      refine condI (c := span_Set_Add_c16) rfl h ?_ ?_
      · clear h; intro h
        refine skipI rfl ?_
        refine thenN ?_
        exact span_Set_Add_s45_i R l H hl h
      · clear h; intro h
        refine regI hl (Eq.mpr (span_Set_Add_g62_e _ (fun i => l.getD i undef) _) h) ?_
        clear h hl
        intro l H hl h
        refine thenN ?_
        exact span_Set_Add_s45_i R l H hl h
theorem span_Set_Add_ok : okB span_Set_Add_pi span_Set_Add_c1 = true := by kernel_rfl
theorem span_Set_Add_ev0 (x0 x1 x2 : Value) (R : Value → Heap → Prop) (H : Heap) (h : span_Set_Add x0 x1 x2 R H) : EvL P N.span_Set_Add #[x0, x1, x2] H R :=
  EvF_intro (args := [x0, x1, x2]) (k := 86) (rs := span_Set_Add_rs) tab_ok mixed Try.func21 (show Try.f21.body = some span_Set_Add_c1 by kernel_rfl) Try.call21 Try.ntmps21 (by kernel_rfl) (okCode_of _ span_Set_Add_ok) rfl (span_Set_Add_i R x0 x1 x2 H h)
theorem span_Set_Add_ev (x0 x1 x2 : Value) (R : Value → Heap → Prop) (H : Heap) (h : span_Set_Add x0 x1 x2 R H) : EvF P N.span_Set_Add #[x0, x1, x2] H R := .inl (span_Set_Add_ev0 x0 x1 x2 R H h)
/- 22: sounder/loss.Check -/
def loss_Check_rs : List ResultVar := [.tmp 2]
noncomputable def loss_Check_c2 : Code := subC (bodyC Try.f22) [0]
noncomputable def loss_Check_c4 : Code := subC (bodyC Try.f22) [1, 0]
noncomputable def loss_Check_c6 : Code := subC (bodyC Try.f22) [1, 1, 0]
noncomputable def loss_Check_c9 : Code := subC (bodyC Try.f22) [1, 1, 1, 0, 0]
noncomputable def loss_Check_c12 : Code := subC (bodyC Try.f22) [1, 1, 1, 0, 1, 0, 0]
noncomputable def loss_Check_c11 : Code := .seq loss_Check_c12 Code.ret
noncomputable def loss_Check_c10 : Code := .cond (.tmp 13) loss_Check_c11 Code.skip
noncomputable def loss_Check_c8 : Code := .seq loss_Check_c9 loss_Check_c10
noncomputable def loss_Check_c14 : Code := subC (bodyC Try.f22) [1, 1, 1, 1, 0]
noncomputable def loss_Check_c13 : Code := .seq loss_Check_c14 Code.ret
noncomputable def loss_Check_c7 : Code := .seq loss_Check_c8 loss_Check_c13
noncomputable def loss_Check_c5 : Code := .seq loss_Check_c6 loss_Check_c7
noncomputable def loss_Check_c3 : Code := .seq loss_Check_c4 loss_Check_c5
noncomputable def loss_Check_c1 : Code := .seq loss_Check_c2 loss_Check_c3
def loss_Check_pi (_ : Nat) : Pl := .nil
def loss_Check_g15 (S : Value → Heap → Prop) (x0 : Value) (H : Heap) : Prop :=
  S x0 H
theorem loss_Check_g15_e (S : Value → Heap → Prop) (x : Nat → Value) (H : Heap) : wpE tab P loss_Check_pi loss_Check_c2 (nQ fun l H => S (l.getD 0 undef) H) ((List.range 14).map x) H = loss_Check_g15 S (x 0) H := by kernel_rfl
def loss_Check_g16 (S : Value → Value → Heap → Prop) (x0 : Value) (H : Heap) : Prop :=
  newE 3 #[(.int .i64 0)] H fun v3 H1 =>
  bnd (stE 1 v3 (.int .i64 (-1)) H1) fun H2 =>
  S x0 v3 H2
theorem loss_Check_g16_e (S : Value → Value → Heap → Prop) (x : Nat → Value) (H : Heap) : wpE tab P loss_Check_pi loss_Check_c4 (nQ fun l H => S (l.getD 0 undef) (l.getD 3 undef) H) ((List.range 14).map x) H = loss_Check_g16 S (x 0) H := by kernel_rfl
def loss_Check_g17 (S : Value → Value → Heap → Prop) (x0 x3 : Value) (H : Heap) : Prop :=
  S x0 (.func (.func N.loss_Check_1) #[] #[x3]) H
theorem loss_Check_g17_e (S : Value → Value → Heap → Prop) (x : Nat → Value) (H : Heap) : wpE tab P loss_Check_pi loss_Check_c6 (nQ fun l H => S (l.getD 0 undef) (l.getD 4 undef) H) ((List.range 14).map x) H = loss_Check_g17 S (x 0) (x 3) H := by kernel_rfl
def loss_Check_g18 (S : Value → Heap → Prop) (x0 x4 : Value) (H : Heap) : Prop :=
  bnd (lenV x0) fun v7 =>
  bnd (binV .int .gtr v7 (.int .i64 256)) fun v8 =>
  brV v8
  (S (.bool true) H)
  (EvF P N.slices_ContainsFunc_Packet #[x0, x4] H fun v12 H1 =>
  S v12 H1)
theorem loss_Check_g18_e (S : Value → Heap → Prop) (x : Nat → Value) (H : Heap) : wpE tab P loss_Check_pi loss_Check_c9 (nQ fun l H => S (l.getD 13 undef) H) ((List.range 14).map x) H = loss_Check_g18 S (x 0) (x 4) H := by kernel_rfl
def loss_Check_g19 (S : Value → Heap → Prop) (H : Heap) : Prop :=
  S (.int .i64 2) H
theorem loss_Check_g19_e (S : Value → Heap → Prop) (x : Nat → Value) (H : Heap) : wpE tab P loss_Check_pi loss_Check_c12 (nQ fun l H => S (l.getD 2 undef) H) ((List.range 14).map x) H = loss_Check_g19 S  H := by kernel_rfl
def loss_Check_g20 (S : Value → Heap → Prop) (H : Heap) : Prop :=
  S (.int .i64 0) H
theorem loss_Check_g20_e (S : Value → Heap → Prop) (x : Nat → Value) (H : Heap) : wpE tab P loss_Check_pi loss_Check_c14 (nQ fun l H => S (l.getD 2 undef) H) ((List.range 14).map x) H = loss_Check_g20 S  H := by kernel_rfl
def loss_Check (x0 : Value) (R : Value → Heap → Prop) (H : Heap) : Prop :=
  loss_Check_g15 (fun x0 H => loss_Check_g16 (fun x0 x3 H => loss_Check_g17 (fun x0 x4 H => loss_Check_g18 (fun x13 H => brV x13
  (loss_Check_g19 (fun x2 H => R x2 H) H)
  (loss_Check_g20 (fun x2 H => R x2 H) H)) x0 x4 H) x0 x3 H) x0 H) x0 H
theorem loss_Check_i (R : Value → Heap → Prop) (x0 : Value) (H : Heap) (h : loss_Check x0 R H) : wpE tab P loss_Check_pi loss_Check_c1 (retQ tab loss_Check_rs R) [x0, undef, undef, undef, undef, undef, undef, undef, undef, undef, undef, undef, undef, undef] H := by
  obtain ⟨l, hl, el⟩ : ∃ l : List Value, l.length = 14 ∧ l = [x0, undef, undef, undef, undef, undef, undef, undef, undef, undef, undef, undef, undef, undef] := ⟨_, rfl, rfl⟩
  rw [← el]
  have h : (fun (x0 : Value) => loss_Check_g15 (fun x0 H => loss_Check_g16 (fun x0 x3 H => loss_Check_g17 (fun x0 x4 H => loss_Check_g18 (fun x13 H => brV x13
(loss_Check_g19 (fun x2 H => R x2 H) H)
(loss_Check_g20 (fun x2 H => R x2 H) H)) x0 x4 H) x0 x3 H) x0 H) x0 H) (l.getD 0 undef) := by rw [el]; exact h
  clear el
  refine seqI (c := loss_Check_c1) rfl ?_
  refine regI hl (Eq.mpr (loss_Check_g15_e _ (fun i => l.getD i undef) _) h) ?_
  clear h hl
  intro l H hl h
  refine thenN ?_
  refine seqI (c := loss_Check_c3) rfl ?_
  refine regI hl (Eq.mpr (loss_Check_g16_e _ (fun i => l.getD i undef) _) h) ?_
  clear h hl
  intro l H hl h
  refine thenN ?_
  refine seqI (c := loss_Check_c5) rfl ?_
  refine regI hl (Eq.mpr (loss_Check_g17_e _ (fun i => l.getD i undef) _) h) ?_
  clear h hl
  intro l H hl h
  refine thenN ?_
  refine seqI (c := loss_Check_c7) rfl ?_
  refine seqI (c := loss_Check_c8) rfl ?_
  refine regI hl (Eq.mpr (loss_Check_g18_e _ (fun i => l.getD i undef) _) h) ?_
  clear h hl
  intro l H hl h
  refine thenN ?_
  refine condI (c := loss_Check_c10) rfl h ?_ ?_
  · clear h; intro h
    refine seqI (c := loss_Check_c11) rfl ?_
    refine regI hl (Eq.mpr (loss_Check_g19_e _ (fun i => l.getD i undef) _) h) ?_
    clear h hl
    intro l H hl h
    refine thenN ?_
    refine retI rfl ?_
    refine thenR ?_
    exact h
  · clear h; intro h
    refine skipI rfl ?_
    refine thenN ?_
    refine seqI (c := loss_Check_c13) rfl ?_
    refine regI hl (Eq.mpr (loss_Check_g20_e _ (fun i => l.getD i undef) _) h) ?_
    clear h hl
    intro l H hl h
    refine thenN ?_
    refine retI rfl ?_
    exact h
theorem loss_Check_ok : okB loss_Check_pi loss_Check_c1 = true := by kernel_rfl
theorem loss_Check_ev0 (x0 : Value) (R : Value → Heap → Prop) (H : Heap) (h : loss_Check x0 R H) : EvL P N.loss_Check #[x0] H R :=
  EvF_intro (args := [x0]) (k := 13) (rs := loss_Check_rs) tab_ok mixed Try.func22 (show Try.f22.body = some loss_Check_c1 by kernel_rfl) Try.call22 Try.ntmps22 (by kernel_rfl) (okCode_of _ loss_Check_ok) rfl (loss_Check_i R x0 H h)
theorem loss_Check_ev (x0 : Value) (R : Value → Heap → Prop) (H : Heap) (h : loss_Check x0 R H) : EvF P N.loss_Check #[x0] H R := .inl (loss_Check_ev0 x0 R H h)
/- 23: sounder/sat.Is -/
def sat_Is_rs : List ResultVar := [.tmp 2]
noncomputable def sat_Is_c2 : Code := subC (bodyC Try.f23) [0]
noncomputable def sat_Is_c4 : Code := subC (bodyC Try.f23) [1, 0]
noncomputable def sat_Is_c3 : Code := .seq sat_Is_c4 Code.ret
noncomputable def sat_Is_c1 : Code := .seq sat_Is_c2 sat_Is_c3
def sat_Is_pi (_ : Nat) : Pl := .nil
def sat_Is_g5 (S : Value → Heap → Prop) (x0 : Value) (H : Heap) : Prop :=
  S x0 H
theorem sat_Is_g5_e (S : Value → Heap → Prop) (x : Nat → Value) (H : Heap) : wpE tab P sat_Is_pi sat_Is_c2 (nQ fun l H => S (l.getD 0 undef) H) ((List.range 7).map x) H = sat_Is_g5 S (x 0) H := by kernel_rfl
def sat_Is_g6 (S : Value → Heap → Prop) (x0 : Value) (H : Heap) : Prop :=
  EvF P N.sat_Num #[x0] H fun v5 H1 =>
  bnd (binV .int .eql x0 v5) fun v6 =>
  S v6 H1
theorem sat_Is_g6_e (S : Value → Heap → Prop) (x : Nat → Value) (H : Heap) : wpE tab P sat_Is_pi sat_Is_c4 (nQ fun l H => S (l.getD 2 undef) H) ((List.range 7).map x) H = sat_Is_g6 S (x 0) H := by kernel_rfl
def sat_Is (x0 : Value) (R : Value → Heap → Prop) (H : Heap) : Prop :=
  sat_Is_g5 (fun x0 H => sat_Is_g6 (fun x2 H => R x2 H) x0 H) x0 H
theorem sat_Is_i (R : Value → Heap → Prop) (x0 : Value) (H : Heap) (h : sat_Is x0 R H) : wpE tab P sat_Is_pi sat_Is_c1 (retQ tab sat_Is_rs R) [x0, undef, undef, undef, undef, undef, undef] H := by
  obtain ⟨l, hl, el⟩ : ∃ l : List Value, l.length = 7 ∧ l = [x0, undef, undef, undef, undef, undef, undef] := ⟨_, rfl, rfl⟩
  rw [← el]
  have h : (fun (x0 : Value) => sat_Is_g5 (fun x0 H => sat_Is_g6 (fun x2 H => R x2 H) x0 H) x0 H) (l.getD 0 undef) := by rw [el]; exact h
  clear el
  refine seqI (c := sat_Is_c1) rfl ?_
  refine regI hl (Eq.mpr (sat_Is_g5_e _ (fun i => l.getD i undef) _) h) ?_
  clear h hl
  intro l H hl h
  refine thenN ?_
  refine seqI (c := sat_Is_c3) rfl ?_
  refine regI hl (Eq.mpr (sat_Is_g6_e _ (fun i => l.getD i undef) _) h) ?_
  clear h hl
  intro l H hl h
  refine thenN ?_
  refine retI rfl ?_
  exact h
theorem sat_Is_ok : okB sat_Is_pi sat_Is_c1 = true := by kernel_rfl
theorem sat_Is_ev0 (x0 : Value) (R : Value → Heap → Prop) (H : Heap) (h : sat_Is x0 R H) : EvL P N.sat_Is #[x0] H R :=
  EvF_intro (args := [x0]) (k := 6) (rs := sat_Is_rs) tab_ok mixed Try.func23 (show Try.f23.body = some sat_Is_c1 by kernel_rfl) Try.call23 Try.ntmps23 (by kernel_rfl) (okCode_of _ sat_Is_ok) rfl (sat_Is_i R x0 H h)
theorem sat_Is_ev (x0 : Value) (R : Value → Heap → Prop) (H : Heap) (h : sat_Is x0 R H) : EvF P N.sat_Is #[x0] H R := .inl (sat_Is_ev0 x0 R H h)
/- 24: sounder/persist.Period$1 -/
def persist_Period_1_rs : List ResultVar := []
noncomputable def persist_Period_1_c2 : Code := subC (bodyC Try.f24) [0]
noncomputable def persist_Period_1_c4 : Code := subC (bodyC Try.f24) [1, 0]
noncomputable def persist_Period_1_c6 : Code := subC (bodyC Try.f24) [1, 1, 0]
noncomputable def persist_Period_1_c8 : Code := subC (bodyC Try.f24) [1, 1, 1, 0]
noncomputable def persist_Period_1_c7 : Code := .cond (.tmp 20) persist_Period_1_c8 Code.skip
noncomputable def persist_Period_1_c5 : Code := .seq persist_Period_1_c6 persist_Period_1_c7
noncomputable def persist_Period_1_c3 : Code := .seq persist_Period_1_c4 persist_Period_1_c5
noncomputable def persist_Period_1_c1 : Code := .seq persist_Period_1_c2 persist_Period_1_c3
def persist_Period_1_pi (i : Nat) : Pl := match i with
  | 3 => (ones [0, 1, 2, 3, 4, 5, 6, 7, 8] .nil)
  | _ => .nil
def persist_Period_1_g9 (S : Value → Value → Value → Value → Value → Value → Heap → Prop) (x0 x1 x2 x3 x4 x5 : Value) (H : Heap) : Prop :=
  newE 38 (Value.cells x0) H fun v6 H1 =>
  newE 38 (Value.cells x1) H1 fun v7 H2 =>
  S x2 x3 x4 x5 v6 v7 H2
theorem persist_Period_1_g9_e (S : Value → Value → Value → Value → Value → Value → Heap → Prop) (x : Nat → Value) (H : Heap) : wpE tab P persist_Period_1_pi persist_Period_1_c2 (nQ fun l H => S (l.getD 2 undef) (l.getD 3 undef) (l.getD 4 undef) (l.getD 5 undef) (l.getD 6 undef) (l.getD 7 undef) H) ((List.range 26).map x) H = persist_Period_1_g9 S (x 0) (x 1) (x 2) (x 3) (x 4) (x 5) H := by kernel_rfl
def persist_Period_1_g10 (S : Value → Value → Value → Value → Value → Value → Value → Heap → Prop) (x2 x3 x4 x5 x6 x7 : Value) (H : Heap) : Prop :=
  bnd (faV 1 x7) fun v9 =>
  bnd (ldE false 1 v9 H) fun v10 =>
  bnd (faV 1 x6) fun v11 =>
  bnd (ldE false 1 v11 H) fun v12 =>
  bnd (binV .int .sub v10 v12) fun v13 =>
  S x2 x3 x4 x5 x6 x7 v13 H
theorem persist_Period_1_g10_e (S : Value → Value → Value → Value → Value → Value → Value → Heap → Prop) (x : Nat → Value) (H : Heap) : wpE tab P persist_Period_1_pi persist_Period_1_c4 (nQ fun l H => S (l.getD 2 undef) (l.getD 3 undef) (l.getD 4 undef) (l.getD 5 undef) (l.getD 6 undef) (l.getD 7 undef) (l.getD 8 undef) H) ((List.range 26).map x) H = persist_Period_1_g10 S (x 2) (x 3) (x 4) (x 5) (x 6) (x 7) H := by kernel_rfl
def persist_Period_1_g11 (S : Value → Value → Value → Value → Value → Value → Value → Value → Heap → Prop) (x2 x3 x4 x5 x6 x7 x8 : Value) (H : Heap) : Prop :=
  bnd (ldE false 1 x2 H) fun v14 =>
  bnd (unV .not v14) fun v15 =>
  brV v15
  (S x2 x3 x4 x5 x6 x7 x8 (.bool true) H)
  (bnd (ldE false 1 x3 H) fun v18 =>
  bnd (binV .int .gtr x8 v18) fun v19 =>
  S x2 x3 x4 x5 x6 x7 x8 v19 H)
theorem persist_Period_1_g11_e (S : Value → Value → Value → Value → Value → Value → Value → Value → Heap → Prop) (x : Nat → Value) (H : Heap) : wpE tab P persist_Period_1_pi persist_Period_1_c6 (nQ fun l H => S (l.getD 2 undef) (l.getD 3 undef) (l.getD 4 undef) (l.getD 5 undef) (l.getD 6 undef) (l.getD 7 undef) (l.getD 8 undef) (l.getD 20 undef) H) ((List.range 26).map x) H = persist_Period_1_g11 S (x 2) (x 3) (x 4) (x 5) (x 6) (x 7) (x 8) H := by kernel_rfl
def persist_Period_1_g12 (S : Heap → Prop) (x2 x3 x4 x5 x6 x7 x8 : Value) (H : Heap) : Prop :=
  bnd (faV 0 x6) fun v22 =>
  bnd (ldE false 1 v22 H) fun v23 =>
  bnd (faV 0 x7) fun v24 =>
  bnd (ldE false 1 v24 H) fun v25 =>
  bnd (stE 1 x3 x8 H) fun H1 =>
  ((bnd (ldE false 1 v24 H1) fun v' => v' = v25) ∧
  ((bnd (ldE false 1 v22 H1) fun v' => v' = v23) ∧
  bnd (stE 1 x4 v23 H1) fun H2 =>
  ((bnd (ldE false 1 v24 H2) fun v' => v' = v25) ∧
  bnd (stE 1 x5 v25 H2) fun H3 =>
  bnd (stE 1 x2 (.bool true) H3) fun H4 =>
  S H4)))
theorem persist_Period_1_g12_e (S : Heap → Prop) (x : Nat → Value) (H : Heap) : wpE tab P persist_Period_1_pi persist_Period_1_c8 (nQ fun _ H => S  H) ((List.range 26).map x) H = persist_Period_1_g12 S (x 2) (x 3) (x 4) (x 5) (x 6) (x 7) (x 8) H := by kernel_rfl
def persist_Period_1 (x0 x1 x2 x3 x4 x5 : Value) (R : Value → Heap → Prop) (H : Heap) : Prop :=
  persist_Period_1_g9 (fun x2 x3 x4 x5 x6 x7 H => persist_Period_1_g10 (fun x2 x3 x4 x5 x6 x7 x8 H => persist_Period_1_g11 (fun x2 x3 x4 x5 x6 x7 x8 x20 H => brV x20
  (persist_Period_1_g12 (fun H => R (.tuple #[]) H) x2 x3 x4 x5 x6 x7 x8 H)
  (R (.tuple #[]) H)) x2 x3 x4 x5 x6 x7 x8 H) x2 x3 x4 x5 x6 x7 H) x0 x1 x2 x3 x4 x5 H
theorem persist_Period_1_i (R : Value → Heap → Prop) (x0 x1 x2 x3 x4 x5 : Value) (H : Heap) (h : persist_Period_1 x0 x1 x2 x3 x4 x5 R H) : wpE tab P persist_Period_1_pi persist_Period_1_c1 (retQ tab persist_Period_1_rs R) [x0, x1, x2, x3, x4, x5, undef, undef, undef, undef, undef, undef, undef, undef, undef, undef, undef, undef, undef, undef, undef, undef, undef, undef, undef, undef] H := by
  obtain ⟨l, hl, el⟩ : ∃ l : List Value, l.length = 26 ∧ l = [x0, x1, x2, x3, x4, x5, undef, undef, undef, undef, undef, undef, undef, undef, undef, undef, undef, undef, undef, undef, undef, undef, undef, undef, undef, undef] := ⟨_, rfl, rfl⟩
  rw [← el]
  have h : (fun (x0 x1 x2 x3 x4 x5 : Value) => persist_Period_1_g9 (fun x2 x3 x4 x5 x6 x7 H => persist_Period_1_g10 (fun x2 x3 x4 x5 x6 x7 x8 H => persist_Period_1_g11 (fun x2 x3 x4 x5 x6 x7 x8 x20 H => brV x20
(persist_Period_1_g12 (fun H => R (.tuple #[]) H) x2 x3 x4 x5 x6 x7 x8 H)
(R (.tuple #[]) H)) x2 x3 x4 x5 x6 x7 x8 H) x2 x3 x4 x5 x6 x7 H) x0 x1 x2 x3 x4 x5 H) (l.getD 0 undef) (l.getD 1 undef) (l.getD 2 undef) (l.getD 3 undef) (l.getD 4 undef) (l.getD 5 undef) := by rw [el]; exact h
  clear el
  refine seqI (c := persist_Period_1_c1) rfl ?_
  refine regI hl (Eq.mpr (persist_Period_1_g9_e _ (fun i => l.getD i undef) _) h) ?_
  clear h hl
  intro l H hl h
  refine thenN ?_
  refine seqI (c := persist_Period_1_c3) rfl ?_
  refine regI hl (Eq.mpr (persist_Period_1_g10_e _ (fun i => l.getD i undef) _) h) ?_
  clear h hl
  intro l H hl h
  refine thenN ?_
  refine seqI (c := persist_Period_1_c5) rfl ?_
  refine regI hl (Eq.mpr (persist_Period_1_g11_e _ (fun i => l.getD i undef) _) h) ?_
  clear h hl
  intro l H hl h
  refine thenN ?_
  refine condI (c := persist_Period_1_c7) rfl h ?_ ?_
  · clear h; intro h
    refine regI hl (Eq.mpr (persist_Period_1_g12_e _ (fun i => l.getD i undef) _) h) ?_
    clear h hl
    intro l H hl h
    exact h
  · clear h; intro h
    refine skipI rfl ?_
    exact h
theorem persist_Period_1_ok : okB persist_Period_1_pi persist_Period_1_c1 = true := by kernel_rfl
theorem persist_Period_1_ev0 (x0 x1 x2 x3 x4 x5 : Value) (R : Value → Heap → Prop) (H : Heap) (h : persist_Period_1 x0 x1 x2 x3 x4 x5 R H) : EvL P N.persist_Period_1 #[x0, x1, x2, x3, x4, x5] H R :=
  EvF_intro (args := [x0, x1, x2, x3, x4, x5]) (k := 20) (rs := persist_Period_1_rs) tab_ok mixed Try.func24 (show Try.f24.body = some persist_Period_1_c1 by kernel_rfl) Try.call24 Try.ntmps24 (by kernel_rfl) (okCode_of _ persist_Period_1_ok) rfl (persist_Period_1_i R x0 x1 x2 x3 x4 x5 H h)
theorem persist_Period_1_ev (x0 x1 x2 x3 x4 x5 : Value) (R : Value → Heap → Prop) (H : Heap) (h : persist_Period_1 x0 x1 x2 x3 x4 x5 R H) : EvF P N.persist_Period_1 #[x0, x1, x2, x3, x4, x5] H R := .inl (persist_Period_1_ev0 x0 x1 x2 x3 x4 x5 R H h)
/- 25: sounder/persist.pairs -/
def persist_pairs_rs : List ResultVar := [.tmp 6]
noncomputable def persist_pairs_c2 : Code := subC (bodyC Try.f25) [0]
noncomputable def persist_pairs_c4 : Code := subC (bodyC Try.f25) [1, 0]
noncomputable def persist_pairs_c6 : Code := subC (bodyC Try.f25) [1, 1, 0]
noncomputable def persist_pairs_c8 : Code := subC (bodyC Try.f25) [1, 1, 1, 0]
noncomputable def persist_pairs_c7 : Code := .seq persist_pairs_c8 Code.ret
noncomputable def persist_pairs_c5 : Code := .seq persist_pairs_c6 persist_pairs_c7
noncomputable def persist_pairs_c3 : Code := .seq persist_pairs_c4 persist_pairs_c5
noncomputable def persist_pairs_c1 : Code := .seq persist_pairs_c2 persist_pairs_c3
def persist_pairs_pi (_ : Nat) : Pl := .nil
def persist_pairs_g9 (S : Value → Value → Value → Heap → Prop) (x0 x1 x2 : Value) (H : Heap) : Prop :=
  newE 25 (Value.cells x0) H fun v3 H1 =>
  newE 28 (Value.cells x1) H1 fun v4 H2 =>
  newE 3 (Value.cells x2) H2 fun v5 H3 =>
  S v3 v4 v5 H3
theorem persist_pairs_g9_e (S : Value → Value → Value → Heap → Prop) (x : Nat → Value) (H : Heap) : wpE tab P persist_pairs_pi persist_pairs_c2 (nQ fun l H => S (l.getD 3 undef) (l.getD 4 undef) (l.getD 5 undef) H) ((List.range 12).map x) H = persist_pairs_g9 S (x 0) (x 1) (x 2) H := by kernel_rfl
def persist_pairs_g10 (S : Value → Value → Value → Heap → Prop) (x3 x4 x5 : Value) (H : Heap) : Prop :=
  newE 77 #[.nilFunc] H fun v7 H1 =>
  bnd (stE 1 v7 (.func (.func N.persist_pairs_1) #[] #[x5]) H1) fun H2 =>
  S x3 x4 v7 H2
theorem persist_pairs_g10_e (S : Value → Value → Value → Heap → Prop) (x : Nat → Value) (H : Heap) : wpE tab P persist_pairs_pi persist_pairs_c4 (nQ fun l H => S (l.getD 3 undef) (l.getD 4 undef) (l.getD 7 undef) H) ((List.range 12).map x) H = persist_pairs_g10 S (x 3) (x 4) (x 5) H := by kernel_rfl
def persist_pairs_g11 (S : Value → Value → Value → Heap → Prop) (x3 x4 x7 : Value) (H : Heap) : Prop :=
  newE 82 #[.nilFunc] H fun v8 H1 =>
  bnd (stE 1 v8 (.func (.func N.persist_pairs_2) #[] #[x4]) H1) fun H2 =>
  S x3 x7 v8 H2
theorem persist_pairs_g11_e (S : Value → Value → Value → Heap → Prop) (x : Nat → Value) (H : Heap) : wpE tab P persist_pairs_pi persist_pairs_c6 (nQ fun l H => S (l.getD 3 undef) (l.getD 7 undef) (l.getD 8 undef) H) ((List.range 12).map x) H = persist_pairs_g11 S (x 3) (x 4) (x 7) H := by kernel_rfl
def persist_pairs_g12 (S : Value → Heap → Prop) (x3 x7 x8 : Value) (H : Heap) : Prop :=
  S (.func (.func N.persist_pairs_3) #[] #[x3, x7, x8]) H
theorem persist_pairs_g12_e (S : Value → Heap → Prop) (x : Nat → Value) (H : Heap) : wpE tab P persist_pairs_pi persist_pairs_c8 (nQ fun l H => S (l.getD 6 undef) H) ((List.range 12).map x) H = persist_pairs_g12 S (x 3) (x 7) (x 8) H := by kernel_rfl
def persist_pairs (x0 x1 x2 : Value) (R : Value → Heap → Prop) (H : Heap) : Prop :=
  persist_pairs_g9 (fun x3 x4 x5 H => persist_pairs_g10 (fun x3 x4 x7 H => persist_pairs_g11 (fun x3 x7 x8 H => persist_pairs_g12 (fun x6 H => R x6 H) x3 x7 x8 H) x3 x4 x7 H) x3 x4 x5 H) x0 x1 x2 H
theorem persist_pairs_i (R : Value → Heap → Prop) (x0 x1 x2 : Value) (H : Heap) (h : persist_pairs x0 x1 x2 R H) : wpE tab P persist_pairs_pi persist_pairs_c1 (retQ tab persist_pairs_rs R) [x0, x1, x2, undef, undef, undef, undef, undef, undef, undef, undef, undef] H := by
  obtain ⟨l, hl, el⟩ : ∃ l : List Value, l.length = 12 ∧ l = [x0, x1, x2, undef, undef, undef, undef, undef, undef, undef, undef, undef] := ⟨_, rfl, rfl⟩
  rw [← el]
  have h : (fun (x0 x1 x2 : Value) => persist_pairs_g9 (fun x3 x4 x5 H => persist_pairs_g10 (fun x3 x4 x7 H => persist_pairs_g11 (fun x3 x7 x8 H => persist_pairs_g12 (fun x6 H => R x6 H) x3 x7 x8 H) x3 x4 x7 H) x3 x4 x5 H) x0 x1 x2 H) (l.getD 0 undef) (l.getD 1 undef) (l.getD 2 undef) := by rw [el]; exact h
  clear el
  refine seqI (c := persist_pairs_c1) rfl ?_
  refine regI hl (Eq.mpr (persist_pairs_g9_e _ (fun i => l.getD i undef) _) h) ?_
  clear h hl
  intro l H hl h
  refine thenN ?_
  refine seqI (c := persist_pairs_c3) rfl ?_
  refine regI hl (Eq.mpr (persist_pairs_g10_e _ (fun i => l.getD i undef) _) h) ?_
  clear h hl
  intro l H hl h
  refine thenN ?_
  refine seqI (c := persist_pairs_c5) rfl ?_
  refine regI hl (Eq.mpr (persist_pairs_g11_e _ (fun i => l.getD i undef) _) h) ?_
  clear h hl
  intro l H hl h
  refine thenN ?_
  refine seqI (c := persist_pairs_c7) rfl ?_
  refine regI hl (Eq.mpr (persist_pairs_g12_e _ (fun i => l.getD i undef) _) h) ?_
  clear h hl
  intro l H hl h
  refine thenN ?_
  refine retI rfl ?_
  exact h
theorem persist_pairs_ok : okB persist_pairs_pi persist_pairs_c1 = true := by kernel_rfl
theorem persist_pairs_ev0 (x0 x1 x2 : Value) (R : Value → Heap → Prop) (H : Heap) (h : persist_pairs x0 x1 x2 R H) : EvL P N.persist_pairs #[x0, x1, x2] H R :=
  EvF_intro (args := [x0, x1, x2]) (k := 9) (rs := persist_pairs_rs) tab_ok mixed Try.func25 (show Try.f25.body = some persist_pairs_c1 by kernel_rfl) Try.call25 Try.ntmps25 (by kernel_rfl) (okCode_of _ persist_pairs_ok) rfl (persist_pairs_i R x0 x1 x2 H h)
theorem persist_pairs_ev (x0 x1 x2 : Value) (R : Value → Heap → Prop) (H : Heap) (h : persist_pairs x0 x1 x2 R H) : EvF P N.persist_pairs #[x0, x1, x2] H R := .inl (persist_pairs_ev0 x0 x1 x2 R H h)
/- 26: sounder/rtt.Check -/
def rtt_Check_rs : List ResultVar := [.tmp 2]
noncomputable def rtt_Check_c2 : Code := subC (bodyC Try.f26) [0]
noncomputable def rtt_Check_c5 : Code := subC (bodyC Try.f26) [1, 0, 0]
noncomputable def rtt_Check_c9 : Code := subC (bodyC Try.f26) [1, 0, 1, 0, 0, 0]
noncomputable def rtt_Check_c11 : Code := subC (bodyC Try.f26) [1, 0, 1, 0, 0, 1, 0]
noncomputable def rtt_Check_c14 : Code := subC (bodyC Try.f26) [1, 0, 1, 0, 0, 1, 1, 0, 0]
noncomputable def rtt_Check_c13 : Code := .seq rtt_Check_c14 Code.ret
noncomputable def rtt_Check_c12 : Code := .cond (.tmp 20) rtt_Check_c13 Code.skip
noncomputable def rtt_Check_c10 : Code := .seq rtt_Check_c11 rtt_Check_c12
noncomputable def rtt_Check_c8 : Code := .seq rtt_Check_c9 rtt_Check_c10
noncomputable def rtt_Check_c16 : Code := subC (bodyC Try.f26) [1, 0, 1, 0, 1, 0]
noncomputable def rtt_Check_c15 : Code := .seq rtt_Check_c16 Code.ret
noncomputable def rtt_Check_c7 : Code := .seq rtt_Check_c8 rtt_Check_c15
noncomputable def rtt_Check_c6 : Code := .cond (.tmp 7) rtt_Check_c7 Code.skip
noncomputable def rtt_Check_c4 : Code := .seq rtt_Check_c5 rtt_Check_c6
noncomputable def rtt_Check_c19 : Code := subC (bodyC Try.f26) [1, 1, 0, 0]
noncomputable def rtt_Check_c22 : Code := subC (bodyC Try.f26) [1, 1, 0, 1, 0, 0]
noncomputable def rtt_Check_c21 : Code := .seq rtt_Check_c22 Code.ret
noncomputable def rtt_Check_c20 : Code := .cond (.tmp 43) rtt_Check_c21 Code.skip
noncomputable def rtt_Check_c18 : Code := .seq rtt_Check_c19 rtt_Check_c20
noncomputable def rtt_Check_c24 : Code := subC (bodyC Try.f26) [1, 1, 1, 0]
noncomputable def rtt_Check_c23 : Code := .seq rtt_Check_c24 Code.ret
noncomputable def rtt_Check_c17 : Code := .seq rtt_Check_c18 rtt_Check_c23
noncomputable def rtt_Check_c3 : Code := .seq rtt_Check_c4 rtt_Check_c17
noncomputable def rtt_Check_c1 : Code := .seq rtt_Check_c2 rtt_Check_c3
def rtt_Check_pi (_ : Nat) : Pl := .nil
def rtt_Check_g25 (S : Value → Heap → Prop) (x0 : Value) (H : Heap) : Prop :=
  newE 36 (Value.cells x0) H fun v1 H1 =>
  S v1 H1
theorem rtt_Check_g25_e (S : Value → Heap → Prop) (x : Nat → Value) (H : Heap) : wpE tab P rtt_Check_pi rtt_Check_c2 (nQ fun l H => S (l.getD 1 undef) H) ((List.range 44).map x) H = rtt_Check_g25 S (x 0) H := by kernel_rfl
def rtt_Check_g26 (S : Value → Value → Heap → Prop) (x1 : Value) (H : Heap) : Prop :=
  bnd (faV 4 x1) fun v5 =>
  bnd (ldE false 1 v5 H) fun v6 =>
  bnd (binV .int .eql v6 (.int .i64 (-1))) fun v7 =>
  S x1 v7 H
theorem rtt_Check_g26_e (S : Value → Value → Heap → Prop) (x : Nat → Value) (H : Heap) : wpE tab P rtt_Check_pi rtt_Check_c5 (nQ fun l H => S (l.getD 1 undef) (l.getD 7 undef) H) ((List.range 44).map x) H = rtt_Check_g26 S (x 1) H := by kernel_rfl
def rtt_Check_g27 (S : Value → Value → Value → Heap → Prop) (x1 : Value) (H : Heap) : Prop :=
  bnd (faV 2 x1) fun v9 =>
  bnd (ldE false 1 v9 H) fun v10 =>
  EvF P N.rtt_New #[v10] H fun v11 H1 =>
  bnd (exV 0 v11) fun v12 =>
  bnd (exV 1 v11) fun v13 =>
  newE 36 #[(.int .i64 0), (.int .i64 0), (.int .i64 0), (.int .i64 0), (.int .i64 0)] H1 fun v3 H2 =>
  bnd (stE 5 v3 v12 H2) fun H3 =>
  S x1 v3 v13 H3
theorem rtt_Check_g27_e (S : Value → Value → Value → Heap → Prop) (x : Nat → Value) (H : Heap) : wpE tab P rtt_Check_pi rtt_Check_c9 (nQ fun l H => S (l.getD 1 undef) (l.getD 3 undef) (l.getD 4 undef) H) ((List.range 44).map x) H = rtt_Check_g27 S (x 1) H := by kernel_rfl
def rtt_Check_g28 (S : Value → Heap → Prop) (x1 x3 x4 : Value) (H : Heap) : Prop :=
  bnd (binV .int .neq x4 (.int .i64 0)) fun v15 =>
  brV v15
  (S (.bool true) H)
  (bnd (ldE true 5 x3 H) fun v17 =>
  bnd (ldE true 5 x1 H) fun v18 =>
  bnd (binV (.agg [true, true, true, true, true]) .neq v17 v18) fun v19 =>
  S v19 H)
theorem rtt_Check_g28_e (S : Value → Heap → Prop) (x : Nat → Value) (H : Heap) : wpE tab P rtt_Check_pi rtt_Check_c11 (nQ fun l H => S (l.getD 20 undef) H) ((List.range 44).map x) H = rtt_Check_g28 S (x 1) (x 3) (x 4) H := by kernel_rfl
def rtt_Check_g29 (S : Value → Heap → Prop) (H : Heap) : Prop :=
  S (.int .i64 2) H
theorem rtt_Check_g29_e (S : Value → Heap → Prop) (x : Nat → Value) (H : Heap) : wpE tab P rtt_Check_pi rtt_Check_c14 (nQ fun l H => S (l.getD 2 undef) H) ((List.range 44).map x) H = rtt_Check_g29 S  H := by kernel_rfl
def rtt_Check_g30 (S : Value → Heap → Prop) (H : Heap) : Prop :=
  S (.int .i64 0) H
theorem rtt_Check_g30_e (S : Value → Heap → Prop) (x : Nat → Value) (H : Heap) : wpE tab P rtt_Check_pi rtt_Check_c16 (nQ fun l H => S (l.getD 2 undef) H) ((List.range 44).map x) H = rtt_Check_g30 S  H := by kernel_rfl
def rtt_Check_g31 (S : Value → Heap → Prop) (x1 : Value) (H : Heap) : Prop :=
  bnd (faV 4 x1) fun v21 =>
  bnd (ldE false 1 v21 H) fun v22 =>
  bnd (faV 0 x1) fun v23 =>
  bnd (ldE false 1 v23 H) fun v24 =>
  bnd (faV 1 x1) fun v25 =>
  bnd (ldE false 1 v25 H) fun v26 =>
  bnd (faV 2 x1) fun v27 =>
  bnd (ldE false 1 v27 H) fun v28 =>
  bnd (faV 3 x1) fun v29 =>
  bnd (ldE false 1 v29 H) fun v30 =>
  bslE 3 #[(.int .i64 0)] 1 5 [(0, v22), (1, v24), (2, v26), (3, v28), (4, v30)] H fun v31 H1 =>
  EvF P N.rtt_isTime #[v31] H1 fun v32 H2 =>
  bnd (unV .not v32) fun v33 =>
  brV v33
  (S (.bool true) H2)
  (bnd (faV 1 x1) fun v35 =>
  bnd (ldE false 1 v35 H2) fun v36 =>
  bnd (faV 0 x1) fun v37 =>
  bnd (ldE false 1 v37 H2) fun v38 =>
  bnd (faV 2 x1) fun v39 =>
  bnd (ldE false 1 v39 H2) fun v40 =>
  bnd (foldV min2V v38 [v40]) fun v41 =>
  bnd (binV .int .gtr v36 v41) fun v42 =>
  S v42 H2)
theorem rtt_Check_g31_e (S : Value → Heap → Prop) (x : Nat → Value) (H : Heap) : wpE tab P rtt_Check_pi rtt_Check_c19 (nQ fun l H => S (l.getD 43 undef) H) ((List.range 44).map x) H = rtt_Check_g31 S (x 1) H := by kernel_rfl
def rtt_Check_g32 (S : Value → Heap → Prop) (H : Heap) : Prop :=
  S (.int .i64 2) H
theorem rtt_Check_g32_e (S : Value → Heap → Prop) (x : Nat → Value) (H : Heap) : wpE tab P rtt_Check_pi rtt_Check_c22 (nQ fun l H => S (l.getD 2 undef) H) ((List.range 44).map x) H = rtt_Check_g32 S  H := by kernel_rfl
def rtt_Check_g33 (S : Value → Heap → Prop) (H : Heap) : Prop :=
  S (.int .i64 0) H
theorem rtt_Check_g33_e (S : Value → Heap → Prop) (x : Nat → Value) (H : Heap) : wpE tab P rtt_Check_pi rtt_Check_c24 (nQ fun l H => S (l.getD 2 undef) H) ((List.range 44).map x) H = rtt_Check_g33 S  H := by kernel_rfl
def rtt_Check (x0 : Value) (R : Value → Heap → Prop) (H : Heap) : Prop :=
  rtt_Check_g25 (fun x1 H => rtt_Check_g26 (fun x1 x7 H => brV x7
  (rtt_Check_g27 (fun x1 x3 x4 H => rtt_Check_g28 (fun x20 H => brV x20
  (rtt_Check_g29 (fun x2 H => R x2 H) H)
  (rtt_Check_g30 (fun x2 H => R x2 H) H)) x1 x3 x4 H) x1 H)
  (rtt_Check_g31 (fun x43 H => brV x43
  (rtt_Check_g32 (fun x2 H => R x2 H) H)
  (rtt_Check_g33 (fun x2 H => R x2 H) H)) x1 H)) x1 H) x0 H
theorem rtt_Check_i (R : Value → Heap → Prop) (x0 : Value) (H : Heap) (h : rtt_Check x0 R H) : wpE tab P rtt_Check_pi rtt_Check_c1 (retQ tab rtt_Check_rs R) [x0, undef, undef, undef, undef, undef, undef, undef, undef, undef, undef, undef, undef, undef, undef, undef, undef, undef, undef, undef, undef, undef, undef, undef, undef, undef, undef, undef, undef, undef, undef, undef, undef, undef, undef, undef, undef, undef, undef, undef, undef, undef, undef, undef] H := by
  obtain ⟨l, hl, el⟩ : ∃ l : List Value, l.length = 44 ∧ l = [x0, undef, undef, undef, undef, undef, undef, undef, undef, undef, undef, undef, undef, undef, undef, undef, undef, undef, undef, undef, undef, undef, undef, undef, undef, undef, undef, undef, undef, undef, undef, undef, undef, undef, undef, undef, undef, undef, undef, undef, undef, undef, undef, undef] := ⟨_, rfl, rfl⟩
  rw [← el]
  have h : (fun (x0 : Value) => rtt_Check_g25 (fun x1 H => rtt_Check_g26 (fun x1 x7 H => brV x7
(rtt_Check_g27 (fun x1 x3 x4 H => rtt_Check_g28 (fun x20 H => brV x20
(rtt_Check_g29 (fun x2 H => R x2 H) H)
(rtt_Check_g30 (fun x2 H => R x2 H) H)) x1 x3 x4 H) x1 H)
(rtt_Check_g31 (fun x43 H => brV x43
(rtt_Check_g32 (fun x2 H => R x2 H) H)
(rtt_Check_g33 (fun x2 H => R x2 H) H)) x1 H)) x1 H) x0 H) (l.getD 0 undef) := by rw [el]; exact h
  clear el
  refine seqI (c := rtt_Check_c1) rfl ?_
  refine regI hl (Eq.mpr (rtt_Check_g25_e _ (fun i => l.getD i undef) _) h) ?_
  clear h hl
  intro l H hl h
  refine thenN ?_
  refine seqI (c := rtt_Check_c3) rfl ?_
  refine seqI (c := rtt_Check_c4) rfl ?_
  refine regI hl (Eq.mpr (rtt_Check_g26_e _ (fun i => l.getD i undef) _) h) ?_
  clear h hl
  intro l H hl h
  refine thenN ?_
  refine condI (c := rtt_Check_c6) rfl h ?_ ?_
  · clear h; intro h
    refine seqI (c := rtt_Check_c7) rfl ?_
    refine seqI (c := rtt_Check_c8) rfl ?_
    refine regI hl (Eq.mpr (rtt_Check_g27_e _ (fun i => l.getD i undef) _) h) ?_
    clear h hl
    intro l H hl h
    refine thenN ?_
    refine seqI (c := rtt_Check_c10) rfl ?_
    refine regI hl (Eq.mpr (rtt_Check_g28_e _ (fun i => l.getD i undef) _) h) ?_
    clear h hl
    intro l H hl h
    refine thenN ?_
    refine condI (c := rtt_Check_c12) rfl h ?_ ?_
    · clear h; intro h
      refine seqI (c := rtt_Check_c13) rfl ?_
      refine regI hl (Eq.mpr (rtt_Check_g29_e _ (fun i => l.getD i undef) _) h) ?_
      clear h hl
      intro l H hl h
      refine thenN ?_
      refine retI rfl ?_
      refine thenR ?_
      refine thenR ?_
      exact h
    · clear h; intro h
      refine skipI rfl ?_
      refine thenN ?_
      refine seqI (c := rtt_Check_c15) rfl ?_
      refine regI hl (Eq.mpr (rtt_Check_g30_e _ (fun i => l.getD i undef) _) h) ?_
      clear h hl
      intro l H hl h
      refine thenN ?_
      refine retI rfl ?_
      refine thenR ?_
      exact h
  · clear h; intro h
    refine skipI rfl ?_
    refine thenN ?_
    refine seqI (c := rtt_Check_c17) rfl ?_
    refine seqI (c := rtt_Check_c18) rfl ?_
    refine regI hl (Eq.mpr (rtt_Check_g31_e _ (fun i => l.getD i undef) _) h) ?_
    clear h hl
    intro l H hl h
    refine thenN ?_
    refine condI (c := rtt_Check_c20) rfl h ?_ ?_
    · clear h; intro h
      refine seqI (c := rtt_Check_c21) rfl ?_
      refine regI hl (Eq.mpr (rtt_Check_g32_e _ (fun i => l.getD i undef) _) h) ?_
      clear h hl
      intro l H hl h
      refine thenN ?_
      refine retI rfl ?_
      refine thenR ?_
      exact h
    · clear h; intro h
      refine skipI rfl ?_
      refine thenN ?_
      refine seqI (c := rtt_Check_c23) rfl ?_
      refine regI hl (Eq.mpr (rtt_Check_g33_e _ (fun i => l.getD i undef) _) h) ?_
      clear h hl
      intro l H hl h
      refine thenN ?_
      refine retI rfl ?_
      exact h
theorem rtt_Check_ok : okB rtt_Check_pi rtt_Check_c1 = true := by kernel_rfl
theorem rtt_Check_ev0 (x0 : Value) (R : Value → Heap → Prop) (H : Heap) (h : rtt_Check x0 R H) : EvL P N.rtt_Check #[x0] H R :=
  EvF_intro (args := [x0]) (k := 43) (rs := rtt_Check_rs) tab_ok mixed Try.func26 (show Try.f26.body = some rtt_Check_c1 by kernel_rfl) Try.call26 Try.ntmps26 (by kernel_rfl) (okCode_of _ rtt_Check_ok) rfl (rtt_Check_i R x0 H h)
theorem rtt_Check_ev (x0 : Value) (R : Value → Heap → Prop) (H : Heap) (h : rtt_Check x0 R H) : EvF P N.rtt_Check #[x0] H R := .inl (rtt_Check_ev0 x0 R H h)
/- 27: sounder/pto.Persist -/
def pto_Persist_rs : List ResultVar := [.tmp 4]
noncomputable def pto_Persist_c2 : Code := subC (bodyC Try.f27) [0]
noncomputable def pto_Persist_c4 : Code := subC (bodyC Try.f27) [1, 0]
noncomputable def pto_Persist_c3 : Code := .seq pto_Persist_c4 Code.ret
noncomputable def pto_Persist_c1 : Code := .seq pto_Persist_c2 pto_Persist_c3
def pto_Persist_pi (_ : Nat) : Pl := .nil
def pto_Persist_g5 (S : Value → Value → Heap → Prop) (x0 x1 : Value) (H : Heap) : Prop :=
  newE 36 (Value.cells x0) H fun v2 H1 =>
  S x1 v2 H1
theorem pto_Persist_g5_e (S : Value → Value → Heap → Prop) (x : Nat → Value) (H : Heap) : wpE tab P pto_Persist_pi pto_Persist_c2 (nQ fun l H => S (l.getD 1 undef) (l.getD 2 undef) H) ((List.range 10).map x) H = pto_Persist_g5 S (x 0) (x 1) H := by kernel_rfl
def pto_Persist_g6 (S : Value → Heap → Prop) (x1 x2 : Value) (H : Heap) : Prop :=
  bnd (ldE true 5 x2 H) fun v5 =>
  EvF P N.pto_Base #[v5, (.int .i64 2), x1] H fun v7 H1 =>
  bnd (binV .int .mul (.int .i64 3) v7) fun v8 =>
  EvF P N.pto_time #[v8] H1 fun v9 H2 =>
  S v9 H2
theorem pto_Persist_g6_e (S : Value → Heap → Prop) (x : Nat → Value) (H : Heap) : wpE tab P pto_Persist_pi pto_Persist_c4 (nQ fun l H => S (l.getD 4 undef) H) ((List.range 10).map x) H = pto_Persist_g6 S (x 1) (x 2) H := by kernel_rfl
def pto_Persist (x0 x1 : Value) (R : Value → Heap → Prop) (H : Heap) : Prop :=
  pto_Persist_g5 (fun x1 x2 H => pto_Persist_g6 (fun x4 H => R x4 H) x1 x2 H) x0 x1 H
theorem pto_Persist_i (R : Value → Heap → Prop) (x0 x1 : Value) (H : Heap) (h : pto_Persist x0 x1 R H) : wpE tab P pto_Persist_pi pto_Persist_c1 (retQ tab pto_Persist_rs R) [x0, x1, undef, undef, undef, undef, undef, undef, undef, undef] H := by
  obtain ⟨l, hl, el⟩ : ∃ l : List Value, l.length = 10 ∧ l = [x0, x1, undef, undef, undef, undef, undef, undef, undef, undef] := ⟨_, rfl, rfl⟩
  rw [← el]
  have h : (fun (x0 x1 : Value) => pto_Persist_g5 (fun x1 x2 H => pto_Persist_g6 (fun x4 H => R x4 H) x1 x2 H) x0 x1 H) (l.getD 0 undef) (l.getD 1 undef) := by rw [el]; exact h
  clear el
  refine seqI (c := pto_Persist_c1) rfl ?_
  refine regI hl (Eq.mpr (pto_Persist_g5_e _ (fun i => l.getD i undef) _) h) ?_
  clear h hl
  intro l H hl h
  refine thenN ?_
  refine seqI (c := pto_Persist_c3) rfl ?_
  refine regI hl (Eq.mpr (pto_Persist_g6_e _ (fun i => l.getD i undef) _) h) ?_
  clear h hl
  intro l H hl h
  refine thenN ?_
  refine retI rfl ?_
  exact h
theorem pto_Persist_ok : okB pto_Persist_pi pto_Persist_c1 = true := by kernel_rfl
theorem pto_Persist_ev0 (x0 x1 : Value) (R : Value → Heap → Prop) (H : Heap) (h : pto_Persist x0 x1 R H) : EvL P N.pto_Persist #[x0, x1] H R :=
  EvF_intro (args := [x0, x1]) (k := 8) (rs := pto_Persist_rs) tab_ok mixed Try.func27 (show Try.f27.body = some pto_Persist_c1 by kernel_rfl) Try.call27 Try.ntmps27 (by kernel_rfl) (okCode_of _ pto_Persist_ok) rfl (pto_Persist_i R x0 x1 H h)
theorem pto_Persist_ev (x0 x1 : Value) (R : Value → Heap → Prop) (H : Heap) (h : pto_Persist x0 x1 R H) : EvF P N.pto_Persist #[x0, x1] H R := .inl (pto_Persist_ev0 x0 x1 R H h)
/- 31: sounder/span.New -/
def span_New_rs : List ResultVar := [.tmp 2, .tmp 3]
noncomputable def span_New_c2 : Code := subC (bodyC Try.f31) [0]
noncomputable def span_New_c5 : Code := subC (bodyC Try.f31) [1, 0, 0]
noncomputable def span_New_c8 : Code := subC (bodyC Try.f31) [1, 0, 1, 0, 0]
noncomputable def span_New_c7 : Code := .seq span_New_c8 Code.ret
noncomputable def span_New_c6 : Code := .cond (.tmp 9) span_New_c7 Code.skip
noncomputable def span_New_c4 : Code := .seq span_New_c5 span_New_c6
noncomputable def span_New_c10 : Code := subC (bodyC Try.f31) [1, 1, 0]
noncomputable def span_New_c9 : Code := .seq span_New_c10 Code.ret
noncomputable def span_New_c3 : Code := .seq span_New_c4 span_New_c9
noncomputable def span_New_c1 : Code := .seq span_New_c2 span_New_c3
def span_New_pi (_ : Nat) : Pl := .nil
def span_New_g11 (S : Value → Heap → Prop) (x0 : Value) (H : Heap) : Prop :=
  S x0 H
theorem span_New_g11_e (S : Value → Heap → Prop) (x : Nat → Value) (H : Heap) : wpE tab P span_New_pi span_New_c2 (nQ fun l H => S (l.getD 0 undef) H) ((List.range 13).map x) H = span_New_g11 S (x 0) H := by kernel_rfl
def span_New_g12 (S : Value → Value → Heap → Prop) (x0 : Value) (H : Heap) : Prop :=
  bnd (binV .int .lss x0 (.int .i64 1)) fun v5 =>
  brV v5
  (S x0 (.bool true) H)
  (bnd (binV .int .gtr x0 (.int .i64 256)) fun v8 =>
  S x0 v8 H)
theorem span_New_g12_e (S : Value → Value → Heap → Prop) (x : Nat → Value) (H : Heap) : wpE tab P span_New_pi span_New_c5 (nQ fun l H => S (l.getD 0 undef) (l.getD 9 undef) H) ((List.range 13).map x) H = span_New_g12 S (x 0) H := by kernel_rfl
def span_New_g13 (S : Value → Value → Heap → Prop) (H : Heap) : Prop :=
  S (.pointer none) (.int .i64 2) H
theorem span_New_g13_e (S : Value → Value → Heap → Prop) (x : Nat → Value) (H : Heap) : wpE tab P span_New_pi span_New_c8 (nQ fun l H => S (l.getD 2 undef) (l.getD 3 undef) H) ((List.range 13).map x) H = span_New_g13 S  H := by kernel_rfl
def span_New_g14 (S : Value → Value → Heap → Prop) (x0 : Value) (H : Heap) : Prop :=
  bnd (buildV #[(.int .i64 0), (.slice none 0 0)] (places [(0, 1), (1, 1)]) [(0, x0)]) fun v11 =>
  newE 75 (Value.cells v11) H fun v12 H1 =>
  S v12 (.int .i64 0) H1
theorem span_New_g14_e (S : Value → Value → Heap → Prop) (x : Nat → Value) (H : Heap) : wpE tab P span_New_pi span_New_c10 (nQ fun l H => S (l.getD 2 undef) (l.getD 3 undef) H) ((List.range 13).map x) H = span_New_g14 S (x 0) H := by kernel_rfl
def span_New (x0 : Value) (R : Value → Heap → Prop) (H : Heap) : Prop :=
  span_New_g11 (fun x0 H => span_New_g12 (fun x0 x9 H => brV x9
  (span_New_g13 (fun x2 x3 H => R (.tuple #[x2, x3]) H) H)
  (span_New_g14 (fun x2 x3 H => R (.tuple #[x2, x3]) H) x0 H)) x0 H) x0 H
theorem span_New_i (R : Value → Heap → Prop) (x0 : Value) (H : Heap) (h : span_New x0 R H) : wpE tab P span_New_pi span_New_c1 (retQ tab span_New_rs R) [x0, undef, undef, undef, undef, undef, undef, undef, undef, undef, undef, undef, undef] H := by
  obtain ⟨l, hl, el⟩ : ∃ l : List Value, l.length = 13 ∧ l = [x0, undef, undef, undef, undef, undef, undef, undef, undef, undef, undef, undef, undef] := ⟨_, rfl, rfl⟩
  rw [← el]
  have h : (fun (x0 : Value) => span_New_g11 (fun x0 H => span_New_g12 (fun x0 x9 H => brV x9
(span_New_g13 (fun x2 x3 H => R (.tuple #[x2, x3]) H) H)
(span_New_g14 (fun x2 x3 H => R (.tuple #[x2, x3]) H) x0 H)) x0 H) x0 H) (l.getD 0 undef) := by rw [el]; exact h
  clear el
  refine seqI (c := span_New_c1) rfl ?_
  refine regI hl (Eq.mpr (span_New_g11_e _ (fun i => l.getD i undef) _) h) ?_
  clear h hl
  intro l H hl h
  refine thenN ?_
  refine seqI (c := span_New_c3) rfl ?_
  refine seqI (c := span_New_c4) rfl ?_
  refine regI hl (Eq.mpr (span_New_g12_e _ (fun i => l.getD i undef) _) h) ?_
  clear h hl
  intro l H hl h
  refine thenN ?_
  refine condI (c := span_New_c6) rfl h ?_ ?_
  · clear h; intro h
    refine seqI (c := span_New_c7) rfl ?_
    refine regI hl (Eq.mpr (span_New_g13_e _ (fun i => l.getD i undef) _) h) ?_
    clear h hl
    intro l H hl h
    refine thenN ?_
    refine retI rfl ?_
    refine thenR ?_
    exact h
  · clear h; intro h
    refine skipI rfl ?_
    refine thenN ?_
    refine seqI (c := span_New_c9) rfl ?_
    refine regI hl (Eq.mpr (span_New_g14_e _ (fun i => l.getD i undef) _) h) ?_
    clear h hl
    intro l H hl h
    refine thenN ?_
    refine retI rfl ?_
    exact h
theorem span_New_ok : okB span_New_pi span_New_c1 = true := by kernel_rfl
theorem span_New_ev0 (x0 : Value) (R : Value → Heap → Prop) (H : Heap) (h : span_New x0 R H) : EvL P N.span_New #[x0] H R :=
  EvF_intro (args := [x0]) (k := 12) (rs := span_New_rs) tab_ok mixed Try.func31 (show Try.f31.body = some span_New_c1 by kernel_rfl) Try.call31 Try.ntmps31 (by kernel_rfl) (okCode_of _ span_New_ok) rfl (span_New_i R x0 H h)
theorem span_New_ev (x0 : Value) (R : Value → Heap → Prop) (H : Heap) (h : span_New x0 R H) : EvF P N.span_New #[x0] H R := .inl (span_New_ev0 x0 R H h)
end Go.Hc
