/- Functions, printed by gen.py. -/
import Derived.Test.YtbchcnmghcmaoaaT
set_option linter.unusedSimpArgs false
set_option linter.unusedVariables false
set_option maxRecDepth 100000
namespace Go.Hc
open Go Go.Proofs
/- 49: sounder/rtt.New -/
def z49_rs : List ResultVar := [.cell 2 36, .tmp 3]
noncomputable def z49_c2 : Code := subC (bodyC Try.f49) [0]
noncomputable def z49_c5 : Code := subC (bodyC Try.f49) [1, 0, 0]
noncomputable def z49_c8 : Code := subC (bodyC Try.f49) [1, 0, 1, 0, 0]
noncomputable def z49_c7 : Code := .seq z49_c8 Code.ret
noncomputable def z49_c6 : Code := .cond (.tmp 9) z49_c7 Code.skip
noncomputable def z49_c4 : Code := .seq z49_c5 z49_c6
noncomputable def z49_c10 : Code := subC (bodyC Try.f49) [1, 1, 0]
noncomputable def z49_c9 : Code := .seq z49_c10 Code.ret
noncomputable def z49_c3 : Code := .seq z49_c4 z49_c9
noncomputable def z49_c1 : Code := .seq z49_c2 z49_c3
def z49_pi (_ : Nat) : Pl := .nil
def z49_g11 (S : Value → Value → Heap → Prop) (x0 : Value) (H : Heap) : Prop :=
  newE 36 #[(.int .i64 0), (.int .i64 0), (.int .i64 0), (.int .i64 0), (.int .i64 0)] H fun v2 H1 =>
  S x0 v2 H1
theorem z49_g11_e (S : Value → Value → Heap → Prop) (x : Nat → Value) (H : Heap) : wpE tab P z49_pi z49_c2 (nQ fun l H => S (l.getD 0 undef) (l.getD 2 undef) H) ((List.range 15).map x) H = z49_g11 S (x 0) H := by kernel_rfl
def z49_g12 (S : Value → Value → Value → Heap → Prop) (x0 x2 : Value) (H : Heap) : Prop :=
  bnd (binV .int .lss x0 (.int .i64 1000000)) fun v5 =>
  brV v5
  (S x0 x2 (.bool true) H)
  (bnd (binV .int .gtr x0 (.int .i64 60000000000)) fun v8 =>
  S x0 x2 v8 H)
theorem z49_g12_e (S : Value → Value → Value → Heap → Prop) (x : Nat → Value) (H : Heap) : wpE tab P z49_pi z49_c5 (nQ fun l H => S (l.getD 0 undef) (l.getD 2 undef) (l.getD 9 undef) H) ((List.range 15).map x) H = z49_g12 S (x 0) (x 2) H := by kernel_rfl
def z49_g13 (S : Value → Value → Heap → Prop) (x2 : Value) (H : Heap) : Prop :=
  bnd (buildV #[(.int .i64 0), (.int .i64 0), (.int .i64 0), (.int .i64 0), (.int .i64 0)] (places [(0, 1), (1, 1), (2, 1), (3, 1), (4, 1)]) []) fun v10 =>
  bnd (stE 5 x2 v10 H) fun H1 =>
  S x2 (.int .i64 9) H1
theorem z49_g13_e (S : Value → Value → Heap → Prop) (x : Nat → Value) (H : Heap) : wpE tab P z49_pi z49_c8 (nQ fun l H => S (l.getD 2 undef) (l.getD 3 undef) H) ((List.range 15).map x) H = z49_g13 S (x 2) H := by kernel_rfl
def z49_g14 (S : Value → Value → Heap → Prop) (x0 x2 : Value) (H : Heap) : Prop :=
  bnd (binV .int .quo x0 (.int .i64 2)) fun v13 =>
  bnd (buildV #[(.int .i64 0), (.int .i64 0), (.int .i64 0), (.int .i64 0), (.int .i64 0)] (places [(0, 1), (1, 1), (2, 1), (3, 1), (4, 1)]) [(2, x0), (3, v13), (4, (.int .i64 (-1)))]) fun v14 =>
  bnd (stE 5 x2 v14 H) fun H1 =>
  S x2 (.int .i64 0) H1
theorem z49_g14_e (S : Value → Value → Heap → Prop) (x : Nat → Value) (H : Heap) : wpE tab P z49_pi z49_c10 (nQ fun l H => S (l.getD 2 undef) (l.getD 3 undef) H) ((List.range 15).map x) H = z49_g14 S (x 0) (x 2) H := by kernel_rfl
def rtt_New (x0 : Value) (R : Value → Heap → Prop) (H : Heap) : Prop :=
  z49_g11 (fun x0 x2 H => z49_g12 (fun x0 x2 x9 H => brV x9
  (z49_g13 (fun x2 x3 H => bnd (ldE true 5 x2 H) fun r0 =>
  R (.tuple #[r0, x3]) H) x2 H)
  (z49_g14 (fun x2 x3 H => bnd (ldE true 5 x2 H) fun r0 =>
  R (.tuple #[r0, x3]) H) x0 x2 H)) x0 x2 H) x0 H
theorem z49_i (R : Value → Heap → Prop) (x0 : Value) (H : Heap) (h : rtt_New x0 R H) : wpE tab P z49_pi z49_c1 (retQ tab z49_rs R) [x0, undef, undef, undef, undef, undef, undef, undef, undef, undef, undef, undef, undef, undef, undef] H := by
  obtain ⟨l, hl, el⟩ : ∃ l : List Value, l.length = 15 ∧ l = [x0, undef, undef, undef, undef, undef, undef, undef, undef, undef, undef, undef, undef, undef, undef] := ⟨_, rfl, rfl⟩
  rw [← el]
  have h : (fun (x0 : Value) => z49_g11 (fun x0 x2 H => z49_g12 (fun x0 x2 x9 H => brV x9
(z49_g13 (fun x2 x3 H => bnd (ldE true 5 x2 H) fun r0 =>
R (.tuple #[r0, x3]) H) x2 H)
(z49_g14 (fun x2 x3 H => bnd (ldE true 5 x2 H) fun r0 =>
R (.tuple #[r0, x3]) H) x0 x2 H)) x0 x2 H) x0 H) (l.getD 0 undef) := by rw [el]; exact h
  clear el
  refine seqI (c := z49_c1) rfl ?_
  refine regI hl (Eq.mpr (z49_g11_e _ (fun i => l.getD i undef) _) h) ?_
  clear h hl
  intro l H hl h
  refine thenN ?_
  refine seqI (c := z49_c3) rfl ?_
  refine seqI (c := z49_c4) rfl ?_
  refine regI hl (Eq.mpr (z49_g12_e _ (fun i => l.getD i undef) _) h) ?_
  clear h hl
  intro l H hl h
  refine thenN ?_
  refine condI (c := z49_c6) rfl h ?_ ?_
  · clear h; intro h
    refine seqI (c := z49_c7) rfl ?_
    refine regI hl (Eq.mpr (z49_g13_e _ (fun i => l.getD i undef) _) h) ?_
    clear h hl
    intro l H hl h
    refine thenN ?_
    refine retI rfl ?_
    refine thenR ?_
    exact h
  · clear h; intro h
    refine skipI rfl ?_
    refine thenN ?_
    refine seqI (c := z49_c9) rfl ?_
    refine regI hl (Eq.mpr (z49_g14_e _ (fun i => l.getD i undef) _) h) ?_
    clear h hl
    intro l H hl h
    refine thenN ?_
    refine retI rfl ?_
    exact h
theorem z49_ok : okB z49_pi z49_c1 = true := by kernel_rfl
theorem z49_ev0 (x0 : Value) (R : Value → Heap → Prop) (H : Heap) (h : rtt_New x0 R H) : EvL P N.rtt_New #[x0] H R :=
  EvF_intro (args := [x0]) (k := 14) (rs := z49_rs) tab_ok mixed Try.func49 (show Try.f49.body = some z49_c1 by kernel_rfl) Try.call49 Try.ntmps49 (by kernel_rfl) (okCode_of _ z49_ok) rfl (z49_i R x0 H h)
theorem z49_ev (x0 : Value) (R : Value → Heap → Prop) (H : Heap) (h : rtt_New x0 R H) : EvF P N.rtt_New #[x0] H R := .inl (z49_ev0 x0 R H h)
/- 50: sounder/rtt.isTime -/
def z50_rs : List ResultVar := [.tmp 2]
noncomputable def z50_c2 : Code := subC (bodyC Try.f50) [0]
noncomputable def z50_c5 : Code := subC (bodyC Try.f50) [1, 0, 0]
noncomputable def z50_c9 : Code := subC (bodyC Try.f50) [1, 0, 1, 0, 0, 0]
noncomputable def z50_c12 : Code := .exit 0
noncomputable def z50_c11 : Code := .cond (.tmp 8) Code.skip z50_c12
noncomputable def z50_c16 : Code := subC (bodyC Try.f50) [1, 0, 1, 0, 0, 1, 1, 0, 0, 0]
noncomputable def z50_c18 : Code := subC (bodyC Try.f50) [1, 0, 1, 0, 0, 1, 1, 0, 0, 1, 0]
noncomputable def z50_c21 : Code := subC (bodyC Try.f50) [1, 0, 1, 0, 0, 1, 1, 0, 0, 1, 1, 0, 0]
noncomputable def z50_c20 : Code := .seq z50_c21 Code.ret
noncomputable def z50_c19 : Code := .cond (.tmp 16) z50_c20 Code.skip
noncomputable def z50_c17 : Code := .seq z50_c18 z50_c19
noncomputable def z50_c15 : Code := .seq z50_c16 z50_c17
noncomputable def z50_c14 : Code := .block 1 z50_c15
noncomputable def z50_c22 : Code := subC (bodyC Try.f50) [1, 0, 1, 0, 0, 1, 1, 1]
noncomputable def z50_c13 : Code := .seq z50_c14 z50_c22
noncomputable def z50_c10 : Code := .seq z50_c11 z50_c13
noncomputable def z50_c8 : Code := .seq z50_c9 z50_c10
noncomputable def z50_c7 : Code := .loop z50_c8
noncomputable def z50_c6 : Code := .block 0 z50_c7
noncomputable def z50_c4 : Code := .seq z50_c5 z50_c6
noncomputable def z50_c24 : Code := subC (bodyC Try.f50) [1, 1, 0]
noncomputable def z50_c23 : Code := .seq z50_c24 Code.ret
noncomputable def z50_c3 : Code := .seq z50_c4 z50_c23
noncomputable def z50_c1 : Code := .seq z50_c2 z50_c3
def z50_pi (_ : Nat) : Pl := .nil
def z50_g25 (S : Value → Heap → Prop) (x0 : Value) (H : Heap) : Prop :=
  S x0 H
theorem z50_g25_e (S : Value → Heap → Prop) (x : Nat → Value) (H : Heap) : wpE tab P z50_pi z50_c2 (nQ fun l H => S (l.getD 0 undef) H) ((List.range 18).map x) H = z50_g25 S (x 0) H := by kernel_rfl
def z50_g26 (S : Value → Value → Value → Heap → Prop) (x0 : Value) (H : Heap) : Prop :=
  bnd (lenV x0) fun v6 =>
  S x0 v6 (.int .i64 0) H
theorem z50_g26_e (S : Value → Value → Value → Heap → Prop) (x : Nat → Value) (H : Heap) : wpE tab P z50_pi z50_c5 (nQ fun l H => S (l.getD 5 undef) (l.getD 6 undef) (l.getD 7 undef) H) ((List.range 18).map x) H = z50_g26 S (x 0) H := by kernel_rfl
def z50_g28 (S : Value → Value → Value → Value → Heap → Prop) (x5 x6 x7 : Value) (H : Heap) : Prop :=
  bnd (binV .int .lss x7 x6) fun v8 =>
  S x5 x6 x7 v8 H
theorem z50_g28_e (S : Value → Value → Value → Value → Heap → Prop) (x : Nat → Value) (H : Heap) : wpE tab P z50_pi z50_c9 (nQ fun l H => S (l.getD 5 undef) (l.getD 6 undef) (l.getD 7 undef) (l.getD 8 undef) H) ((List.range 18).map x) H = z50_g28 S (x 5) (x 6) (x 7) H := by kernel_rfl
def z50_g29 (S : Value → Value → Value → Value → Heap → Prop) (x5 x6 x7 : Value) (H : Heap) : Prop :=
  bnd (ixSV 1 x5 x7) fun v9 =>
  bnd (ldE false 1 v9 H) fun v10 =>
  S v10 x5 x6 x7 H
theorem z50_g29_e (S : Value → Value → Value → Value → Heap → Prop) (x : Nat → Value) (H : Heap) : wpE tab P z50_pi z50_c16 (nQ fun l H => S (l.getD 4 undef) (l.getD 5 undef) (l.getD 6 undef) (l.getD 7 undef) H) ((List.range 18).map x) H = z50_g29 S (x 5) (x 6) (x 7) H := by kernel_rfl
def z50_g30 (S : Value → Value → Value → Value → Heap → Prop) (x4 x5 x6 x7 : Value) (H : Heap) : Prop :=
  bnd (binV .int .lss x4 (.int .i64 0)) fun v12 =>
  brV v12
  (S x5 x6 x7 (.bool true) H)
  (bnd (binV .int .gtr x4 (.int .i64 9007199254740991)) fun v15 =>
  S x5 x6 x7 v15 H)
theorem z50_g30_e (S : Value → Value → Value → Value → Heap → Prop) (x : Nat → Value) (H : Heap) : wpE tab P z50_pi z50_c18 (nQ fun l H => S (l.getD 5 undef) (l.getD 6 undef) (l.getD 7 undef) (l.getD 16 undef) H) ((List.range 18).map x) H = z50_g30 S (x 4) (x 5) (x 6) (x 7) H := by kernel_rfl
def z50_g31 (S : Value → Heap → Prop) (H : Heap) : Prop :=
  S (.bool false) H
theorem z50_g31_e (S : Value → Heap → Prop) (x : Nat → Value) (H : Heap) : wpE tab P z50_pi z50_c21 (nQ fun l H => S (l.getD 2 undef) H) ((List.range 18).map x) H = z50_g31 S  H := by kernel_rfl
def z50_g32 (S : Value → Value → Value → Heap → Prop) (x5 x6 x7 : Value) (H : Heap) : Prop :=
  bnd (binV .int .add x7 (.int .i64 1)) fun v17 =>
  S x5 x6 v17 H
theorem z50_g32_e (S : Value → Value → Value → Heap → Prop) (x : Nat → Value) (H : Heap) : wpE tab P z50_pi z50_c22 (nQ fun l H => S (l.getD 5 undef) (l.getD 6 undef) (l.getD 7 undef) H) ((List.range 18).map x) H = z50_g32 S (x 5) (x 6) (x 7) H := by kernel_rfl
def z50_g33 (S : Value → Heap → Prop) (H : Heap) : Prop :=
  S (.bool true) H
theorem z50_g33_e (S : Value → Heap → Prop) (x : Nat → Value) (H : Heap) : wpE tab P z50_pi z50_c24 (nQ fun l H => S (l.getD 2 undef) H) ((List.range 18).map x) H = z50_g33 S  H := by kernel_rfl
def z50_s27 (x5 x6 x7 : Value) (K1 : Value → Value → Value →  Heap → Prop) (R : Value → Heap → Prop) (H : Heap) : Prop :=
  z50_g28 (fun x5 x6 x7 x8 H => brV x8
  (z50_g29 (fun x4 x5 x6 x7 H => z50_g30 (fun x5 x6 x7 x16 H => brV x16
  (z50_g31 (fun x2 H => R x2 H) H)
  (z50_g32 (fun x5 x6 x7 H => K1 x5 x6 x7 H) x5 x6 x7 H)) x4 x5 x6 x7 H) x5 x6 x7 H)
  (z50_g33 (fun x2 H => R x2 H) H)) x5 x6 x7 H
noncomputable def z50_q34 (R : Value → Heap → Prop) : Exit → List Value → Heap → Prop := (retQ tab z50_rs R)
noncomputable def z50_q35 (R : Value → Heap → Prop) : Exit → List Value → Heap → Prop := (thenE (fun l H => wpE tab P z50_pi z50_c23 (z50_q34 R) l H) (z50_q34 R))
noncomputable def z50_q36 (R : Value → Heap → Prop) : Exit → List Value → Heap → Prop := (blkE 0 (z50_q35 R))
noncomputable def z50_q37 (K1 : Value → Value → Value →  Heap → Prop) (R : Value → Heap → Prop) : Exit → List Value → Heap → Prop := (thenE (fun l H => K1 (l.getD 5 undef) (l.getD 6 undef) (l.getD 7 undef) H) (z50_q36 R))
theorem z50_s27_i (K1 : Value → Value → Value →  Heap → Prop) (R : Value → Heap → Prop) (l : List Value) (H : Heap) (hl : l.length = 18) (h : z50_s27 (l.getD 5 undef) (l.getD 6 undef) (l.getD 7 undef) K1 R H) : wpE tab P z50_pi z50_c8 (z50_q37 K1 R) l H := by
  refine seqI (c := z50_c8) rfl ?_
  refine regI hl (Eq.mpr (z50_g28_e _ (fun i => l.getD i undef) _) h) ?_
  clear h hl
  intro l H hl h
  refine thenN ?_
  refine seqI (c := z50_c10) rfl ?_
  refine condI (c := z50_c11) rfl h ?_ ?_
  · clear h; intro h
    refine skipI rfl ?_
    refine thenN ?_
    refine seqI (c := z50_c13) rfl ?_
    refine blockI (c := z50_c14) rfl ?_
    refine seqI (c := z50_c15) rfl ?_
    refine regI hl (Eq.mpr (z50_g29_e _ (fun i => l.getD i undef) _) h) ?_
    clear h hl
    intro l H hl h
    refine thenN ?_
    refine seqI (c := z50_c17) rfl ?_
    refine regI hl (Eq.mpr (z50_g30_e _ (fun i => l.getD i undef) _) h) ?_
    clear h hl
    intro l H hl h
    refine thenN ?_
    refine condI (c := z50_c19) rfl h ?_ ?_
    · clear h; intro h
      refine seqI (c := z50_c20) rfl ?_
      refine regI hl (Eq.mpr (z50_g31_e _ (fun i => l.getD i undef) _) h) ?_
      clear h hl
      intro l H hl h
      refine thenN ?_
      refine retI rfl ?_
      refine blkR ?_
      refine thenR ?_
      refine thenR ?_
      refine blkR ?_
      refine thenR ?_
      exact h
    · clear h; intro h
      refine skipI rfl ?_
      refine blkN ?_
      refine thenN ?_
      refine regI hl (Eq.mpr (z50_g32_e _ (fun i => l.getD i undef) _) h) ?_
      clear h hl
      intro l H hl h
      refine thenN ?_
      exact h
  · clear h; intro h
    refine exitI (c := z50_c12) rfl ?_
    refine thenX ?_
    refine thenX ?_
    refine blkX ?_
    refine thenN ?_
    refine seqI (c := z50_c23) rfl ?_
    refine regI hl (Eq.mpr (z50_g33_e _ (fun i => l.getD i undef) _) h) ?_
    clear h hl
    intro l H hl h
    refine thenN ?_
    refine retI rfl ?_
    exact h
def z50_l38 (x5 x6 x7 : Value) (R : Value → Heap → Prop) (H : Heap) : Prop :=
  ∃ (I : Value → Heap → Prop) (μ : Value → Heap → Nat), I x7 H ∧ ∀ (y7 : Value) (H : Heap), I y7 H → z50_s27 x5 x6 y7 (fun z5 z6 z7 H' => z5 = x5 ∧ z6 = x6 ∧ (I z7 H' ∧ μ z7 H' < μ y7 H)) R H
def rtt_isTime (x0 : Value) (R : Value → Heap → Prop) (H : Heap) : Prop :=
  z50_g25 (fun x0 H => z50_g26 (fun x5 x6 x7 H => z50_l38 x5 x6 x7 R H) x0 H) x0 H
theorem z50_i (R : Value → Heap → Prop) (x0 : Value) (H : Heap) (h : rtt_isTime x0 R H) : wpE tab P z50_pi z50_c1 (retQ tab z50_rs R) [x0, undef, undef, undef, undef, undef, undef, undef, undef, undef, undef, undef, undef, undef, undef, undef, undef, undef] H := by
  obtain ⟨l, hl, el⟩ : ∃ l : List Value, l.length = 18 ∧ l = [x0, undef, undef, undef, undef, undef, undef, undef, undef, undef, undef, undef, undef, undef, undef, undef, undef, undef] := ⟨_, rfl, rfl⟩
  rw [← el]
  have h : (fun (x0 : Value) => z50_g25 (fun x0 H => z50_g26 (fun x5 x6 x7 H => z50_l38 x5 x6 x7 R H) x0 H) x0 H) (l.getD 0 undef) := by rw [el]; exact h
  clear el
  refine seqI (c := z50_c1) rfl ?_
  refine regI hl (Eq.mpr (z50_g25_e _ (fun i => l.getD i undef) _) h) ?_
  clear h hl
  intro l H hl h
  refine thenN ?_
  refine seqI (c := z50_c3) rfl ?_
  refine seqI (c := z50_c4) rfl ?_
  refine regI hl (Eq.mpr (z50_g26_e _ (fun i => l.getD i undef) _) h) ?_
  clear h hl
  intro l H hl h
  refine thenN ?_
  refine blockI (c := z50_c6) rfl ?_
  obtain ⟨I, μ, h0, hr⟩ := h
  refine loopI (c := z50_c7) rfl (fun l' H' => l'.getD 5 undef = l.getD 5 undef ∧ l'.getD 6 undef = l.getD 6 undef ∧ I (l'.getD 7 undef) H') (fun l' H' => μ (l'.getD 7 undef) H') hl ⟨rfl, rfl, h0⟩ ?_
  rintro l1 H1 hl1 ⟨e5, e6, hI⟩
  have hb := hr (l1.getD 7 undef) H1 hI
  rw [← e5, ← e6] at hb
  refine wpE_mono _ l1 H1 hl1 ?_ (z50_s27_i _ R l1 H1 hl1 hb)
  intro e l2 H2 hl2 hq
  cases e with
  | normal => exact fun _ => (by obtain ⟨d5, d6, g1, g2⟩ := hq; exact ⟨⟨d5.trans e5, d6.trans e6, g1⟩, g2⟩)
  | _ => exact hq
theorem z50_ok : okB z50_pi z50_c1 = true := by kernel_rfl
theorem z50_ev0 (x0 : Value) (R : Value → Heap → Prop) (H : Heap) (h : rtt_isTime x0 R H) : EvL P N.rtt_isTime #[x0] H R :=
  EvF_intro (args := [x0]) (k := 17) (rs := z50_rs) tab_ok mixed Try.func50 (show Try.f50.body = some z50_c1 by kernel_rfl) Try.call50 Try.ntmps50 (by kernel_rfl) (okCode_of _ z50_ok) rfl (z50_i R x0 H h)
theorem z50_ev (x0 : Value) (R : Value → Heap → Prop) (H : Heap) (h : rtt_isTime x0 R H) : EvF P N.rtt_isTime #[x0] H R := .inl (z50_ev0 x0 R H h)
/- 51: sounder/pto.time -/
def z51_rs : List ResultVar := [.tmp 2]
noncomputable def z51_c2 : Code := subC (bodyC Try.f51) [0]
noncomputable def z51_c4 : Code := subC (bodyC Try.f51) [1, 0]
noncomputable def z51_c3 : Code := .seq z51_c4 Code.ret
noncomputable def z51_c1 : Code := .seq z51_c2 z51_c3
def z51_pi (_ : Nat) : Pl := .nil
def z51_g5 (S : Value → Heap → Prop) (x0 : Value) (H : Heap) : Prop :=
  S x0 H
theorem z51_g5_e (S : Value → Heap → Prop) (x : Nat → Value) (H : Heap) : wpE tab P z51_pi z51_c2 (nQ fun l H => S (l.getD 0 undef) H) ((List.range 6).map x) H = z51_g5 S (x 0) H := by kernel_rfl
def z51_g6 (S : Value → Heap → Prop) (x0 : Value) (H : Heap) : Prop :=
  bnd (foldV min2V x0 [(.int .i64 9007199254740991)]) fun v4 =>
  bnd (foldV max2V (.int .i64 0) [v4]) fun v5 =>
  S v5 H
theorem z51_g6_e (S : Value → Heap → Prop) (x : Nat → Value) (H : Heap) : wpE tab P z51_pi z51_c4 (nQ fun l H => S (l.getD 2 undef) H) ((List.range 6).map x) H = z51_g6 S (x 0) H := by kernel_rfl
def pto_time (x0 : Value) (R : Value → Heap → Prop) (H : Heap) : Prop :=
  z51_g5 (fun x0 H => z51_g6 (fun x2 H => R x2 H) x0 H) x0 H
theorem z51_i (R : Value → Heap → Prop) (x0 : Value) (H : Heap) (h : pto_time x0 R H) : wpE tab P z51_pi z51_c1 (retQ tab z51_rs R) [x0, undef, undef, undef, undef, undef] H := by
  obtain ⟨l, hl, el⟩ : ∃ l : List Value, l.length = 6 ∧ l = [x0, undef, undef, undef, undef, undef] := ⟨_, rfl, rfl⟩
  rw [← el]
  have h : (fun (x0 : Value) => z51_g5 (fun x0 H => z51_g6 (fun x2 H => R x2 H) x0 H) x0 H) (l.getD 0 undef) := by rw [el]; exact h
  clear el
  refine seqI (c := z51_c1) rfl ?_
  refine regI hl (Eq.mpr (z51_g5_e _ (fun i => l.getD i undef) _) h) ?_
  clear h hl
  intro l H hl h
  refine thenN ?_
  refine seqI (c := z51_c3) rfl ?_
  refine regI hl (Eq.mpr (z51_g6_e _ (fun i => l.getD i undef) _) h) ?_
  clear h hl
  intro l H hl h
  refine thenN ?_
  refine retI rfl ?_
  exact h
theorem z51_ok : okB z51_pi z51_c1 = true := by kernel_rfl
theorem z51_ev0 (x0 : Value) (R : Value → Heap → Prop) (H : Heap) (h : pto_time x0 R H) : EvL P N.pto_time #[x0] H R :=
  EvF_intro (args := [x0]) (k := 5) (rs := z51_rs) tab_ok mixed Try.func51 (show Try.f51.body = some z51_c1 by kernel_rfl) Try.call51 Try.ntmps51 (by kernel_rfl) (okCode_of _ z51_ok) rfl (z51_i R x0 H h)
theorem z51_ev (x0 : Value) (R : Value → Heap → Prop) (H : Heap) (h : pto_time x0 R H) : EvF P N.pto_time #[x0] H R := .inl (z51_ev0 x0 R H h)
/- 52: sounder/pto.Base -/
def z52_rs : List ResultVar := [.tmp 6]
noncomputable def z52_c2 : Code := subC (bodyC Try.f52) [0]
noncomputable def z52_c5 : Code := subC (bodyC Try.f52) [1, 0, 0]
noncomputable def z52_c8 : Code := subC (bodyC Try.f52) [1, 0, 1, 0, 0]
noncomputable def z52_c7 : Code := .seq z52_c8 Code.ret
noncomputable def z52_c6 : Code := .cond (.tmp 18) z52_c7 Code.skip
noncomputable def z52_c4 : Code := .seq z52_c5 z52_c6
noncomputable def z52_c10 : Code := subC (bodyC Try.f52) [1, 1, 0]
noncomputable def z52_c13 : Code := subC (bodyC Try.f52) [1, 1, 1, 0, 0]
noncomputable def z52_c15 : Code := subC (bodyC Try.f52) [1, 1, 1, 0, 1, 0]
noncomputable def z52_c14 : Code := .cond (.tmp 27) z52_c15 Code.skip
noncomputable def z52_c12 : Code := .seq z52_c13 z52_c14
noncomputable def z52_c17 : Code := subC (bodyC Try.f52) [1, 1, 1, 1, 0]
noncomputable def z52_c16 : Code := .seq z52_c17 Code.ret
noncomputable def z52_c11 : Code := .seq z52_c12 z52_c16
noncomputable def z52_c9 : Code := .seq z52_c10 z52_c11
noncomputable def z52_c3 : Code := .seq z52_c4 z52_c9
noncomputable def z52_c1 : Code := .seq z52_c2 z52_c3
def z52_pi (_ : Nat) : Pl := .nil
def z52_g18 (S : Value → Value → Value → Heap → Prop) (x0 x1 x2 : Value) (H : Heap) : Prop :=
  newE 36 (Value.cells x0) H fun v3 H1 =>
  S x1 x2 v3 H1
theorem z52_g18_e (S : Value → Value → Value → Heap → Prop) (x : Nat → Value) (H : Heap) : wpE tab P z52_pi z52_c2 (nQ fun l H => S (l.getD 1 undef) (l.getD 2 undef) (l.getD 3 undef) H) ((List.range 34).map x) H = z52_g18 S (x 0) (x 1) (x 2) H := by kernel_rfl
def z52_g19 (S : Value → Value → Value → Value → Heap → Prop) (x1 x2 x3 : Value) (H : Heap) : Prop :=
  bnd (ldE true 5 x3 H) fun v8 =>
  EvF P N.rtt_Check #[v8] H fun v9 H1 =>
  bnd (binV .int .neq v9 (.int .i64 0)) fun v10 =>
  brV v10
  (S x1 x2 x3 (.bool true) H1)
  (bnd (binV .int .lss x1 (.int .i64 0)) fun v13 =>
  brV v13
  (S x1 x2 x3 (.bool true) H1)
  (bnd (binV .int .geq x1 (.int .i64 3)) fun v17 =>
  S x1 x2 x3 v17 H1))
theorem z52_g19_e (S : Value → Value → Value → Value → Heap → Prop) (x : Nat → Value) (H : Heap) : wpE tab P z52_pi z52_c5 (nQ fun l H => S (l.getD 1 undef) (l.getD 2 undef) (l.getD 3 undef) (l.getD 18 undef) H) ((List.range 34).map x) H = z52_g19 S (x 1) (x 2) (x 3) H := by kernel_rfl
def z52_g20 (S : Value → Heap → Prop) (H : Heap) : Prop :=
  S (.int .i64 0) H
theorem z52_g20_e (S : Value → Heap → Prop) (x : Nat → Value) (H : Heap) : wpE tab P z52_pi z52_c8 (nQ fun l H => S (l.getD 6 undef) H) ((List.range 34).map x) H = z52_g20 S  H := by kernel_rfl
def z52_g21 (S : Value → Value → Value → Heap → Prop) (x1 x2 x3 : Value) (H : Heap) : Prop :=
  bnd (faV 2 x3) fun v19 =>
  bnd (ldE false 1 v19 H) fun v20 =>
  bnd (faV 3 x3) fun v21 =>
  bnd (ldE false 1 v21 H) fun v22 =>
  bnd (binV .int .mul (.int .i64 4) v22) fun v23 =>
  bnd (foldV max2V v23 [(.int .i64 1000000)]) fun v24 =>
  bnd (binV .int .add v20 v24) fun v25 =>
  S x1 x2 v25 H
theorem z52_g21_e (S : Value → Value → Value → Heap → Prop) (x : Nat → Value) (H : Heap) : wpE tab P z52_pi z52_c10 (nQ fun l H => S (l.getD 1 undef) (l.getD 2 undef) (l.getD 7 undef) H) ((List.range 34).map x) H = z52_g21 S (x 1) (x 2) (x 3) H := by kernel_rfl
def z52_g23 (S : Value → Heap → Prop) (x7 : Value) (H : Heap) : Prop :=
  EvF P N.pto_time #[x7] H fun v33 H1 =>
  S v33 H1
theorem z52_g23_e (S : Value → Heap → Prop) (x : Nat → Value) (H : Heap) : wpE tab P z52_pi z52_c17 (nQ fun l H => S (l.getD 6 undef) H) ((List.range 34).map x) H = z52_g23 S (x 7) H := by kernel_rfl
def z52_s22 (x7 : Value) (R : Value → Heap → Prop) (H : Heap) : Prop :=
  z52_g23 (fun x6 H => R x6 H) x7 H
noncomputable def z52_q24 (R : Value → Heap → Prop) : Exit → List Value → Heap → Prop := (retQ tab z52_rs R)
theorem z52_s22_i (R : Value → Heap → Prop) (l : List Value) (H : Heap) (hl : l.length = 34) (h : z52_s22 (l.getD 7 undef) R H) : wpE tab P z52_pi z52_c16 (z52_q24 R) l H := by
  refine seqI (c := z52_c16) rfl ?_
  refine regI hl (Eq.mpr (z52_g23_e _ (fun i => l.getD i undef) _) h) ?_
  clear h hl
  intro l H hl h
  refine thenN ?_
  refine retI rfl ?_
  exact h
def z52_g25 (S : Value → Value → Value → Heap → Prop) (x1 x2 x7 : Value) (H : Heap) : Prop :=
  bnd (binV .int .eql x1 (.int .i64 2)) fun v27 =>
  S x2 x7 v27 H
theorem z52_g25_e (S : Value → Value → Value → Heap → Prop) (x : Nat → Value) (H : Heap) : wpE tab P z52_pi z52_c13 (nQ fun l H => S (l.getD 2 undef) (l.getD 7 undef) (l.getD 27 undef) H) ((List.range 34).map x) H = z52_g25 S (x 1) (x 2) (x 7) H := by kernel_rfl
def z52_g26 (S : Value → Heap → Prop) (x2 x7 : Value) (H : Heap) : Prop :=
  EvF P N.pto_time #[x2] H fun v30 H1 =>
  bnd (binV .int .add x7 v30) fun v31 =>
  S v31 H1
theorem z52_g26_e (S : Value → Heap → Prop) (x : Nat → Value) (H : Heap) : wpE tab P z52_pi z52_c15 (nQ fun l H => S (l.getD 7 undef) H) ((List.range 34).map x) H = z52_g26 S (x 2) (x 7) H := by kernel_rfl
def pto_Base (x0 x1 x2 : Value) (R : Value → Heap → Prop) (H : Heap) : Prop :=
  z52_g18 (fun x1 x2 x3 H => z52_g19 (fun x1 x2 x3 x18 H => brV x18
  (z52_g20 (fun x6 H => R x6 H) H)
  (z52_g21 (fun x1 x2 x7 H => z52_g25 (fun x2 x7 x27 H => brV x27
  (z52_g26 (fun x7 H => z52_s22 x7 R H) x2 x7 H)
  (z52_s22 x7 R H)) x1 x2 x7 H) x1 x2 x3 H)) x1 x2 x3 H) x0 x1 x2 H
theorem z52_i (R : Value → Heap → Prop) (x0 x1 x2 : Value) (H : Heap) (h : pto_Base x0 x1 x2 R H) : wpE tab P z52_pi z52_c1 (retQ tab z52_rs R) [x0, x1, x2, undef, undef, undef, undef, undef, undef, undef, undef, undef, undef, undef, undef, undef, undef, undef, undef, undef, undef, undef, undef, undef, undef, undef, undef, undef, undef, undef, undef, undef, undef, undef] H := by
  obtain ⟨l, hl, el⟩ : ∃ l : List Value, l.length = 34 ∧ l = [x0, x1, x2, undef, undef, undef, undef, undef, undef, undef, undef, undef, undef, undef, undef, undef, undef, undef, undef, undef, undef, undef, undef, undef, undef, undef, undef, undef, undef, undef, undef, undef, undef, undef] := ⟨_, rfl, rfl⟩
  rw [← el]
  have h : (fun (x0 x1 x2 : Value) => z52_g18 (fun x1 x2 x3 H => z52_g19 (fun x1 x2 x3 x18 H => brV x18
(z52_g20 (fun x6 H => R x6 H) H)
(z52_g21 (fun x1 x2 x7 H => z52_g25 (fun x2 x7 x27 H => brV x27
(z52_g26 (fun x7 H => z52_s22 x7 R H) x2 x7 H)
(z52_s22 x7 R H)) x1 x2 x7 H) x1 x2 x3 H)) x1 x2 x3 H) x0 x1 x2 H) (l.getD 0 undef) (l.getD 1 undef) (l.getD 2 undef) := by rw [el]; exact h
  clear el
  refine seqI (c := z52_c1) rfl ?_
  refine regI hl (Eq.mpr (z52_g18_e _ (fun i => l.getD i undef) _) h) ?_
  clear h hl
  intro l H hl h
  refine thenN ?_
  refine seqI (c := z52_c3) rfl ?_
  refine seqI (c := z52_c4) rfl ?_
  refine regI hl (Eq.mpr (z52_g19_e _ (fun i => l.getD i undef) _) h) ?_
  clear h hl
  intro l H hl h
  refine thenN ?_
  refine condI (c := z52_c6) rfl h ?_ ?_
  · clear h; intro h
    refine seqI (c := z52_c7) rfl ?_
    refine regI hl (Eq.mpr (z52_g20_e _ (fun i => l.getD i undef) _) h) ?_
    clear h hl
    intro l H hl h
    refine thenN ?_
    refine retI rfl ?_
    refine thenR ?_
    exact h
  · clear h; intro h
    refine skipI rfl ?_
    refine thenN ?_
    refine seqI (c := z52_c9) rfl ?_
    refine regI hl (Eq.mpr (z52_g21_e _ (fun i => l.getD i undef) _) h) ?_
    clear h hl
    intro l H hl h
    refine thenN ?_
    refine seqI (c := z52_c11) rfl ?_
    refine seqI (c := z52_c12) rfl ?_
    refine regI hl (Eq.mpr (z52_g25_e _ (fun i => l.getD i undef) _) h) ?_
    clear h hl
    intro l H hl h
    refine thenN ?_
    refine condI (c := z52_c14) rfl h ?_ ?_
    · clear h; intro h
      refine regI hl (Eq.mpr (z52_g26_e _ (fun i => l.getD i undef) _) h) ?_
      clear h hl
      intro l H hl h
      refine thenN ?_
      exact z52_s22_i R l H hl h
    · clear h; intro h
      refine skipI rfl ?_
      refine thenN ?_
      exact z52_s22_i R l H hl h
theorem z52_ok : okB z52_pi z52_c1 = true := by kernel_rfl
theorem z52_ev0 (x0 x1 x2 : Value) (R : Value → Heap → Prop) (H : Heap) (h : pto_Base x0 x1 x2 R H) : EvL P N.pto_Base #[x0, x1, x2] H R :=
  EvF_intro (args := [x0, x1, x2]) (k := 31) (rs := z52_rs) tab_ok mixed Try.func52 (show Try.f52.body = some z52_c1 by kernel_rfl) Try.call52 Try.ntmps52 (by kernel_rfl) (okCode_of _ z52_ok) rfl (z52_i R x0 x1 x2 H h)
theorem z52_ev (x0 x1 x2 : Value) (R : Value → Heap → Prop) (H : Heap) (h : pto_Base x0 x1 x2 R H) : EvF P N.pto_Base #[x0, x1, x2] H R := .inl (z52_ev0 x0 x1 x2 R H h)
/- 53: sounder/sounderref04.New -/
def z53_rs : List ResultVar := [.tmp 2, .tmp 3]
noncomputable def z53_c2 : Code := subC (bodyC Try.f53) [0]
noncomputable def z53_c5 : Code := subC (bodyC Try.f53) [1, 0, 0]
noncomputable def z53_c8 : Code := subC (bodyC Try.f53) [1, 0, 1, 0, 0]
noncomputable def z53_c7 : Code := .seq z53_c8 Code.ret
noncomputable def z53_c6 : Code := .cond (.tmp 9) z53_c7 Code.skip
noncomputable def z53_c4 : Code := .seq z53_c5 z53_c6
noncomputable def z53_c10 : Code := subC (bodyC Try.f53) [1, 1, 0]
noncomputable def z53_c9 : Code := .seq z53_c10 Code.ret
noncomputable def z53_c3 : Code := .seq z53_c4 z53_c9
noncomputable def z53_c1 : Code := .seq z53_c2 z53_c3
def z53_pi (_ : Nat) : Pl := .nil
def z53_g11 (S : Value → Heap → Prop) (x0 : Value) (H : Heap) : Prop :=
  S x0 H
theorem z53_g11_e (S : Value → Heap → Prop) (x : Nat → Value) (H : Heap) : wpE tab P z53_pi z53_c2 (nQ fun l H => S (l.getD 0 undef) H) ((List.range 13).map x) H = z53_g11 S (x 0) H := by kernel_rfl
def z53_g12 (S : Value → Value → Heap → Prop) (x0 : Value) (H : Heap) : Prop :=
  bnd (binV .int .lss x0 (.int .i64 1)) fun v5 =>
  brV v5
  (S x0 (.bool true) H)
  (bnd (binV .int .gtr x0 (.int .i64 256)) fun v8 =>
  S x0 v8 H)
theorem z53_g12_e (S : Value → Value → Heap → Prop) (x : Nat → Value) (H : Heap) : wpE tab P z53_pi z53_c5 (nQ fun l H => S (l.getD 0 undef) (l.getD 9 undef) H) ((List.range 13).map x) H = z53_g12 S (x 0) H := by kernel_rfl
def z53_g13 (S : Value → Value → Heap → Prop) (H : Heap) : Prop :=
  S (.pointer none) (.int .i64 2) H
theorem z53_g13_e (S : Value → Value → Heap → Prop) (x : Nat → Value) (H : Heap) : wpE tab P z53_pi z53_c8 (nQ fun l H => S (l.getD 2 undef) (l.getD 3 undef) H) ((List.range 13).map x) H = z53_g13 S  H := by kernel_rfl
def z53_g14 (S : Value → Value → Heap → Prop) (x0 : Value) (H : Heap) : Prop :=
  bnd (buildV #[(.int .i64 0), (.slice none 0 0)] (places [(0, 1), (1, 1)]) [(0, x0)]) fun v11 =>
  newE 103 (Value.cells v11) H fun v12 H1 =>
  S v12 (.int .i64 0) H1
theorem z53_g14_e (S : Value → Value → Heap → Prop) (x : Nat → Value) (H : Heap) : wpE tab P z53_pi z53_c10 (nQ fun l H => S (l.getD 2 undef) (l.getD 3 undef) H) ((List.range 13).map x) H = z53_g14 S (x 0) H := by kernel_rfl
def sounderref04_New (x0 : Value) (R : Value → Heap → Prop) (H : Heap) : Prop :=
  z53_g11 (fun x0 H => z53_g12 (fun x0 x9 H => brV x9
  (z53_g13 (fun x2 x3 H => R (.tuple #[x2, x3]) H) H)
  (z53_g14 (fun x2 x3 H => R (.tuple #[x2, x3]) H) x0 H)) x0 H) x0 H
theorem z53_i (R : Value → Heap → Prop) (x0 : Value) (H : Heap) (h : sounderref04_New x0 R H) : wpE tab P z53_pi z53_c1 (retQ tab z53_rs R) [x0, undef, undef, undef, undef, undef, undef, undef, undef, undef, undef, undef, undef] H := by
  obtain ⟨l, hl, el⟩ : ∃ l : List Value, l.length = 13 ∧ l = [x0, undef, undef, undef, undef, undef, undef, undef, undef, undef, undef, undef, undef] := ⟨_, rfl, rfl⟩
  rw [← el]
  have h : (fun (x0 : Value) => z53_g11 (fun x0 H => z53_g12 (fun x0 x9 H => brV x9
(z53_g13 (fun x2 x3 H => R (.tuple #[x2, x3]) H) H)
(z53_g14 (fun x2 x3 H => R (.tuple #[x2, x3]) H) x0 H)) x0 H) x0 H) (l.getD 0 undef) := by rw [el]; exact h
  clear el
  refine seqI (c := z53_c1) rfl ?_
  refine regI hl (Eq.mpr (z53_g11_e _ (fun i => l.getD i undef) _) h) ?_
  clear h hl
  intro l H hl h
  refine thenN ?_
  refine seqI (c := z53_c3) rfl ?_
  refine seqI (c := z53_c4) rfl ?_
  refine regI hl (Eq.mpr (z53_g12_e _ (fun i => l.getD i undef) _) h) ?_
  clear h hl
  intro l H hl h
  refine thenN ?_
  refine condI (c := z53_c6) rfl h ?_ ?_
  · clear h; intro h
    refine seqI (c := z53_c7) rfl ?_
    refine regI hl (Eq.mpr (z53_g13_e _ (fun i => l.getD i undef) _) h) ?_
    clear h hl
    intro l H hl h
    refine thenN ?_
    refine retI rfl ?_
    refine thenR ?_
    exact h
  · clear h; intro h
    refine skipI rfl ?_
    refine thenN ?_
    refine seqI (c := z53_c9) rfl ?_
    refine regI hl (Eq.mpr (z53_g14_e _ (fun i => l.getD i undef) _) h) ?_
    clear h hl
    intro l H hl h
    refine thenN ?_
    refine retI rfl ?_
    exact h
theorem z53_ok : okB z53_pi z53_c1 = true := by kernel_rfl
theorem z53_ev0 (x0 : Value) (R : Value → Heap → Prop) (H : Heap) (h : sounderref04_New x0 R H) : EvL P N.sounderref04_New #[x0] H R :=
  EvF_intro (args := [x0]) (k := 12) (rs := z53_rs) tab_ok mixed Try.func53 (show Try.f53.body = some z53_c1 by kernel_rfl) Try.call53 Try.ntmps53 (by kernel_rfl) (okCode_of _ z53_ok) rfl (z53_i R x0 H h)
theorem z53_ev (x0 : Value) (R : Value → Heap → Prop) (H : Heap) (h : sounderref04_New x0 R H) : EvF P N.sounderref04_New #[x0] H R := .inl (z53_ev0 x0 R H h)
/- 54: (*sounder/sounderref04.Set).Add -/
def z54_rs : List ResultVar := [.tmp 6]
noncomputable def z54_c2 : Code := subC (bodyC Try.f54) [0]
noncomputable def z54_c5 : Code := subC (bodyC Try.f54) [1, 0, 0]
noncomputable def z54_c8 : Code := subC (bodyC Try.f54) [1, 0, 1, 0, 0]
noncomputable def z54_c7 : Code := .seq z54_c8 Code.ret
noncomputable def z54_c6 : Code := .cond (.tmp 20) z54_c7 Code.skip
noncomputable def z54_c4 : Code := .seq z54_c5 z54_c6
noncomputable def z54_c10 : Code := subC (bodyC Try.f54) [1, 1, 0]
noncomputable def z54_c13 : Code := subC (bodyC Try.f54) [1, 1, 1, 0, 0]
noncomputable def z54_c16 : Code := subC (bodyC Try.f54) [1, 1, 1, 0, 1, 0, 0]
noncomputable def z54_c15 : Code := .seq z54_c16 Code.ret
noncomputable def z54_c14 : Code := .cond (.tmp 35) z54_c15 Code.skip
noncomputable def z54_c12 : Code := .seq z54_c13 z54_c14
noncomputable def z54_c18 : Code := subC (bodyC Try.f54) [1, 1, 1, 1, 0]
noncomputable def z54_c20 : Code := subC (bodyC Try.f54) [1, 1, 1, 1, 1, 0]
noncomputable def z54_c19 : Code := .seq z54_c20 Code.ret
noncomputable def z54_c17 : Code := .seq z54_c18 z54_c19
noncomputable def z54_c11 : Code := .seq z54_c12 z54_c17
noncomputable def z54_c9 : Code := .seq z54_c10 z54_c11
noncomputable def z54_c3 : Code := .seq z54_c4 z54_c9
noncomputable def z54_c1 : Code := .seq z54_c2 z54_c3
def z54_pi (_ : Nat) : Pl := .nil
def z54_g21 (S : Value → Value → Value → Heap → Prop) (x0 x1 x2 : Value) (H : Heap) : Prop :=
  S x0 x1 x2 H
theorem z54_g21_e (S : Value → Value → Value → Heap → Prop) (x : Nat → Value) (H : Heap) : wpE tab P z54_pi z54_c2 (nQ fun l H => S (l.getD 0 undef) (l.getD 1 undef) (l.getD 2 undef) H) ((List.range 40).map x) H = z54_g21 S (x 0) (x 1) (x 2) H := by kernel_rfl
def z54_g22 (S : Value → Value → Value → Value → Heap → Prop) (x0 x1 x2 : Value) (H : Heap) : Prop :=
  EvF P N.sounderref04_is #[x1] H fun v9 H1 =>
  bnd (unV .not v9) fun v10 =>
  brV v10
  (S x0 x1 x2 (.bool true) H1)
  (EvF P N.sounderref04_is #[x2] H1 fun v13 H2 =>
  bnd (unV .not v13) fun v14 =>
  brV v14
  (S x0 x1 x2 (.bool true) H2)
  (bnd (binV .int .gtr x1 x2) fun v19 =>
  S x0 x1 x2 v19 H2))
theorem z54_g22_e (S : Value → Value → Value → Value → Heap → Prop) (x : Nat → Value) (H : Heap) : wpE tab P z54_pi z54_c5 (nQ fun l H => S (l.getD 0 undef) (l.getD 1 undef) (l.getD 2 undef) (l.getD 20 undef) H) ((List.range 40).map x) H = z54_g22 S (x 0) (x 1) (x 2) H := by kernel_rfl
def z54_g23 (S : Value → Heap → Prop) (H : Heap) : Prop :=
  S (.int .i64 2) H
theorem z54_g23_e (S : Value → Heap → Prop) (x : Nat → Value) (H : Heap) : wpE tab P z54_pi z54_c8 (nQ fun l H => S (l.getD 6 undef) H) ((List.range 40).map x) H = z54_g23 S  H := by kernel_rfl
def z54_g24 (S : Value → Value → Heap → Prop) (x0 x1 x2 : Value) (H : Heap) : Prop :=
  bnd (nilV x0) fun v22 =>
  bnd (faV 1 v22) fun v23 =>
  bnd (ldE false 1 v23 H) fun v24 =>
  bnd (buildV #[(.int .i64 0), (.int .i64 0)] (places [(0, 1), (1, 1)]) [(0, x1), (1, x2)]) fun v27 =>
  EvF P N.sounderref04_added #[v24, v27] H fun v28 H1 =>
  S x0 v28 H1
theorem z54_g24_e (S : Value → Value → Heap → Prop) (x : Nat → Value) (H : Heap) : wpE tab P z54_pi z54_c10 (nQ fun l H => S (l.getD 0 undef) (l.getD 7 undef) H) ((List.range 40).map x) H = z54_g24 S (x 0) (x 1) (x 2) H := by kernel_rfl
def z54_g25 (S : Value → Value → Value → Heap → Prop) (x0 x7 : Value) (H : Heap) : Prop :=
  bnd (lenV x7) fun v30 =>
  bnd (nilV x0) fun v32 =>
  bnd (faV 0 v32) fun v33 =>
  bnd (ldE false 1 v33 H) fun v34 =>
  bnd (binV .int .gtr v30 v34) fun v35 =>
  S x0 x7 v35 H
theorem z54_g25_e (S : Value → Value → Value → Heap → Prop) (x : Nat → Value) (H : Heap) : wpE tab P z54_pi z54_c13 (nQ fun l H => S (l.getD 0 undef) (l.getD 7 undef) (l.getD 35 undef) H) ((List.range 40).map x) H = z54_g25 S (x 0) (x 7) H := by kernel_rfl
def z54_g26 (S : Value → Heap → Prop) (H : Heap) : Prop :=
  S (.int .i64 5) H
theorem z54_g26_e (S : Value → Heap → Prop) (x : Nat → Value) (H : Heap) : wpE tab P z54_pi z54_c16 (nQ fun l H => S (l.getD 6 undef) H) ((List.range 40).map x) H = z54_g26 S  H := by kernel_rfl
def z54_g27 (S : Heap → Prop) (x0 x7 : Value) (H : Heap) : Prop :=
  bnd (nilV x0) fun v38 =>
  bnd (faV 1 v38) fun v39 =>
  bnd (stE 1 v39 x7 H) fun H1 =>
  S H1
theorem z54_g27_e (S : Heap → Prop) (x : Nat → Value) (H : Heap) : wpE tab P z54_pi z54_c18 (nQ fun _ H => S  H) ((List.range 40).map x) H = z54_g27 S (x 0) (x 7) H := by kernel_rfl
def z54_g28 (S : Value → Heap → Prop) (H : Heap) : Prop :=
  S (.int .i64 0) H
theorem z54_g28_e (S : Value → Heap → Prop) (x : Nat → Value) (H : Heap) : wpE tab P z54_pi z54_c20 (nQ fun l H => S (l.getD 6 undef) H) ((List.range 40).map x) H = z54_g28 S  H := by kernel_rfl
def sounderref04_Set_Add (x0 x1 x2 : Value) (R : Value → Heap → Prop) (H : Heap) : Prop :=
  z54_g21 (fun x0 x1 x2 H => z54_g22 (fun x0 x1 x2 x20 H => brV x20
  (z54_g23 (fun x6 H => R x6 H) H)
  (z54_g24 (fun x0 x7 H => z54_g25 (fun x0 x7 x35 H => brV x35
  (z54_g26 (fun x6 H => R x6 H) H)
  (z54_g27 (fun H => z54_g28 (fun x6 H => R x6 H) H) x0 x7 H)) x0 x7 H) x0 x1 x2 H)) x0 x1 x2 H) x0 x1 x2 H
theorem z54_i (R : Value → Heap → Prop) (x0 x1 x2 : Value) (H : Heap) (h : sounderref04_Set_Add x0 x1 x2 R H) : wpE tab P z54_pi z54_c1 (retQ tab z54_rs R) [x0, x1, x2, undef, undef, undef, undef, undef, undef, undef, undef, undef, undef, undef, undef, undef, undef, undef, undef, undef, undef, undef, undef, undef, undef, undef, undef, undef, undef, undef, undef, undef, undef, undef, undef, undef, undef, undef, undef, undef] H := by
  obtain ⟨l, hl, el⟩ : ∃ l : List Value, l.length = 40 ∧ l = [x0, x1, x2, undef, undef, undef, undef, undef, undef, undef, undef, undef, undef, undef, undef, undef, undef, undef, undef, undef, undef, undef, undef, undef, undef, undef, undef, undef, undef, undef, undef, undef, undef, undef, undef, undef, undef, undef, undef, undef] := ⟨_, rfl, rfl⟩
  rw [← el]
  have h : (fun (x0 x1 x2 : Value) => z54_g21 (fun x0 x1 x2 H => z54_g22 (fun x0 x1 x2 x20 H => brV x20
(z54_g23 (fun x6 H => R x6 H) H)
(z54_g24 (fun x0 x7 H => z54_g25 (fun x0 x7 x35 H => brV x35
(z54_g26 (fun x6 H => R x6 H) H)
(z54_g27 (fun H => z54_g28 (fun x6 H => R x6 H) H) x0 x7 H)) x0 x7 H) x0 x1 x2 H)) x0 x1 x2 H) x0 x1 x2 H) (l.getD 0 undef) (l.getD 1 undef) (l.getD 2 undef) := by rw [el]; exact h
  clear el
  refine seqI (c := z54_c1) rfl ?_
  refine regI hl (Eq.mpr (z54_g21_e _ (fun i => l.getD i undef) _) h) ?_
  clear h hl
  intro l H hl h
  refine thenN ?_
  refine seqI (c := z54_c3) rfl ?_
  refine seqI (c := z54_c4) rfl ?_
  refine regI hl (Eq.mpr (z54_g22_e _ (fun i => l.getD i undef) _) h) ?_
  clear h hl
  intro l H hl h
  refine thenN ?_
  refine condI (c := z54_c6) rfl h ?_ ?_
  · clear h; intro h
    refine seqI (c := z54_c7) rfl ?_
    refine regI hl (Eq.mpr (z54_g23_e _ (fun i => l.getD i undef) _) h) ?_
    clear h hl
    intro l H hl h
    refine thenN ?_
    refine retI rfl ?_
    refine thenR ?_
    exact h
  · clear h; intro h
    refine skipI rfl ?_
    refine thenN ?_
    refine seqI (c := z54_c9) rfl ?_
    refine regI hl (Eq.mpr (z54_g24_e _ (fun i => l.getD i undef) _) h) ?_
    clear h hl
    intro l H hl h
    refine thenN ?_
    refine seqI (c := z54_c11) rfl ?_
    refine seqI (c := z54_c12) rfl ?_
    refine regI hl (Eq.mpr (z54_g25_e _ (fun i => l.getD i undef) _) h) ?_
    clear h hl
    intro l H hl h
    refine thenN ?_
    refine condI (c := z54_c14) rfl h ?_ ?_
    · clear h; intro h
      refine seqI (c := z54_c15) rfl ?_
      refine regI hl (Eq.mpr (z54_g26_e _ (fun i => l.getD i undef) _) h) ?_
      clear h hl
      intro l H hl h
      refine thenN ?_
      refine retI rfl ?_
      refine thenR ?_
      exact h
    · clear h; intro h
      refine skipI rfl ?_
      refine thenN ?_
      refine seqI (c := z54_c17) rfl ?_
      refine regI hl (Eq.mpr (z54_g27_e _ (fun i => l.getD i undef) _) h) ?_
      clear h hl
      intro l H hl h
      refine thenN ?_
      refine seqI (c := z54_c19) rfl ?_
      refine regI hl (Eq.mpr (z54_g28_e _ (fun i => l.getD i undef) _) h) ?_
      clear h hl
      intro l H hl h
      refine thenN ?_
      refine retI rfl ?_
      exact h
theorem z54_ok : okB z54_pi z54_c1 = true := by kernel_rfl
theorem z54_ev0 (x0 x1 x2 : Value) (R : Value → Heap → Prop) (H : Heap) (h : sounderref04_Set_Add x0 x1 x2 R H) : EvL P N.sounderref04_Set_Add #[x0, x1, x2] H R :=
  EvF_intro (args := [x0, x1, x2]) (k := 37) (rs := z54_rs) tab_ok mixed Try.func54 (show Try.f54.body = some z54_c1 by kernel_rfl) Try.call54 Try.ntmps54 (by kernel_rfl) (okCode_of _ z54_ok) rfl (z54_i R x0 x1 x2 H h)
theorem z54_ev (x0 x1 x2 : Value) (R : Value → Heap → Prop) (H : Heap) (h : sounderref04_Set_Add x0 x1 x2 R H) : EvF P N.sounderref04_Set_Add #[x0, x1, x2] H R := .inl (z54_ev0 x0 x1 x2 R H h)
/- 55: sounder/sounderref09.Check -/
def z55_rs : List ResultVar := [.tmp 2]
noncomputable def z55_c2 : Code := subC (bodyC Try.f55) [0]
noncomputable def z55_c5 : Code := subC (bodyC Try.f55) [1, 0, 0]
noncomputable def z55_c8 : Code := subC (bodyC Try.f55) [1, 0, 1, 0, 0]
noncomputable def z55_c7 : Code := .seq z55_c8 Code.ret
noncomputable def z55_c6 : Code := .cond (.tmp 7) z55_c7 Code.skip
noncomputable def z55_c4 : Code := .seq z55_c5 z55_c6
noncomputable def z55_c11 : Code := subC (bodyC Try.f55) [1, 1, 0, 0]
noncomputable def z55_c16 : Code := subC (bodyC Try.f55) [1, 1, 0, 1, 0, 0, 0, 0]
noncomputable def z55_c18 : Code := .exit 0
noncomputable def z55_c17 : Code := .cond (.tmp 11) Code.skip z55_c18
noncomputable def z55_c15 : Code := .seq z55_c16 z55_c17
noncomputable def z55_c22 : Code := subC (bodyC Try.f55) [1, 1, 0, 1, 0, 0, 1, 0, 0, 0]
noncomputable def z55_c24 : Code := subC (bodyC Try.f55) [1, 1, 0, 1, 0, 0, 1, 0, 0, 1, 0]
noncomputable def z55_c27 : Code := subC (bodyC Try.f55) [1, 1, 0, 1, 0, 0, 1, 0, 0, 1, 1, 0, 0]
noncomputable def z55_c26 : Code := .seq z55_c27 Code.ret
noncomputable def z55_c25 : Code := .cond (.tmp 56) z55_c26 Code.skip
noncomputable def z55_c23 : Code := .seq z55_c24 z55_c25
noncomputable def z55_c21 : Code := .seq z55_c22 z55_c23
noncomputable def z55_c20 : Code := .block 1 z55_c21
noncomputable def z55_c28 : Code := subC (bodyC Try.f55) [1, 1, 0, 1, 0, 0, 1, 1]
noncomputable def z55_c19 : Code := .seq z55_c20 z55_c28
noncomputable def z55_c14 : Code := .seq z55_c15 z55_c19
noncomputable def z55_c13 : Code := .loop z55_c14
noncomputable def z55_c12 : Code := .block 0 z55_c13
noncomputable def z55_c10 : Code := .seq z55_c11 z55_c12
noncomputable def z55_c30 : Code := subC (bodyC Try.f55) [1, 1, 1, 0]
noncomputable def z55_c29 : Code := .seq z55_c30 Code.ret
noncomputable def z55_c9 : Code := .seq z55_c10 z55_c29
noncomputable def z55_c3 : Code := .seq z55_c4 z55_c9
noncomputable def z55_c1 : Code := .seq z55_c2 z55_c3
def z55_pi (i : Nat) : Pl := match i with
  | 7 => (ones [0, 1, 2, 3, 4, 5, 6, 7, 8, 9, 10, 11, 12, 13, 14, 15, 16, 17, 18, 19, 20, 21, 22, 23, 24, 25, 26, 27, 28, 29, 30, 31, 32, 33, 34, 35, 36, 37, 38] .nil)
  | _ => .nil
def z55_g31 (S : Value → Heap → Prop) (x0 : Value) (H : Heap) : Prop :=
  S x0 H
theorem z55_g31_e (S : Value → Heap → Prop) (x : Nat → Value) (H : Heap) : wpE tab P z55_pi z55_c2 (nQ fun l H => S (l.getD 0 undef) H) ((List.range 57).map x) H = z55_g31 S (x 0) H := by kernel_rfl
def z55_g32 (S : Value → Value → Heap → Prop) (x0 : Value) (H : Heap) : Prop :=
  bnd (lenV x0) fun v6 =>
  bnd (binV .int .gtr v6 (.int .i64 256)) fun v7 =>
  S x0 v7 H
theorem z55_g32_e (S : Value → Value → Heap → Prop) (x : Nat → Value) (H : Heap) : wpE tab P z55_pi z55_c5 (nQ fun l H => S (l.getD 0 undef) (l.getD 7 undef) H) ((List.range 57).map x) H = z55_g32 S (x 0) H := by kernel_rfl
def z55_g33 (S : Value → Heap → Prop) (H : Heap) : Prop :=
  S (.int .i64 2) H
theorem z55_g33_e (S : Value → Heap → Prop) (x : Nat → Value) (H : Heap) : wpE tab P z55_pi z55_c8 (nQ fun l H => S (l.getD 2 undef) H) ((List.range 57).map x) H = z55_g33 S  H := by kernel_rfl
def z55_g34 (S : Value → Value → Heap → Prop) (x0 : Value) (H : Heap) : Prop :=
  S x0 (.int .i64 0) H
theorem z55_g34_e (S : Value → Value → Heap → Prop) (x : Nat → Value) (H : Heap) : wpE tab P z55_pi z55_c11 (nQ fun l H => S (l.getD 0 undef) (l.getD 3 undef) H) ((List.range 57).map x) H = z55_g34 S (x 0) H := by kernel_rfl
def z55_g36 (S : Value → Value → Value → Heap → Prop) (x0 x3 : Value) (H : Heap) : Prop :=
  bnd (lenV x0) fun v10 =>
  bnd (binV .int .lss x3 v10) fun v11 =>
  S x0 x3 v11 H
theorem z55_g36_e (S : Value → Value → Value → Heap → Prop) (x : Nat → Value) (H : Heap) : wpE tab P z55_pi z55_c16 (nQ fun l H => S (l.getD 0 undef) (l.getD 3 undef) (l.getD 11 undef) H) ((List.range 57).map x) H = z55_g36 S (x 0) (x 3) H := by kernel_rfl
def z55_g37 (S : Value → Value → Value → Heap → Prop) (x0 x3 : Value) (H : Heap) : Prop :=
  bnd (ixSV 6 x0 x3) fun v16 =>
  bnd (ldE true 6 v16 H) fun v17 =>
  newE 38 #[(.int .i64 0), (.int .i64 0), (.int .i64 0), (.bool false), (.bool false), (.bool false)] H fun v4 H1 =>
  bnd (stE 6 v4 v17 H1) fun H2 =>
  S x0 x3 v4 H2
theorem z55_g37_e (S : Value → Value → Value → Heap → Prop) (x : Nat → Value) (H : Heap) : wpE tab P z55_pi z55_c22 (nQ fun l H => S (l.getD 0 undef) (l.getD 3 undef) (l.getD 4 undef) H) ((List.range 57).map x) H = z55_g37 S (x 0) (x 3) H := by kernel_rfl
def z55_g38 (S : Value → Value → Value → Heap → Prop) (x0 x3 x4 : Value) (H : Heap) : Prop :=
  bnd (faV 0 x4) fun v18 =>
  bnd (ldE false 1 v18 H) fun v19 =>
  bnd (binV .int .lss v19 (.int .i64 0)) fun v20 =>
  brV v20
  (S x0 x3 (.bool true) H)
  (bnd (faV 0 x4) fun v22 =>
  bnd (ldE false 1 v22 H) fun v23 =>
  bnd (binV .int .gtr v23 (.int .i64 9007199254740991)) fun v24 =>
  brV v24
  (S x0 x3 (.bool true) H)
  (bnd (binV .int .gtr x3 (.int .i64 0)) fun v28 =>
  brG v28
  (bnd (faV 0 x4) fun v30 =>
  bnd (ldE false 1 v30 H) fun v31 =>
  bnd (binV .int .sub x3 (.int .i64 1)) fun v34 =>
  bnd (ixSV 6 x0 v34) fun v35 =>
  bnd (faV 0 v35) fun v36 =>
  bnd (ldE false 1 v36 H) fun v37 =>
  bnd (binV .int .leq v31 v37) fun v38 =>
  brV v38
  (S x0 x3 (.bool true) H)
  (bnd (faV 1 x4) fun v42 =>
  bnd (ldE false 1 v42 H) fun v43 =>
  EvF P N.sounderref09_time #[v43] H fun v44 H1 =>
  ((bnd (ldE false 1 v36 H1) fun v' => v' = v37) ∧
  ((bnd (ldE false 1 v30 H1) fun v' => v' = v31) ∧
  ((bnd (ldE false 1 v22 H1) fun v' => v' = v23) ∧
  ((bnd (ldE false 1 v18 H1) fun v' => v' = v19) ∧
  bnd (unV .not v44) fun v45 =>
  brV v45
  (S x0 x3 (.bool true) H1)
  (bnd (faV 2 x4) fun v48 =>
  bnd (ldE false 1 v48 H1) fun v49 =>
  bnd (binV .int .lss v49 (.int .i64 1)) fun v50 =>
  brV v50
  (S x0 x3 (.bool true) H1)
  (bnd (faV 2 x4) fun v53 =>
  bnd (ldE false 1 v53 H1) fun v54 =>
  bnd (binV .int .gtr v54 (.int .i64 65535)) fun v55 =>
  S x0 x3 v55 H1))))))))
  (bnd (faV 1 x4) fun v42_2 =>
  bnd (ldE false 1 v42_2 H) fun v43_2 =>
  EvF P N.sounderref09_time #[v43_2] H fun v44_2 H2 =>
  ((bnd (ldE false 1 v22 H2) fun v' => v' = v23) ∧
  ((bnd (ldE false 1 v18 H2) fun v' => v' = v19) ∧
  bnd (unV .not v44_2) fun v45_2 =>
  brV v45_2
  (S x0 x3 (.bool true) H2)
  (bnd (faV 2 x4) fun v48_2 =>
  bnd (ldE false 1 v48_2 H2) fun v49_2 =>
  bnd (binV .int .lss v49_2 (.int .i64 1)) fun v50_2 =>
  brV v50_2
  (S x0 x3 (.bool true) H2)
  (bnd (faV 2 x4) fun v53_2 =>
  bnd (ldE false 1 v53_2 H2) fun v54_2 =>
  bnd (binV .int .gtr v54_2 (.int .i64 65535)) fun v55_2 =>
  S x0 x3 v55_2 H2)))))
  (brG v28
  (bnd (ldE false 1 undef H) fun v31_2 =>
  bnd (binV .int .sub x3 (.int .i64 1)) fun v34_2 =>
  bnd (ixSV 6 x0 v34_2) fun v35_2 =>
  bnd (faV 0 v35_2) fun v36_2 =>
  bnd (ldE false 1 v36_2 H) fun v37_2 =>
  bnd (binV .int .leq v31_2 v37_2) fun v38_2 =>
  brV v38_2
  (S x0 x3 (.bool true) H)
  (bnd (faV 1 x4) fun v42_3 =>
  bnd (ldE false 1 v42_3 H) fun v43_3 =>
  EvF P N.sounderref09_time #[v43_3] H fun v44_3 H3 =>
  ((bnd (ldE false 1 v36_2 H3) fun v' => v' = v37_2) ∧
  ((bnd (ldE false 1 undef H3) fun v' => v' = v31_2) ∧
  ((bnd (ldE false 1 v22 H3) fun v' => v' = v23) ∧
  ((bnd (ldE false 1 v18 H3) fun v' => v' = v19) ∧
  bnd (unV .not v44_3) fun v45_3 =>
  brV v45_3
  (S x0 x3 (.bool true) H3)
  (bnd (faV 2 x4) fun v48_3 =>
  bnd (ldE false 1 v48_3 H3) fun v49_3 =>
  bnd (binV .int .lss v49_3 (.int .i64 1)) fun v50_3 =>
  brV v50_3
  (S x0 x3 (.bool true) H3)
  (bnd (faV 2 x4) fun v53_3 =>
  bnd (ldE false 1 v53_3 H3) fun v54_3 =>
  bnd (binV .int .gtr v54_3 (.int .i64 65535)) fun v55_3 =>
  S x0 x3 v55_3 H3))))))))
  (bnd (faV 1 x4) fun v42_4 =>
  bnd (ldE false 1 v42_4 H) fun v43_4 =>
  EvF P N.sounderref09_time #[v43_4] H fun v44_4 H4 =>
  ((bnd (ldE false 1 v22 H4) fun v' => v' = v23) ∧
  ((bnd (ldE false 1 v18 H4) fun v' => v' = v19) ∧
  bnd (unV .not v44_4) fun v45_4 =>
  brV v45_4
  (S x0 x3 (.bool true) H4)
  (bnd (faV 2 x4) fun v48_4 =>
  bnd (ldE false 1 v48_4 H4) fun v49_4 =>
  bnd (binV .int .lss v49_4 (.int .i64 1)) fun v50_4 =>
  brV v50_4
  (S x0 x3 (.bool true) H4)
  (bnd (faV 2 x4) fun v53_4 =>
  bnd (ldE false 1 v53_4 H4) fun v54_4 =>
  bnd (binV .int .gtr v54_4 (.int .i64 65535)) fun v55_4 =>
  S x0 x3 v55_4 H4)))))
  (brG v28
  (bnd (binV .int .sub x3 (.int .i64 1)) fun v34_3 =>
  bnd (ixSV 6 x0 v34_3) fun v35_3 =>
  bnd (faV 0 v35_3) fun v36_3 =>
  bnd (ldE false 1 v36_3 H) fun v37_3 =>
  bnd (binV .int .leq undef v37_3) fun v38_3 =>
  brV v38_3
  (S x0 x3 (.bool true) H)
  (bnd (faV 1 x4) fun v42_5 =>
  bnd (ldE false 1 v42_5 H) fun v43_5 =>
  EvF P N.sounderref09_time #[v43_5] H fun v44_5 H5 =>
  ((bnd (ldE false 1 v36_3 H5) fun v' => v' = v37_3) ∧
  ((bnd (ldE false 1 v22 H5) fun v' => v' = v23) ∧
  ((bnd (ldE false 1 v18 H5) fun v' => v' = v19) ∧
  bnd (unV .not v44_5) fun v45_5 =>
  brV v45_5
  (S x0 x3 (.bool true) H5)
  (bnd (faV 2 x4) fun v48_5 =>
  bnd (ldE false 1 v48_5 H5) fun v49_5 =>
  bnd (binV .int .lss v49_5 (.int .i64 1)) fun v50_5 =>
  brV v50_5
  (S x0 x3 (.bool true) H5)
  (bnd (faV 2 x4) fun v53_5 =>
  bnd (ldE false 1 v53_5 H5) fun v54_5 =>
  bnd (binV .int .gtr v54_5 (.int .i64 65535)) fun v55_5 =>
  S x0 x3 v55_5 H5)))))))
  (bnd (faV 1 x4) fun v42_6 =>
  bnd (ldE false 1 v42_6 H) fun v43_6 =>
  EvF P N.sounderref09_time #[v43_6] H fun v44_6 H6 =>
  ((bnd (ldE false 1 v22 H6) fun v' => v' = v23) ∧
  ((bnd (ldE false 1 v18 H6) fun v' => v' = v19) ∧
  bnd (unV .not v44_6) fun v45_6 =>
  brV v45_6
  (S x0 x3 (.bool true) H6)
  (bnd (faV 2 x4) fun v48_6 =>
  bnd (ldE false 1 v48_6 H6) fun v49_6 =>
  bnd (binV .int .lss v49_6 (.int .i64 1)) fun v50_6 =>
  brV v50_6
  (S x0 x3 (.bool true) H6)
  (bnd (faV 2 x4) fun v53_6 =>
  bnd (ldE false 1 v53_6 H6) fun v54_6 =>
  bnd (binV .int .gtr v54_6 (.int .i64 65535)) fun v55_6 =>
  S x0 x3 v55_6 H6)))))
  (brG v28
  (bnd (binV .int .sub x3 (.int .i64 1)) fun v34_4 =>
  bnd (ixSV 6 undef v34_4) fun v35_4 =>
  bnd (faV 0 v35_4) fun v36_4 =>
  bnd (ldE false 1 v36_4 H) fun v37_4 =>
  bnd (binV .int .leq undef v37_4) fun v38_4 =>
  brV v38_4
  (S x0 x3 (.bool true) H)
  (bnd (faV 1 x4) fun v42_7 =>
  bnd (ldE false 1 v42_7 H) fun v43_7 =>
  EvF P N.sounderref09_time #[v43_7] H fun v44_7 H7 =>
  ((bnd (ldE false 1 v36_4 H7) fun v' => v' = v37_4) ∧
  ((bnd (ldE false 1 v22 H7) fun v' => v' = v23) ∧
  ((bnd (ldE false 1 v18 H7) fun v' => v' = v19) ∧
  bnd (unV .not v44_7) fun v45_7 =>
  brV v45_7
  (S x0 x3 (.bool true) H7)
  (bnd (faV 2 x4) fun v48_7 =>
  bnd (ldE false 1 v48_7 H7) fun v49_7 =>
  bnd (binV .int .lss v49_7 (.int .i64 1)) fun v50_7 =>
  brV v50_7
  (S x0 x3 (.bool true) H7)
  (bnd (faV 2 x4) fun v53_7 =>
  bnd (ldE false 1 v53_7 H7) fun v54_7 =>
  bnd (binV .int .gtr v54_7 (.int .i64 65535)) fun v55_7 =>
  S x0 x3 v55_7 H7)))))))
  (bnd (faV 1 x4) fun v42_8 =>
  bnd (ldE false 1 v42_8 H) fun v43_8 =>
  EvF P N.sounderref09_time #[v43_8] H fun v44_8 H8 =>
  ((bnd (ldE false 1 v22 H8) fun v' => v' = v23) ∧
  ((bnd (ldE false 1 v18 H8) fun v' => v' = v19) ∧
  bnd (unV .not v44_8) fun v45_8 =>
  brV v45_8
  (S x0 x3 (.bool true) H8)
  (bnd (faV 2 x4) fun v48_8 =>
  bnd (ldE false 1 v48_8 H8) fun v49_8 =>
  bnd (binV .int .lss v49_8 (.int .i64 1)) fun v50_8 =>
  brV v50_8
  (S x0 x3 (.bool true) H8)
  (bnd (faV 2 x4) fun v53_8 =>
  bnd (ldE false 1 v53_8 H8) fun v54_8 =>
  bnd (binV .int .gtr v54_8 (.int .i64 65535)) fun v55_8 =>
  S x0 x3 v55_8 H8)))))
  (brG v28
  (bnd (binV .int .sub undef (.int .i64 1)) fun v34_5 =>
  bnd (ixSV 6 undef v34_5) fun v35_5 =>
  bnd (faV 0 v35_5) fun v36_5 =>
  bnd (ldE false 1 v36_5 H) fun v37_5 =>
  bnd (binV .int .leq undef v37_5) fun v38_5 =>
  brV v38_5
  (S x0 x3 (.bool true) H)
  (bnd (faV 1 x4) fun v42_9 =>
  bnd (ldE false 1 v42_9 H) fun v43_9 =>
  EvF P N.sounderref09_time #[v43_9] H fun v44_9 H9 =>
  ((bnd (ldE false 1 v36_5 H9) fun v' => v' = v37_5) ∧
  ((bnd (ldE false 1 v22 H9) fun v' => v' = v23) ∧
  ((bnd (ldE false 1 v18 H9) fun v' => v' = v19) ∧
  bnd (unV .not v44_9) fun v45_9 =>
  brV v45_9
  (S x0 x3 (.bool true) H9)
  (bnd (faV 2 x4) fun v48_9 =>
  bnd (ldE false 1 v48_9 H9) fun v49_9 =>
  bnd (binV .int .lss v49_9 (.int .i64 1)) fun v50_9 =>
  brV v50_9
  (S x0 x3 (.bool true) H9)
  (bnd (faV 2 x4) fun v53_9 =>
  bnd (ldE false 1 v53_9 H9) fun v54_9 =>
  bnd (binV .int .gtr v54_9 (.int .i64 65535)) fun v55_9 =>
  S x0 x3 v55_9 H9)))))))
  (bnd (faV 1 x4) fun v42_10 =>
  bnd (ldE false 1 v42_10 H) fun v43_10 =>
  EvF P N.sounderref09_time #[v43_10] H fun v44_10 H10 =>
  ((bnd (ldE false 1 v22 H10) fun v' => v' = v23) ∧
  ((bnd (ldE false 1 v18 H10) fun v' => v' = v19) ∧
  bnd (unV .not v44_10) fun v45_10 =>
  brV v45_10
  (S x0 x3 (.bool true) H10)
  (bnd (faV 2 x4) fun v48_10 =>
  bnd (ldE false 1 v48_10 H10) fun v49_10 =>
  bnd (binV .int .lss v49_10 (.int .i64 1)) fun v50_10 =>
  brV v50_10
  (S x0 x3 (.bool true) H10)
  (bnd (faV 2 x4) fun v53_10 =>
  bnd (ldE false 1 v53_10 H10) fun v54_10 =>
  bnd (binV .int .gtr v54_10 (.int .i64 65535)) fun v55_10 =>
  S x0 x3 v55_10 H10)))))
  (brG v28
  (bnd (ixSV 6 undef undef) fun v35_6 =>
  bnd (faV 0 v35_6) fun v36_6 =>
  bnd (ldE false 1 v36_6 H) fun v37_6 =>
  bnd (binV .int .leq undef v37_6) fun v38_6 =>
  brV v38_6
  (S x0 x3 (.bool true) H)
  (bnd (faV 1 x4) fun v42_11 =>
  bnd (ldE false 1 v42_11 H) fun v43_11 =>
  EvF P N.sounderref09_time #[v43_11] H fun v44_11 H11 =>
  ((bnd (ldE false 1 v36_6 H11) fun v' => v' = v37_6) ∧
  ((bnd (ldE false 1 v22 H11) fun v' => v' = v23) ∧
  ((bnd (ldE false 1 v18 H11) fun v' => v' = v19) ∧
  bnd (unV .not v44_11) fun v45_11 =>
  brV v45_11
  (S x0 x3 (.bool true) H11)
  (bnd (faV 2 x4) fun v48_11 =>
  bnd (ldE false 1 v48_11 H11) fun v49_11 =>
  bnd (binV .int .lss v49_11 (.int .i64 1)) fun v50_11 =>
  brV v50_11
  (S x0 x3 (.bool true) H11)
  (bnd (faV 2 x4) fun v53_11 =>
  bnd (ldE false 1 v53_11 H11) fun v54_11 =>
  bnd (binV .int .gtr v54_11 (.int .i64 65535)) fun v55_11 =>
  S x0 x3 v55_11 H11)))))))
  (bnd (faV 1 x4) fun v42_12 =>
  bnd (ldE false 1 v42_12 H) fun v43_12 =>
  EvF P N.sounderref09_time #[v43_12] H fun v44_12 H12 =>
  ((bnd (ldE false 1 v22 H12) fun v' => v' = v23) ∧
  ((bnd (ldE false 1 v18 H12) fun v' => v' = v19) ∧
  bnd (unV .not v44_12) fun v45_12 =>
  brV v45_12
  (S x0 x3 (.bool true) H12)
  (bnd (faV 2 x4) fun v48_12 =>
  bnd (ldE false 1 v48_12 H12) fun v49_12 =>
  bnd (binV .int .lss v49_12 (.int .i64 1)) fun v50_12 =>
  brV v50_12
  (S x0 x3 (.bool true) H12)
  (bnd (faV 2 x4) fun v53_12 =>
  bnd (ldE false 1 v53_12 H12) fun v54_12 =>
  bnd (binV .int .gtr v54_12 (.int .i64 65535)) fun v55_12 =>
  S x0 x3 v55_12 H12)))))
  (brG v28
  (bnd (faV 0 undef) fun v36_7 =>
  bnd (ldE false 1 v36_7 H) fun v37_7 =>
  bnd (binV .int .leq undef v37_7) fun v38_7 =>
  brV v38_7
  (S x0 x3 (.bool true) H)
  (bnd (faV 1 x4) fun v42_13 =>
  bnd (ldE false 1 v42_13 H) fun v43_13 =>
  EvF P N.sounderref09_time #[v43_13] H fun v44_13 H13 =>
  ((bnd (ldE false 1 v36_7 H13) fun v' => v' = v37_7) ∧
  ((bnd (ldE false 1 v22 H13) fun v' => v' = v23) ∧
  ((bnd (ldE false 1 v18 H13) fun v' => v' = v19) ∧
  bnd (unV .not v44_13) fun v45_13 =>
  brV v45_13
  (S x0 x3 (.bool true) H13)
  (bnd (faV 2 x4) fun v48_13 =>
  bnd (ldE false 1 v48_13 H13) fun v49_13 =>
  bnd (binV .int .lss v49_13 (.int .i64 1)) fun v50_13 =>
  brV v50_13
  (S x0 x3 (.bool true) H13)
  (bnd (faV 2 x4) fun v53_13 =>
  bnd (ldE false 1 v53_13 H13) fun v54_13 =>
  bnd (binV .int .gtr v54_13 (.int .i64 65535)) fun v55_13 =>
  S x0 x3 v55_13 H13)))))))
  (bnd (faV 1 x4) fun v42_14 =>
  bnd (ldE false 1 v42_14 H) fun v43_14 =>
  EvF P N.sounderref09_time #[v43_14] H fun v44_14 H14 =>
  ((bnd (ldE false 1 v22 H14) fun v' => v' = v23) ∧
  ((bnd (ldE false 1 v18 H14) fun v' => v' = v19) ∧
  bnd (unV .not v44_14) fun v45_14 =>
  brV v45_14
  (S x0 x3 (.bool true) H14)
  (bnd (faV 2 x4) fun v48_14 =>
  bnd (ldE false 1 v48_14 H14) fun v49_14 =>
  bnd (binV .int .lss v49_14 (.int .i64 1)) fun v50_14 =>
  brV v50_14
  (S x0 x3 (.bool true) H14)
  (bnd (faV 2 x4) fun v53_14 =>
  bnd (ldE false 1 v53_14 H14) fun v54_14 =>
  bnd (binV .int .gtr v54_14 (.int .i64 65535)) fun v55_14 =>
  S x0 x3 v55_14 H14)))))
  (brG v28
  (bnd (ldE false 1 undef H) fun v37_8 =>
  bnd (binV .int .leq undef v37_8) fun v38_8 =>
  brV v38_8
  (S x0 x3 (.bool true) H)
  (bnd (faV 1 x4) fun v42_15 =>
  bnd (ldE false 1 v42_15 H) fun v43_15 =>
  EvF P N.sounderref09_time #[v43_15] H fun v44_15 H15 =>
  ((bnd (ldE false 1 undef H15) fun v' => v' = v37_8) ∧
  ((bnd (ldE false 1 v22 H15) fun v' => v' = v23) ∧
  ((bnd (ldE false 1 v18 H15) fun v' => v' = v19) ∧
  bnd (unV .not v44_15) fun v45_15 =>
  brV v45_15
  (S x0 x3 (.bool true) H15)
  (bnd (faV 2 x4) fun v48_15 =>
  bnd (ldE false 1 v48_15 H15) fun v49_15 =>
  bnd (binV .int .lss v49_15 (.int .i64 1)) fun v50_15 =>
  brV v50_15
  (S x0 x3 (.bool true) H15)
  (bnd (faV 2 x4) fun v53_15 =>
  bnd (ldE false 1 v53_15 H15) fun v54_15 =>
  bnd (binV .int .gtr v54_15 (.int .i64 65535)) fun v55_15 =>
  S x0 x3 v55_15 H15)))))))
  (bnd (faV 1 x4) fun v42_16 =>
  bnd (ldE false 1 v42_16 H) fun v43_16 =>
  EvF P N.sounderref09_time #[v43_16] H fun v44_16 H16 =>
  ((bnd (ldE false 1 v22 H16) fun v' => v' = v23) ∧
  ((bnd (ldE false 1 v18 H16) fun v' => v' = v19) ∧
  bnd (unV .not v44_16) fun v45_16 =>
  brV v45_16
  (S x0 x3 (.bool true) H16)
  (bnd (faV 2 x4) fun v48_16 =>
  bnd (ldE false 1 v48_16 H16) fun v49_16 =>
  bnd (binV .int .lss v49_16 (.int .i64 1)) fun v50_16 =>
  brV v50_16
  (S x0 x3 (.bool true) H16)
  (bnd (faV 2 x4) fun v53_16 =>
  bnd (ldE false 1 v53_16 H16) fun v54_16 =>
  bnd (binV .int .gtr v54_16 (.int .i64 65535)) fun v55_16 =>
  S x0 x3 v55_16 H16)))))
  (brG v28
  (bnd (binV .int .leq undef undef) fun v38_9 =>
  brV v38_9
  (S x0 x3 (.bool true) H)
  (bnd (faV 1 x4) fun v42_17 =>
  bnd (ldE false 1 v42_17 H) fun v43_17 =>
  EvF P N.sounderref09_time #[v43_17] H fun v44_17 H17 =>
  ((bnd (ldE false 1 v22 H17) fun v' => v' = v23) ∧
  ((bnd (ldE false 1 v18 H17) fun v' => v' = v19) ∧
  bnd (unV .not v44_17) fun v45_17 =>
  brV v45_17
  (S x0 x3 (.bool true) H17)
  (bnd (faV 2 x4) fun v48_17 =>
  bnd (ldE false 1 v48_17 H17) fun v49_17 =>
  bnd (binV .int .lss v49_17 (.int .i64 1)) fun v50_17 =>
  brV v50_17
  (S x0 x3 (.bool true) H17)
  (bnd (faV 2 x4) fun v53_17 =>
  bnd (ldE false 1 v53_17 H17) fun v54_17 =>
  bnd (binV .int .gtr v54_17 (.int .i64 65535)) fun v55_17 =>
  S x0 x3 v55_17 H17))))))
  (bnd (faV 1 x4) fun v42_18 =>
  bnd (ldE false 1 v42_18 H) fun v43_18 =>
  EvF P N.sounderref09_time #[v43_18] H fun v44_18 H18 =>
  ((bnd (ldE false 1 v22 H18) fun v' => v' = v23) ∧
  ((bnd (ldE false 1 v18 H18) fun v' => v' = v19) ∧
  bnd (unV .not v44_18) fun v45_18 =>
  brV v45_18
  (S x0 x3 (.bool true) H18)
  (bnd (faV 2 x4) fun v48_18 =>
  bnd (ldE false 1 v48_18 H18) fun v49_18 =>
  bnd (binV .int .lss v49_18 (.int .i64 1)) fun v50_18 =>
  brV v50_18
  (S x0 x3 (.bool true) H18)
  (bnd (faV 2 x4) fun v53_18 =>
  bnd (ldE false 1 v53_18 H18) fun v54_18 =>
  bnd (binV .int .gtr v54_18 (.int .i64 65535)) fun v55_18 =>
  S x0 x3 v55_18 H18)))))
  (pickE v28 undef (.bool false) H fun v39 _ =>
  brV v39
  (S x0 x3 (.bool true) H)
  (bnd (faV 1 x4) fun v42_19 =>
  bnd (ldE false 1 v42_19 H) fun v43_19 =>
  EvF P N.sounderref09_time #[v43_19] H fun v44_19 H20 =>
  ((bnd (ldE false 1 v22 H20) fun v' => v' = v23) ∧
  ((bnd (ldE false 1 v18 H20) fun v' => v' = v19) ∧
  bnd (unV .not v44_19) fun v45_19 =>
  brV v45_19
  (S x0 x3 (.bool true) H20)
  (bnd (faV 2 x4) fun v48_19 =>
  bnd (ldE false 1 v48_19 H20) fun v49_19 =>
  bnd (binV .int .lss v49_19 (.int .i64 1)) fun v50_19 =>
  brV v50_19
  (S x0 x3 (.bool true) H20)
  (bnd (faV 2 x4) fun v53_19 =>
  bnd (ldE false 1 v53_19 H20) fun v54_19 =>
  bnd (binV .int .gtr v54_19 (.int .i64 65535)) fun v55_19 =>
  S x0 x3 v55_19 H20))))))))))))))))
theorem z55_g38_e (S : Value → Value → Value → Heap → Prop) (x : Nat → Value) (H : Heap) : wpE tab P z55_pi z55_c24 (nQ fun l H => S (l.getD 0 undef) (l.getD 3 undef) (l.getD 56 undef) H) ((List.range 57).map x) H = z55_g38 S (x 0) (x 3) (x 4) H := by kernel_rfl
def z55_g39 (S : Value → Heap → Prop) (H : Heap) : Prop :=
  S (.int .i64 2) H
theorem z55_g39_e (S : Value → Heap → Prop) (x : Nat → Value) (H : Heap) : wpE tab P z55_pi z55_c27 (nQ fun l H => S (l.getD 2 undef) H) ((List.range 57).map x) H = z55_g39 S  H := by kernel_rfl
def z55_g40 (S : Value → Value → Heap → Prop) (x0 x3 : Value) (H : Heap) : Prop :=
  bnd (binV .int .add x3 (.int .i64 1)) fun v13 =>
  S x0 v13 H
theorem z55_g40_e (S : Value → Value → Heap → Prop) (x : Nat → Value) (H : Heap) : wpE tab P z55_pi z55_c28 (nQ fun l H => S (l.getD 0 undef) (l.getD 3 undef) H) ((List.range 57).map x) H = z55_g40 S (x 0) (x 3) H := by kernel_rfl
def z55_g41 (S : Value → Heap → Prop) (H : Heap) : Prop :=
  S (.int .i64 0) H
theorem z55_g41_e (S : Value → Heap → Prop) (x : Nat → Value) (H : Heap) : wpE tab P z55_pi z55_c30 (nQ fun l H => S (l.getD 2 undef) H) ((List.range 57).map x) H = z55_g41 S  H := by kernel_rfl
def z55_s35 (x0 x3 : Value) (K1 : Value → Value →  Heap → Prop) (R : Value → Heap → Prop) (H : Heap) : Prop :=
  z55_g36 (fun x0 x3 x11 H => brV x11
  (z55_g37 (fun x0 x3 x4 H => z55_g38 (fun x0 x3 x56 H => brV x56
  (z55_g39 (fun x2 H => R x2 H) H)
  (z55_g40 (fun x0 x3 H => K1 x0 x3 H) x0 x3 H)) x0 x3 x4 H) x0 x3 H)
  (z55_g41 (fun x2 H => R x2 H) H)) x0 x3 H
noncomputable def z55_q42 (R : Value → Heap → Prop) : Exit → List Value → Heap → Prop := (retQ tab z55_rs R)
noncomputable def z55_q43 (R : Value → Heap → Prop) : Exit → List Value → Heap → Prop := (thenE (fun l H => wpE tab P z55_pi z55_c29 (z55_q42 R) l H) (z55_q42 R))
noncomputable def z55_q44 (R : Value → Heap → Prop) : Exit → List Value → Heap → Prop := (blkE 0 (z55_q43 R))
noncomputable def z55_q45 (K1 : Value → Value →  Heap → Prop) (R : Value → Heap → Prop) : Exit → List Value → Heap → Prop := (thenE (fun l H => K1 (l.getD 0 undef) (l.getD 3 undef) H) (z55_q44 R))
theorem z55_s35_i (K1 : Value → Value →  Heap → Prop) (R : Value → Heap → Prop) (l : List Value) (H : Heap) (hl : l.length = 57) (h : z55_s35 (l.getD 0 undef) (l.getD 3 undef) K1 R H) : wpE tab P z55_pi z55_c14 (z55_q45 K1 R) l H := by
  refine seqI (c := z55_c14) rfl ?_
  refine seqI (c := z55_c15) rfl ?_
  refine regI hl (Eq.mpr (z55_g36_e _ (fun i => l.getD i undef) _) h) ?_
  clear h hl
  intro l H hl h
  refine thenN ?_
  refine condI (c := z55_c17) rfl h ?_ ?_
  · clear h; intro h
    refine skipI rfl ?_
    refine thenN ?_
    refine seqI (c := z55_c19) rfl ?_
    refine blockI (c := z55_c20) rfl ?_
    refine seqI (c := z55_c21) rfl ?_
    refine regI hl (Eq.mpr (z55_g37_e _ (fun i => l.getD i undef) _) h) ?_
    clear h hl
    intro l H hl h
    refine thenN ?_
    refine seqI (c := z55_c23) rfl ?_
    refine regI hl (Eq.mpr (z55_g38_e _ (fun i => l.getD i undef) _) h) ?_
    clear h hl
    intro l H hl h
    refine thenN ?_
    refine condI (c := z55_c25) rfl h ?_ ?_
    · clear h; intro h
      refine seqI (c := z55_c26) rfl ?_
      refine regI hl (Eq.mpr (z55_g39_e _ (fun i => l.getD i undef) _) h) ?_
      clear h hl
      intro l H hl h
      refine thenN ?_
      refine retI rfl ?_
      refine blkR ?_
      refine thenR ?_
      refine thenR ?_
      refine blkR ?_
      refine thenR ?_
      exact h
    · clear h; intro h
      refine skipI rfl ?_
      refine blkN ?_
      refine thenN ?_
      refine regI hl (Eq.mpr (z55_g40_e _ (fun i => l.getD i undef) _) h) ?_
      clear h hl
      intro l H hl h
      refine thenN ?_
      exact h
  · clear h; intro h
    refine exitI (c := z55_c18) rfl ?_
    refine thenX ?_
    refine thenX ?_
    refine blkX ?_
    refine thenN ?_
    refine seqI (c := z55_c29) rfl ?_
    refine regI hl (Eq.mpr (z55_g41_e _ (fun i => l.getD i undef) _) h) ?_
    clear h hl
    intro l H hl h
    refine thenN ?_
    refine retI rfl ?_
    exact h
def z55_l46 (x0 x3 : Value) (R : Value → Heap → Prop) (H : Heap) : Prop :=
  ∃ (I : Value → Heap → Prop) (μ : Value → Heap → Nat), I x3 H ∧ ∀ (y3 : Value) (H : Heap), I y3 H → z55_s35 x0 y3 (fun z0 z3 H' => z0 = x0 ∧ (I z3 H' ∧ μ z3 H' < μ y3 H)) R H
def sounderref09_Check (x0 : Value) (R : Value → Heap → Prop) (H : Heap) : Prop :=
  z55_g31 (fun x0 H => z55_g32 (fun x0 x7 H => brV x7
  (z55_g33 (fun x2 H => R x2 H) H)
  (z55_g34 (fun x0 x3 H => z55_l46 x0 x3 R H) x0 H)) x0 H) x0 H
theorem z55_i (R : Value → Heap → Prop) (x0 : Value) (H : Heap) (h : sounderref09_Check x0 R H) : wpE tab P z55_pi z55_c1 (retQ tab z55_rs R) [x0, undef, undef, undef, undef, undef, undef, undef, undef, undef, undef, undef, undef, undef, undef, undef, undef, undef, undef, undef, undef, undef, undef, undef, undef, undef, undef, undef, undef, undef, undef, undef, undef, undef, undef, undef, undef, undef, undef, undef, undef, undef, undef, undef, undef, undef, undef, undef, undef, undef, undef, undef, undef, undef, undef, undef, undef] H := by
  obtain ⟨l, hl, el⟩ : ∃ l : List Value, l.length = 57 ∧ l = [x0, undef, undef, undef, undef, undef, undef, undef, undef, undef, undef, undef, undef, undef, undef, undef, undef, undef, undef, undef, undef, undef, undef, undef, undef, undef, undef, undef, undef, undef, undef, undef, undef, undef, undef, undef, undef, undef, undef, undef, undef, undef, undef, undef, undef, undef, undef, undef, undef, undef, undef, undef, undef, undef, undef, undef, undef] := ⟨_, rfl, rfl⟩
  rw [← el]
  have h : (fun (x0 : Value) => z55_g31 (fun x0 H => z55_g32 (fun x0 x7 H => brV x7
(z55_g33 (fun x2 H => R x2 H) H)
(z55_g34 (fun x0 x3 H => z55_l46 x0 x3 R H) x0 H)) x0 H) x0 H) (l.getD 0 undef) := by rw [el]; exact h
  clear el
  refine seqI (c := z55_c1) rfl ?_
  refine regI hl (Eq.mpr (z55_g31_e _ (fun i => l.getD i undef) _) h) ?_
  clear h hl
  intro l H hl h
  refine thenN ?_
  refine seqI (c := z55_c3) rfl ?_
  refine seqI (c := z55_c4) rfl ?_
  refine regI hl (Eq.mpr (z55_g32_e _ (fun i => l.getD i undef) _) h) ?_
  clear h hl
  intro l H hl h
  refine thenN ?_
  refine condI (c := z55_c6) rfl h ?_ ?_
  · clear h; intro h
    refine seqI (c := z55_c7) rfl ?_
    refine regI hl (Eq.mpr (z55_g33_e _ (fun i => l.getD i undef) _) h) ?_
    clear h hl
    intro l H hl h
    refine thenN ?_
    refine retI rfl ?_
    refine thenR ?_
    exact h
  · clear h; intro h
    refine skipI rfl ?_
    refine thenN ?_
    refine seqI (c := z55_c9) rfl ?_
    refine seqI (c := z55_c10) rfl ?_
    refine regI hl (Eq.mpr (z55_g34_e _ (fun i => l.getD i undef) _) h) ?_
    clear h hl
    intro l H hl h
    refine thenN ?_
    refine blockI (c := z55_c12) rfl ?_
    obtain ⟨I, μ, h0, hr⟩ := h
    refine loopI (c := z55_c13) rfl (fun l' H' => l'.getD 0 undef = l.getD 0 undef ∧ I (l'.getD 3 undef) H') (fun l' H' => μ (l'.getD 3 undef) H') hl ⟨rfl, h0⟩ ?_
    rintro l1 H1 hl1 ⟨e0, hI⟩
    have hb := hr (l1.getD 3 undef) H1 hI
    rw [← e0] at hb
    refine wpE_mono _ l1 H1 hl1 ?_ (z55_s35_i _ R l1 H1 hl1 hb)
    intro e l2 H2 hl2 hq
    cases e with
    | normal => exact fun _ => (by obtain ⟨d0, g1, g2⟩ := hq; exact ⟨⟨d0.trans e0, g1⟩, g2⟩)
    | _ => exact hq
theorem z55_ok : okB z55_pi z55_c1 = true := by kernel_rfl
theorem z55_ev0 (x0 : Value) (R : Value → Heap → Prop) (H : Heap) (h : sounderref09_Check x0 R H) : EvL P N.sounderref09_Check #[x0] H R :=
  EvF_intro (args := [x0]) (k := 56) (rs := z55_rs) tab_ok mixed Try.func55 (show Try.f55.body = some z55_c1 by kernel_rfl) Try.call55 Try.ntmps55 (by kernel_rfl) (okCode_of _ z55_ok) rfl (z55_i R x0 H h)
theorem z55_ev (x0 : Value) (R : Value → Heap → Prop) (H : Heap) (h : sounderref09_Check x0 R H) : EvF P N.sounderref09_Check #[x0] H R := .inl (z55_ev0 x0 R H h)
/- 56: sounder/sounderref01.Is -/
def z56_rs : List ResultVar := [.tmp 2]
noncomputable def z56_c2 : Code := subC (bodyC Try.f56) [0]
noncomputable def z56_c4 : Code := subC (bodyC Try.f56) [1, 0]
noncomputable def z56_c3 : Code := .seq z56_c4 Code.ret
noncomputable def z56_c1 : Code := .seq z56_c2 z56_c3
def z56_pi (_ : Nat) : Pl := .nil
def z56_g5 (S : Value → Heap → Prop) (x0 : Value) (H : Heap) : Prop :=
  S x0 H
theorem z56_g5_e (S : Value → Heap → Prop) (x : Nat → Value) (H : Heap) : wpE tab P z56_pi z56_c2 (nQ fun l H => S (l.getD 0 undef) H) ((List.range 9).map x) H = z56_g5 S (x 0) H := by kernel_rfl
def z56_g6 (S : Value → Heap → Prop) (x0 : Value) (H : Heap) : Prop :=
  bnd (binV .int .geq x0 (.int .i64 0)) fun v4 =>
  brV v4
  (bnd (binV .int .leq x0 (.int .i64 9007199254740991)) fun v7 =>
  S v7 H)
  (S (.bool false) H)
theorem z56_g6_e (S : Value → Heap → Prop) (x : Nat → Value) (H : Heap) : wpE tab P z56_pi z56_c4 (nQ fun l H => S (l.getD 2 undef) H) ((List.range 9).map x) H = z56_g6 S (x 0) H := by kernel_rfl
def sounderref01_Is (x0 : Value) (R : Value → Heap → Prop) (H : Heap) : Prop :=
  z56_g5 (fun x0 H => z56_g6 (fun x2 H => R x2 H) x0 H) x0 H
theorem z56_i (R : Value → Heap → Prop) (x0 : Value) (H : Heap) (h : sounderref01_Is x0 R H) : wpE tab P z56_pi z56_c1 (retQ tab z56_rs R) [x0, undef, undef, undef, undef, undef, undef, undef, undef] H := by
  obtain ⟨l, hl, el⟩ : ∃ l : List Value, l.length = 9 ∧ l = [x0, undef, undef, undef, undef, undef, undef, undef, undef] := ⟨_, rfl, rfl⟩
  rw [← el]
  have h : (fun (x0 : Value) => z56_g5 (fun x0 H => z56_g6 (fun x2 H => R x2 H) x0 H) x0 H) (l.getD 0 undef) := by rw [el]; exact h
  clear el
  refine seqI (c := z56_c1) rfl ?_
  refine regI hl (Eq.mpr (z56_g5_e _ (fun i => l.getD i undef) _) h) ?_
  clear h hl
  intro l H hl h
  refine thenN ?_
  refine seqI (c := z56_c3) rfl ?_
  refine regI hl (Eq.mpr (z56_g6_e _ (fun i => l.getD i undef) _) h) ?_
  clear h hl
  intro l H hl h
  refine thenN ?_
  refine retI rfl ?_
  exact h
theorem z56_ok : okB z56_pi z56_c1 = true := by kernel_rfl
theorem z56_ev0 (x0 : Value) (R : Value → Heap → Prop) (H : Heap) (h : sounderref01_Is x0 R H) : EvL P N.sounderref01_Is #[x0] H R :=
  EvF_intro (args := [x0]) (k := 8) (rs := z56_rs) tab_ok mixed Try.func56 (show Try.f56.body = some z56_c1 by kernel_rfl) Try.call56 Try.ntmps56 (by kernel_rfl) (okCode_of _ z56_ok) rfl (z56_i R x0 H h)
theorem z56_ev (x0 : Value) (R : Value → Heap → Prop) (H : Heap) (h : sounderref01_Is x0 R H) : EvF P N.sounderref01_Is #[x0] H R := .inl (z56_ev0 x0 R H h)
/- 57: sounder/sounderref10.pair -/
def z57_rs : List ResultVar := [.tmp 8]
noncomputable def z57_c2 : Code := subC (bodyC Try.f57) [0]
noncomputable def z57_c4 : Code := subC (bodyC Try.f57) [1, 0]
noncomputable def z57_c3 : Code := .seq z57_c4 Code.ret
noncomputable def z57_c1 : Code := .seq z57_c2 z57_c3
def z57_pi (_ : Nat) : Pl := .nil
def z57_g5 (S : Value → Value → Value → Value → Heap → Prop) (x0 x1 x2 x3 : Value) (H : Heap) : Prop :=
  newE 38 (Value.cells x0) H fun v4 H1 =>
  newE 38 (Value.cells x1) H1 fun v5 H2 =>
  S x2 x3 v4 v5 H2
theorem z57_g5_e (S : Value → Value → Value → Value → Heap → Prop) (x : Nat → Value) (H : Heap) : wpE tab P z57_pi z57_c2 (nQ fun l H => S (l.getD 2 undef) (l.getD 3 undef) (l.getD 4 undef) (l.getD 5 undef) H) ((List.range 43).map x) H = z57_g5 S (x 0) (x 1) (x 2) (x 3) H := by kernel_rfl
def z57_g6 (S : Value → Heap → Prop) (x2 x3 x4 x5 : Value) (H : Heap) : Prop :=
  bnd (faV 3 x4) fun v9 =>
  bnd (ldE false 1 v9 H) fun v10 =>
  brV v10
  (bnd (faV 3 x5) fun v12 =>
  bnd (ldE false 1 v12 H) fun v13 =>
  brV v13
  (bnd (faV 1 x4) fun v16 =>
  bnd (ldE false 1 v16 H) fun v17 =>
  bnd (binV .int .gtr v17 x3) fun v19 =>
  brV v19
  (bnd (faV 1 x5) fun v22 =>
  bnd (ldE false 1 v22 H) fun v23 =>
  bnd (binV .int .gtr v23 x3) fun v25 =>
  brV v25
  (bnd (faV 1 x5) fun v28 =>
  bnd (ldE false 1 v28 H) fun v29 =>
  bnd (faV 1 x4) fun v30 =>
  bnd (ldE false 1 v30 H) fun v31 =>
  bnd (binV .int .geq v29 v31) fun v32 =>
  brV v32
  (bnd (faV 0 x4) fun v36 =>
  bnd (ldE false 1 v36 H) fun v37 =>
  bnd (faV 0 x5) fun v38 =>
  bnd (ldE false 1 v38 H) fun v39 =>
  EvF P N.sounderref10_between #[x2, v37, v39] H fun v40 H1 =>
  bnd (unV .not v40) fun v41 =>
  S v41 H1)
  (S (.bool false) H))
  (S (.bool false) H))
  (S (.bool false) H))
  (S (.bool false) H))
  (S (.bool false) H)
theorem z57_g6_e (S : Value → Heap → Prop) (x : Nat → Value) (H : Heap) : wpE tab P z57_pi z57_c4 (nQ fun l H => S (l.getD 8 undef) H) ((List.range 43).map x) H = z57_g6 S (x 2) (x 3) (x 4) (x 5) H := by kernel_rfl
def sounderref10_pair (x0 x1 x2 x3 : Value) (R : Value → Heap → Prop) (H : Heap) : Prop :=
  z57_g5 (fun x2 x3 x4 x5 H => z57_g6 (fun x8 H => R x8 H) x2 x3 x4 x5 H) x0 x1 x2 x3 H
theorem z57_i (R : Value → Heap → Prop) (x0 x1 x2 x3 : Value) (H : Heap) (h : sounderref10_pair x0 x1 x2 x3 R H) : wpE tab P z57_pi z57_c1 (retQ tab z57_rs R) [x0, x1, x2, x3, undef, undef, undef, undef, undef, undef, undef, undef, undef, undef, undef, undef, undef, undef, undef, undef, undef, undef, undef, undef, undef, undef, undef, undef, undef, undef, undef, undef, undef, undef, undef, undef, undef, undef, undef, undef, undef, undef, undef] H := by
  obtain ⟨l, hl, el⟩ : ∃ l : List Value, l.length = 43 ∧ l = [x0, x1, x2, x3, undef, undef, undef, undef, undef, undef, undef, undef, undef, undef, undef, undef, undef, undef, undef, undef, undef, undef, undef, undef, undef, undef, undef, undef, undef, undef, undef, undef, undef, undef, undef, undef, undef, undef, undef, undef, undef, undef, undef] := ⟨_, rfl, rfl⟩
  rw [← el]
  have h : (fun (x0 x1 x2 x3 : Value) => z57_g5 (fun x2 x3 x4 x5 H => z57_g6 (fun x8 H => R x8 H) x2 x3 x4 x5 H) x0 x1 x2 x3 H) (l.getD 0 undef) (l.getD 1 undef) (l.getD 2 undef) (l.getD 3 undef) := by rw [el]; exact h
  clear el
  refine seqI (c := z57_c1) rfl ?_
  refine regI hl (Eq.mpr (z57_g5_e _ (fun i => l.getD i undef) _) h) ?_
  clear h hl
  intro l H hl h
  refine thenN ?_
  refine seqI (c := z57_c3) rfl ?_
  refine regI hl (Eq.mpr (z57_g6_e _ (fun i => l.getD i undef) _) h) ?_
  clear h hl
  intro l H hl h
  refine thenN ?_
  refine retI rfl ?_
  exact h
theorem z57_ok : okB z57_pi z57_c1 = true := by kernel_rfl
theorem z57_ev0 (x0 x1 x2 x3 : Value) (R : Value → Heap → Prop) (H : Heap) (h : sounderref10_pair x0 x1 x2 x3 R H) : EvL P N.sounderref10_pair #[x0, x1, x2, x3] H R :=
  EvF_intro (args := [x0, x1, x2, x3]) (k := 39) (rs := z57_rs) tab_ok mixed Try.func57 (show Try.f57.body = some z57_c1 by kernel_rfl) Try.call57 Try.ntmps57 (by kernel_rfl) (okCode_of _ z57_ok) rfl (z57_i R x0 x1 x2 x3 H h)
theorem z57_ev (x0 x1 x2 x3 : Value) (R : Value → Heap → Prop) (H : Heap) (h : sounderref10_pair x0 x1 x2 x3 R H) : EvF P N.sounderref10_pair #[x0, x1, x2, x3] H R := .inl (z57_ev0 x0 x1 x2 x3 R H h)
/- 58: sounder/sounderref07.Check -/
def z58_rs : List ResultVar := [.tmp 2]
noncomputable def z58_c2 : Code := subC (bodyC Try.f58) [0]
noncomputable def z58_c5 : Code := subC (bodyC Try.f58) [1, 0, 0]
noncomputable def z58_c9 : Code := subC (bodyC Try.f58) [1, 0, 1, 0, 0, 0]
noncomputable def z58_c12 : Code := subC (bodyC Try.f58) [1, 0, 1, 0, 0, 1, 0, 0]
noncomputable def z58_c11 : Code := .seq z58_c12 Code.ret
noncomputable def z58_c10 : Code := .cond (.tmp 31) z58_c11 Code.skip
noncomputable def z58_c8 : Code := .seq z58_c9 z58_c10
noncomputable def z58_c14 : Code := subC (bodyC Try.f58) [1, 0, 1, 0, 1, 0]
noncomputable def z58_c13 : Code := .seq z58_c14 Code.ret
noncomputable def z58_c7 : Code := .seq z58_c8 z58_c13
noncomputable def z58_c6 : Code := .cond (.tmp 5) z58_c7 Code.skip
noncomputable def z58_c4 : Code := .seq z58_c5 z58_c6
noncomputable def z58_c17 : Code := subC (bodyC Try.f58) [1, 1, 0, 0]
noncomputable def z58_c20 : Code := subC (bodyC Try.f58) [1, 1, 0, 1, 0, 0]
noncomputable def z58_c19 : Code := .seq z58_c20 Code.ret
noncomputable def z58_c18 : Code := .cond (.tmp 73) z58_c19 Code.skip
noncomputable def z58_c16 : Code := .seq z58_c17 z58_c18
noncomputable def z58_c22 : Code := subC (bodyC Try.f58) [1, 1, 1, 0]
noncomputable def z58_c21 : Code := .seq z58_c22 Code.ret
noncomputable def z58_c15 : Code := .seq z58_c16 z58_c21
noncomputable def z58_c3 : Code := .seq z58_c4 z58_c15
noncomputable def z58_c1 : Code := .seq z58_c2 z58_c3
def z58_pi (_ : Nat) : Pl := .nil
def z58_g23 (S : Value → Heap → Prop) (x0 : Value) (H : Heap) : Prop :=
  newE 36 (Value.cells x0) H fun v1 H1 =>
  S v1 H1
theorem z58_g23_e (S : Value → Heap → Prop) (x : Nat → Value) (H : Heap) : wpE tab P z58_pi z58_c2 (nQ fun l H => S (l.getD 1 undef) H) ((List.range 74).map x) H = z58_g23 S (x 0) H := by kernel_rfl
def z58_g24 (S : Value → Value → Heap → Prop) (x1 : Value) (H : Heap) : Prop :=
  bnd (faV 4 x1) fun v3 =>
  bnd (ldE false 1 v3 H) fun v4 =>
  bnd (binV .int .eql v4 (.int .i64 (-1))) fun v5 =>
  S x1 v5 H
theorem z58_g24_e (S : Value → Value → Heap → Prop) (x : Nat → Value) (H : Heap) : wpE tab P z58_pi z58_c5 (nQ fun l H => S (l.getD 1 undef) (l.getD 5 undef) H) ((List.range 74).map x) H = z58_g24 S (x 1) H := by kernel_rfl
def z58_g25 (S : Value → Heap → Prop) (x1 : Value) (H : Heap) : Prop :=
  bnd (faV 0 x1) fun v6 =>
  bnd (ldE false 1 v6 H) fun v7 =>
  bnd (binV .int .neq v7 (.int .i64 0)) fun v8 =>
  brV v8
  (S (.bool true) H)
  (bnd (faV 1 x1) fun v10 =>
  bnd (ldE false 1 v10 H) fun v11 =>
  bnd (binV .int .neq v11 (.int .i64 0)) fun v12 =>
  brV v12
  (S (.bool true) H)
  (bnd (faV 2 x1) fun v15 =>
  bnd (ldE false 1 v15 H) fun v16 =>
  bnd (binV .int .lss v16 (.int .i64 1000000)) fun v17 =>
  brV v17
  (S (.bool true) H)
  (bnd (faV 2 x1) fun v20 =>
  bnd (ldE false 1 v20 H) fun v21 =>
  bnd (binV .int .gtr v21 (.int .i64 60000000000)) fun v22 =>
  brV v22
  (S (.bool true) H)
  (bnd (faV 3 x1) fun v25 =>
  bnd (ldE false 1 v25 H) fun v26 =>
  bnd (faV 2 x1) fun v27 =>
  bnd (ldE false 1 v27 H) fun v28 =>
  bnd (binV .int .quo v28 (.int .i64 2)) fun v29 =>
  bnd (binV .int .neq v26 v29) fun v30 =>
  S v30 H))))
theorem z58_g25_e (S : Value → Heap → Prop) (x : Nat → Value) (H : Heap) : wpE tab P z58_pi z58_c9 (nQ fun l H => S (l.getD 31 undef) H) ((List.range 74).map x) H = z58_g25 S (x 1) H := by kernel_rfl
def z58_g26 (S : Value → Heap → Prop) (H : Heap) : Prop :=
  S (.int .i64 2) H
theorem z58_g26_e (S : Value → Heap → Prop) (x : Nat → Value) (H : Heap) : wpE tab P z58_pi z58_c12 (nQ fun l H => S (l.getD 2 undef) H) ((List.range 74).map x) H = z58_g26 S  H := by kernel_rfl
def z58_g27 (S : Value → Heap → Prop) (H : Heap) : Prop :=
  S (.int .i64 0) H
theorem z58_g27_e (S : Value → Heap → Prop) (x : Nat → Value) (H : Heap) : wpE tab P z58_pi z58_c14 (nQ fun l H => S (l.getD 2 undef) H) ((List.range 74).map x) H = z58_g27 S  H := by kernel_rfl
def z58_g28 (S : Value → Heap → Prop) (x1 : Value) (H : Heap) : Prop :=
  bnd (faV 4 x1) fun v32 =>
  bnd (ldE false 1 v32 H) fun v33 =>
  EvF P N.sounderref07_time #[v33] H fun v34 H1 =>
  bnd (unV .not v34) fun v35 =>
  brV v35
  (S (.bool true) H1)
  (bnd (faV 0 x1) fun v37 =>
  bnd (ldE false 1 v37 H1) fun v38 =>
  EvF P N.sounderref07_time #[v38] H1 fun v39 H2 =>
  bnd (unV .not v39) fun v40 =>
  brV v40
  (S (.bool true) H2)
  (bnd (faV 1 x1) fun v43 =>
  bnd (ldE false 1 v43 H2) fun v44 =>
  EvF P N.sounderref07_time #[v44] H2 fun v45 H3 =>
  bnd (unV .not v45) fun v46 =>
  brV v46
  (S (.bool true) H3)
  (bnd (faV 2 x1) fun v49 =>
  bnd (ldE false 1 v49 H3) fun v50 =>
  EvF P N.sounderref07_time #[v50] H3 fun v51 H4 =>
  bnd (unV .not v51) fun v52 =>
  brV v52
  (S (.bool true) H4)
  (bnd (faV 3 x1) fun v55 =>
  bnd (ldE false 1 v55 H4) fun v56 =>
  EvF P N.sounderref07_time #[v56] H4 fun v57 H5 =>
  bnd (unV .not v57) fun v58 =>
  brV v58
  (S (.bool true) H5)
  (bnd (faV 1 x1) fun v61 =>
  bnd (ldE false 1 v61 H5) fun v62 =>
  bnd (faV 0 x1) fun v63 =>
  bnd (ldE false 1 v63 H5) fun v64 =>
  bnd (binV .int .gtr v62 v64) fun v65 =>
  brV v65
  (S (.bool true) H5)
  (bnd (faV 1 x1) fun v68 =>
  bnd (ldE false 1 v68 H5) fun v69 =>
  bnd (faV 2 x1) fun v70 =>
  bnd (ldE false 1 v70 H5) fun v71 =>
  bnd (binV .int .gtr v69 v71) fun v72 =>
  S v72 H5))))))
theorem z58_g28_e (S : Value → Heap → Prop) (x : Nat → Value) (H : Heap) : wpE tab P z58_pi z58_c17 (nQ fun l H => S (l.getD 73 undef) H) ((List.range 74).map x) H = z58_g28 S (x 1) H := by kernel_rfl
def z58_g29 (S : Value → Heap → Prop) (H : Heap) : Prop :=
  S (.int .i64 2) H
theorem z58_g29_e (S : Value → Heap → Prop) (x : Nat → Value) (H : Heap) : wpE tab P z58_pi z58_c20 (nQ fun l H => S (l.getD 2 undef) H) ((List.range 74).map x) H = z58_g29 S  H := by kernel_rfl
def z58_g30 (S : Value → Heap → Prop) (H : Heap) : Prop :=
  S (.int .i64 0) H
theorem z58_g30_e (S : Value → Heap → Prop) (x : Nat → Value) (H : Heap) : wpE tab P z58_pi z58_c22 (nQ fun l H => S (l.getD 2 undef) H) ((List.range 74).map x) H = z58_g30 S  H := by kernel_rfl
def sounderref07_Check (x0 : Value) (R : Value → Heap → Prop) (H : Heap) : Prop :=
  z58_g23 (fun x1 H => z58_g24 (fun x1 x5 H => brV x5
  (z58_g25 (fun x31 H => brV x31
  (z58_g26 (fun x2 H => R x2 H) H)
  (z58_g27 (fun x2 H => R x2 H) H)) x1 H)
  (z58_g28 (fun x73 H => brV x73
  (z58_g29 (fun x2 H => R x2 H) H)
  (z58_g30 (fun x2 H => R x2 H) H)) x1 H)) x1 H) x0 H
theorem z58_i (R : Value → Heap → Prop) (x0 : Value) (H : Heap) (h : sounderref07_Check x0 R H) : wpE tab P z58_pi z58_c1 (retQ tab z58_rs R) [x0, undef, undef, undef, undef, undef, undef, undef, undef, undef, undef, undef, undef, undef, undef, undef, undef, undef, undef, undef, undef, undef, undef, undef, undef, undef, undef, undef, undef, undef, undef, undef, undef, undef, undef, undef, undef, undef, undef, undef, undef, undef, undef, undef, undef, undef, undef, undef, undef, undef, undef, undef, undef, undef, undef, undef, undef, undef, undef, undef, undef, undef, undef, undef, undef, undef, undef, undef, undef, undef, undef, undef, undef, undef] H := by
  obtain ⟨l, hl, el⟩ : ∃ l : List Value, l.length = 74 ∧ l = [x0, undef, undef, undef, undef, undef, undef, undef, undef, undef, undef, undef, undef, undef, undef, undef, undef, undef, undef, undef, undef, undef, undef, undef, undef, undef, undef, undef, undef, undef, undef, undef, undef, undef, undef, undef, undef, undef, undef, undef, undef, undef, undef, undef, undef, undef, undef, undef, undef, undef, undef, undef, undef, undef, undef, undef, undef, undef, undef, undef, undef, undef, undef, undef, undef, undef, undef, undef, undef, undef, undef, undef, undef, undef] := ⟨_, rfl, rfl⟩
  rw [← el]
  have h : (fun (x0 : Value) => z58_g23 (fun x1 H => z58_g24 (fun x1 x5 H => brV x5
(z58_g25 (fun x31 H => brV x31
(z58_g26 (fun x2 H => R x2 H) H)
(z58_g27 (fun x2 H => R x2 H) H)) x1 H)
(z58_g28 (fun x73 H => brV x73
(z58_g29 (fun x2 H => R x2 H) H)
(z58_g30 (fun x2 H => R x2 H) H)) x1 H)) x1 H) x0 H) (l.getD 0 undef) := by rw [el]; exact h
  clear el
  refine seqI (c := z58_c1) rfl ?_
  refine regI hl (Eq.mpr (z58_g23_e _ (fun i => l.getD i undef) _) h) ?_
  clear h hl
  intro l H hl h
  refine thenN ?_
  refine seqI (c := z58_c3) rfl ?_
  refine seqI (c := z58_c4) rfl ?_
  refine regI hl (Eq.mpr (z58_g24_e _ (fun i => l.getD i undef) _) h) ?_
  clear h hl
  intro l H hl h
  refine thenN ?_
  refine condI (c := z58_c6) rfl h ?_ ?_
  · clear h; intro h
    refine seqI (c := z58_c7) rfl ?_
    refine seqI (c := z58_c8) rfl ?_
    refine regI hl (Eq.mpr (z58_g25_e _ (fun i => l.getD i undef) _) h) ?_
    clear h hl
    intro l H hl h
    refine thenN ?_
    refine condI (c := z58_c10) rfl h ?_ ?_
    · clear h; intro h
      refine seqI (c := z58_c11) rfl ?_
      refine regI hl (Eq.mpr (z58_g26_e _ (fun i => l.getD i undef) _) h) ?_
      clear h hl
      intro l H hl h
      refine thenN ?_
      refine retI rfl ?_
      refine thenR ?_
      refine thenR ?_
      exact h
    · clear h; intro h
      refine skipI rfl ?_
      refine thenN ?_
      refine seqI (c := z58_c13) rfl ?_
      refine regI hl (Eq.mpr (z58_g27_e _ (fun i => l.getD i undef) _) h) ?_
      clear h hl
      intro l H hl h
      refine thenN ?_
      refine retI rfl ?_
      refine thenR ?_
      exact h
  · clear h; intro h
    refine skipI rfl ?_
    refine thenN ?_
    refine seqI (c := z58_c15) rfl ?_
    refine seqI (c := z58_c16) rfl ?_
    refine regI hl (Eq.mpr (z58_g28_e _ (fun i => l.getD i undef) _) h) ?_
    clear h hl
    intro l H hl h
    refine thenN ?_
    refine condI (c := z58_c18) rfl h ?_ ?_
    · clear h; intro h
      refine seqI (c := z58_c19) rfl ?_
      refine regI hl (Eq.mpr (z58_g29_e _ (fun i => l.getD i undef) _) h) ?_
      clear h hl
      intro l H hl h
      refine thenN ?_
      refine retI rfl ?_
      refine thenR ?_
      exact h
    · clear h; intro h
      refine skipI rfl ?_
      refine thenN ?_
      refine seqI (c := z58_c21) rfl ?_
      refine regI hl (Eq.mpr (z58_g30_e _ (fun i => l.getD i undef) _) h) ?_
      clear h hl
      intro l H hl h
      refine thenN ?_
      refine retI rfl ?_
      exact h
theorem z58_ok : okB z58_pi z58_c1 = true := by kernel_rfl
theorem z58_ev0 (x0 : Value) (R : Value → Heap → Prop) (H : Heap) (h : sounderref07_Check x0 R H) : EvL P N.sounderref07_Check #[x0] H R :=
  EvF_intro (args := [x0]) (k := 73) (rs := z58_rs) tab_ok mixed Try.func58 (show Try.f58.body = some z58_c1 by kernel_rfl) Try.call58 Try.ntmps58 (by kernel_rfl) (okCode_of _ z58_ok) rfl (z58_i R x0 H h)
theorem z58_ev (x0 : Value) (R : Value → Heap → Prop) (H : Heap) (h : sounderref07_Check x0 R H) : EvF P N.sounderref07_Check #[x0] H R := .inl (z58_ev0 x0 R H h)
/- 59: sounder/sounderref08.Persist -/
def z59_rs : List ResultVar := [.tmp 4]
noncomputable def z59_c2 : Code := subC (bodyC Try.f59) [0]
noncomputable def z59_c4 : Code := subC (bodyC Try.f59) [1, 0]
noncomputable def z59_c3 : Code := .seq z59_c4 Code.ret
noncomputable def z59_c1 : Code := .seq z59_c2 z59_c3
def z59_pi (_ : Nat) : Pl := .nil
def z59_g5 (S : Value → Value → Heap → Prop) (x0 x1 : Value) (H : Heap) : Prop :=
  newE 36 (Value.cells x0) H fun v2 H1 =>
  S x1 v2 H1
theorem z59_g5_e (S : Value → Value → Heap → Prop) (x : Nat → Value) (H : Heap) : wpE tab P z59_pi z59_c2 (nQ fun l H => S (l.getD 1 undef) (l.getD 2 undef) H) ((List.range 10).map x) H = z59_g5 S (x 0) (x 1) H := by kernel_rfl
def z59_g6 (S : Value → Heap → Prop) (x1 x2 : Value) (H : Heap) : Prop :=
  bnd (ldE true 5 x2 H) fun v5 =>
  EvF P N.sounderref08_Base #[v5, (.int .i64 2), x1] H fun v7 H1 =>
  bnd (binV .int .mul (.int .i64 3) v7) fun v8 =>
  EvF P N.sounderref08_time #[v8] H1 fun v9 H2 =>
  S v9 H2
theorem z59_g6_e (S : Value → Heap → Prop) (x : Nat → Value) (H : Heap) : wpE tab P z59_pi z59_c4 (nQ fun l H => S (l.getD 4 undef) H) ((List.range 10).map x) H = z59_g6 S (x 1) (x 2) H := by kernel_rfl
def sounderref08_Persist (x0 x1 : Value) (R : Value → Heap → Prop) (H : Heap) : Prop :=
  z59_g5 (fun x1 x2 H => z59_g6 (fun x4 H => R x4 H) x1 x2 H) x0 x1 H
theorem z59_i (R : Value → Heap → Prop) (x0 x1 : Value) (H : Heap) (h : sounderref08_Persist x0 x1 R H) : wpE tab P z59_pi z59_c1 (retQ tab z59_rs R) [x0, x1, undef, undef, undef, undef, undef, undef, undef, undef] H := by
  obtain ⟨l, hl, el⟩ : ∃ l : List Value, l.length = 10 ∧ l = [x0, x1, undef, undef, undef, undef, undef, undef, undef, undef] := ⟨_, rfl, rfl⟩
  rw [← el]
  have h : (fun (x0 x1 : Value) => z59_g5 (fun x1 x2 H => z59_g6 (fun x4 H => R x4 H) x1 x2 H) x0 x1 H) (l.getD 0 undef) (l.getD 1 undef) := by rw [el]; exact h
  clear el
  refine seqI (c := z59_c1) rfl ?_
  refine regI hl (Eq.mpr (z59_g5_e _ (fun i => l.getD i undef) _) h) ?_
  clear h hl
  intro l H hl h
  refine thenN ?_
  refine seqI (c := z59_c3) rfl ?_
  refine regI hl (Eq.mpr (z59_g6_e _ (fun i => l.getD i undef) _) h) ?_
  clear h hl
  intro l H hl h
  refine thenN ?_
  refine retI rfl ?_
  exact h
theorem z59_ok : okB z59_pi z59_c1 = true := by kernel_rfl
theorem z59_ev0 (x0 x1 : Value) (R : Value → Heap → Prop) (H : Heap) (h : sounderref08_Persist x0 x1 R H) : EvL P N.sounderref08_Persist #[x0, x1] H R :=
  EvF_intro (args := [x0, x1]) (k := 8) (rs := z59_rs) tab_ok mixed Try.func59 (show Try.f59.body = some z59_c1 by kernel_rfl) Try.call59 Try.ntmps59 (by kernel_rfl) (okCode_of _ z59_ok) rfl (z59_i R x0 x1 H h)
theorem z59_ev (x0 x1 : Value) (R : Value → Heap → Prop) (H : Heap) (h : sounderref08_Persist x0 x1 R H) : EvF P N.sounderref08_Persist #[x0, x1] H R := .inl (z59_ev0 x0 x1 R H h)
/- 60: (*sounder/span.Set).first$1 -/
def z60_rs : List ResultVar := [.tmp 4]
noncomputable def z60_c2 : Code := subC (bodyC Try.f60) [0]
noncomputable def z60_c4 : Code := subC (bodyC Try.f60) [1, 0]
noncomputable def z60_c3 : Code := .seq z60_c4 Code.ret
noncomputable def z60_c1 : Code := .seq z60_c2 z60_c3
def z60_pi (i : Nat) : Pl := match i with
  | 1 => (ones [0, 1, 2, 3, 4, 5, 6, 7, 8, 9, 10] .nil)
  | _ => .nil
def z60_g5 (S : Value → Value → Value → Heap → Prop) (x0 x1 x2 : Value) (H : Heap) : Prop :=
  S x0 x1 x2 H
theorem z60_g5_e (S : Value → Value → Value → Heap → Prop) (x : Nat → Value) (H : Heap) : wpE tab P z60_pi z60_c2 (nQ fun l H => S (l.getD 0 undef) (l.getD 1 undef) (l.getD 2 undef) H) ((List.range 15).map x) H = z60_g5 S (x 0) (x 1) (x 2) H := by kernel_rfl
def z60_g6 (S : Value → Heap → Prop) (x0 x1 x2 : Value) (H : Heap) : Prop :=
  bnd (ldE false 1 x1 H) fun v5 =>
  bnd (nilV v5) fun v6 =>
  bnd (faV 1 v6) fun v7 =>
  bnd (ldE false 1 v7 H) fun v8 =>
  bnd (ixSV 2 v8 x0) fun v10 =>
  bnd (faV 1 v10) fun v11 =>
  bnd (ldE false 1 v11 H) fun v12 =>
  bnd (ldE false 1 x2 H) fun v13 =>
  bnd (binV .int .geq v12 v13) fun v14 =>
  S v14 H
theorem z60_g6_e (S : Value → Heap → Prop) (x : Nat → Value) (H : Heap) : wpE tab P z60_pi z60_c4 (nQ fun l H => S (l.getD 4 undef) H) ((List.range 15).map x) H = z60_g6 S (x 0) (x 1) (x 2) H := by kernel_rfl
def span_Set_first_1 (x0 x1 x2 : Value) (R : Value → Heap → Prop) (H : Heap) : Prop :=
  z60_g5 (fun x0 x1 x2 H => z60_g6 (fun x4 H => R x4 H) x0 x1 x2 H) x0 x1 x2 H
theorem z60_i (R : Value → Heap → Prop) (x0 x1 x2 : Value) (H : Heap) (h : span_Set_first_1 x0 x1 x2 R H) : wpE tab P z60_pi z60_c1 (retQ tab z60_rs R) [x0, x1, x2, undef, undef, undef, undef, undef, undef, undef, undef, undef, undef, undef, undef] H := by
  obtain ⟨l, hl, el⟩ : ∃ l : List Value, l.length = 15 ∧ l = [x0, x1, x2, undef, undef, undef, undef, undef, undef, undef, undef, undef, undef, undef, undef] := ⟨_, rfl, rfl⟩
  rw [← el]
  have h : (fun (x0 x1 x2 : Value) => z60_g5 (fun x0 x1 x2 H => z60_g6 (fun x4 H => R x4 H) x0 x1 x2 H) x0 x1 x2 H) (l.getD 0 undef) (l.getD 1 undef) (l.getD 2 undef) := by rw [el]; exact h
  clear el
  refine seqI (c := z60_c1) rfl ?_
  refine regI hl (Eq.mpr (z60_g5_e _ (fun i => l.getD i undef) _) h) ?_
  clear h hl
  intro l H hl h
  refine thenN ?_
  refine seqI (c := z60_c3) rfl ?_
  refine regI hl (Eq.mpr (z60_g6_e _ (fun i => l.getD i undef) _) h) ?_
  clear h hl
  intro l H hl h
  refine thenN ?_
  refine retI rfl ?_
  exact h
theorem z60_ok : okB z60_pi z60_c1 = true := by kernel_rfl
theorem z60_ev0 (x0 x1 x2 : Value) (R : Value → Heap → Prop) (H : Heap) (h : span_Set_first_1 x0 x1 x2 R H) : EvL P N.span_Set_first_1 #[x0, x1, x2] H R :=
  EvF_intro (args := [x0, x1, x2]) (k := 12) (rs := z60_rs) tab_ok mixed Try.func60 (show Try.f60.body = some z60_c1 by kernel_rfl) Try.call60 Try.ntmps60 (by kernel_rfl) (okCode_of _ z60_ok) rfl (z60_i R x0 x1 x2 H h)
theorem z60_ev (x0 x1 x2 : Value) (R : Value → Heap → Prop) (H : Heap) (h : span_Set_first_1 x0 x1 x2 R H) : EvF P N.span_Set_first_1 #[x0, x1, x2] H R := .inl (z60_ev0 x0 x1 x2 R H h)
end Go.Hc
