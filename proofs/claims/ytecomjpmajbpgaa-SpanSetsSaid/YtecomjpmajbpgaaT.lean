/- The table of the types and functions; printed by gen.py. -/
import Derived.Test.YtecomjpmajbpgaaHcQ
import Derived.Test.YtecomjpmajbpgaaProg
set_option linter.unusedSimpArgs false
set_option linter.unusedVariables false
namespace Go.Hc
open Go Go.Proofs
noncomputable abbrev P : Program := Try.prog
abbrev N.main_main : FuncId := 0
abbrev N.gosem_cut : FuncId := 1
abbrev N.gosem_cut_init : FuncId := 2
abbrev N.sounderlaw04_SpanGreat : FuncId := 3
abbrev N.sounderlaw04_SpanSets : FuncId := 4
abbrev N.sounderlaw04_SpanTouch : FuncId := 5
abbrev N.sounderlaw04_SpanRoom : FuncId := 6
abbrev N.span_New : FuncId := 7
abbrev N.sounderref00_Bring : FuncId := 8
abbrev N.span_Set_Add : FuncId := 9
abbrev N.span_Set_Len : FuncId := 10
abbrev N.span_Set_Count : FuncId := 11
abbrev N.span_Set_Max : FuncId := 12
abbrev N.span_Set_Min : FuncId := 13
abbrev N.span_Set_Next : FuncId := 14
abbrev N.span_Set_Has : FuncId := 15
abbrev N.sounderlaw04_works : FuncId := 16
abbrev N.sounderlaw04_row : FuncId := 17
abbrev N.span_Set_Same : FuncId := 18
abbrev N.span_Set_Cut : FuncId := 19
abbrev N.sounderlaw04_bits : FuncId := 20
abbrev N.sounderlaw04_is : FuncId := 21
abbrev N.span_Set_Copy : FuncId := 22
abbrev N.span_Set_Ranges : FuncId := 23
abbrev N.sounderlaw04_equal : FuncId := 24
abbrev N.span_Set_none : FuncId := 25
abbrev N.span_is : FuncId := 26
abbrev N.span_Set_first : FuncId := 27
abbrev N.sort_Search : FuncId := 28
abbrev N.span_Set_Add_1 : FuncId := 29
abbrev N.slices_Replace_Range : FuncId := 30
abbrev N.span_Set_falling : FuncId := 31
abbrev N.span_Set_at : FuncId := 32
abbrev N.sounderlaw04_holds : FuncId := 33
abbrev N.slices_Equal_Range : FuncId := 34
abbrev N.slices_Delete_Range : FuncId := 35
abbrev N.slices_Clone_Range : FuncId := 36
abbrev N.slices_Collect_Range : FuncId := 37
abbrev N.span_Set_first_1 : FuncId := 38
abbrev N.slices_Insert_Range : FuncId := 39
abbrev N.slices_overlaps_Range : FuncId := 40
abbrev N.slices_rotateRight_Range : FuncId := 41
abbrev N.slices_startIdx_Range : FuncId := 42
abbrev N.span_Set_falling_1 : FuncId := 43
abbrev N.slices_AppendSeq_Range : FuncId := 44
abbrev N.slices_rotateLeft_Range : FuncId := 45
abbrev N.slices_Reverse_Range : FuncId := 46
abbrev N.runtime_boundsError_Error : FuncId := 47
abbrev N.runtime_boundsError_RuntimeError : FuncId := 48
abbrev N.runtime_errorString_Error : FuncId := 49
abbrev N.runtime_errorString_RuntimeError : FuncId := 50
abbrev N.runtime_plainError_Error : FuncId := 51
abbrev N.runtime_plainError_RuntimeError : FuncId := 52
abbrev N.runtime_errorAddressString_Error : FuncId := 53
abbrev N.runtime_errorAddressString_RuntimeError : FuncId := 54
abbrev N.runtime_TypeAssertionError_Error : FuncId := 55
abbrev N.runtime_TypeAssertionError_RuntimeError : FuncId := 56
abbrev N.runtime_PanicNilError_Error : FuncId := 57
abbrev N.runtime_PanicNilError_RuntimeError : FuncId := 58
abbrev N.internal_abi_Type_Align : FuncId := 59
abbrev N.internal_runtime_maps_unhashableTypeError_Error : FuncId := 60
abbrev N.internal_runtime_maps_unhashableTypeError_RuntimeError : FuncId := 61
abbrev N.internal_abi_Kind_String : FuncId := 62
noncomputable def tabT (t : TypeId) : Option TI :=
  match t with
  | 3 => some ⟨Try.t3, Try.t3.desc⟩
  | 4 => some ⟨Try.t4, Try.t4.desc⟩
  | 22 => some ⟨Try.t22, Try.t22.desc⟩
  | 23 => some ⟨Try.t23, Try.t23.desc⟩
  | 24 => some ⟨Try.t24, Try.t3.desc⟩
  | 34 => some ⟨Try.t34, Try.t34.desc⟩
  | 37 => some ⟨Try.t37, Try.t37.desc⟩
  | 40 => some ⟨Try.t40, Try.t40.desc⟩
  | 45 => some ⟨Try.t45, Try.t45.desc⟩
  | 48 => some ⟨Try.t48, Try.t47.desc⟩
  | 53 => some ⟨Try.t53, Try.t52.desc⟩
  | 65 => some ⟨Try.t65, Try.t65.desc⟩
  | _ => none
def tabE (t : TypeId) : Option (List Bool) :=
  match t with
  | 48 => some [true, true]
  | _ => none
noncomputable def tab : Tab := ⟨tabT, tabE⟩
theorem tt3 : P.info? 3 = some Try.t3 ∧ P.underlying 3 = some Try.t3.desc ∧ ∀ z, Try.t3.zero = some z → z.cells.size = Try.t3.size :=
  ⟨by kernel_rfl, by kernel_rfl, fun z h => by cases h; rfl⟩
theorem tt4 : P.info? 4 = some Try.t4 ∧ P.underlying 4 = some Try.t4.desc ∧ ∀ z, Try.t4.zero = some z → z.cells.size = Try.t4.size :=
  ⟨by kernel_rfl, by kernel_rfl, fun z h => by cases h; rfl⟩
theorem tt22 : P.info? 22 = some Try.t22 ∧ P.underlying 22 = some Try.t22.desc ∧ ∀ z, Try.t22.zero = some z → z.cells.size = Try.t22.size :=
  ⟨by kernel_rfl, by kernel_rfl, fun z h => by cases h; rfl⟩
theorem tt23 : P.info? 23 = some Try.t23 ∧ P.underlying 23 = some Try.t23.desc ∧ ∀ z, Try.t23.zero = some z → z.cells.size = Try.t23.size :=
  ⟨by kernel_rfl, by kernel_rfl, fun z h => by cases h; rfl⟩
theorem tt24 : P.info? 24 = some Try.t24 ∧ P.underlying 24 = some Try.t3.desc ∧ ∀ z, Try.t24.zero = some z → z.cells.size = Try.t24.size :=
  ⟨by kernel_rfl, by kernel_rfl, fun z h => by cases h; rfl⟩
theorem tt34 : P.info? 34 = some Try.t34 ∧ P.underlying 34 = some Try.t34.desc ∧ ∀ z, Try.t34.zero = some z → z.cells.size = Try.t34.size :=
  ⟨by kernel_rfl, by kernel_rfl, fun z h => by cases h; rfl⟩
theorem tt37 : P.info? 37 = some Try.t37 ∧ P.underlying 37 = some Try.t37.desc ∧ ∀ z, Try.t37.zero = some z → z.cells.size = Try.t37.size :=
  ⟨by kernel_rfl, by kernel_rfl, fun z h => by cases h; rfl⟩
theorem tt40 : P.info? 40 = some Try.t40 ∧ P.underlying 40 = some Try.t40.desc ∧ ∀ z, Try.t40.zero = some z → z.cells.size = Try.t40.size :=
  ⟨by kernel_rfl, by kernel_rfl, fun z h => by cases h; rfl⟩
theorem tt45 : P.info? 45 = some Try.t45 ∧ P.underlying 45 = some Try.t45.desc ∧ ∀ z, Try.t45.zero = some z → z.cells.size = Try.t45.size :=
  ⟨by kernel_rfl, by kernel_rfl, fun z h => by cases h; rfl⟩
theorem tt48 : P.info? 48 = some Try.t48 ∧ P.underlying 48 = some Try.t47.desc ∧ ∀ z, Try.t48.zero = some z → z.cells.size = Try.t48.size :=
  ⟨by kernel_rfl, by kernel_rfl, fun z h => by cases h; rfl⟩
theorem tt53 : P.info? 53 = some Try.t53 ∧ P.underlying 53 = some Try.t52.desc ∧ ∀ z, Try.t53.zero = some z → z.cells.size = Try.t53.size :=
  ⟨by kernel_rfl, by kernel_rfl, fun z h => by cases h; rfl⟩
theorem tt65 : P.info? 65 = some Try.t65 ∧ P.underlying 65 = some Try.t65.desc ∧ ∀ z, Try.t65.zero = some z → z.cells.size = Try.t65.size :=
  ⟨by kernel_rfl, by kernel_rfl, fun z h => by cases h; rfl⟩
theorem te48 : EqOK P 48 [true, true] :=
  eqOK_struct (fs := #[{ name := "Lo", type := 3, offset := 0, embedded := false, tag := "", pkgPath := "", byteOffset := 0 }, { name := "Hi", type := 3, offset := 1, embedded := false, tag := "", pkgPath := "", byteOffset := 8 }]) (by kernel_rfl) (by kernel_rfl) (by kernel_rfl) ⟨rfl, rfl, .inr ⟨rfl, .i64, by kernel_rfl⟩, rfl, rfl, .inr ⟨rfl, .i64, by kernel_rfl⟩, trivial⟩
theorem tab_ok : TabOK P tab := by
  constructor
  · intro t ti h
    simp only [tab, tabT] at h
    split at h
    · cases h; exact tt3
    · cases h; exact tt4
    · cases h; exact tt22
    · cases h; exact tt23
    · cases h; exact tt24
    · cases h; exact tt34
    · cases h; exact tt37
    · cases h; exact tt40
    · cases h; exact tt45
    · cases h; exact tt48
    · cases h; exact tt53
    · cases h; exact tt65
    · cases h
  · intro t m h
    simp only [tab, tabE] at h
    split at h
    · cases h; exact te48
    · cases h
theorem slices_overlaps_Range_ev {a b oa ob la ca lb cb : Nat} {x y : Array Value} {H : Heap} {R : Value → Heap → Prop} (hne : a ≠ b) (ha : own H a = some x) (hy : own H b = some y) (h0 : y.size ≠ 0) (hR : R (.bool false) H) :
    EvF P N.slices_overlaps_Range #[.slice (some ⟨a, oa, none⟩) la ca, .slice (some ⟨b, ob, none⟩) lb cb] H R :=
  EvF_overlaps (fn := Try.f40) (tS := 45) (tR := 4) (e := 48) (i := Try.t48) (by kernel_rfl) (by kernel_rfl) (by kernel_rfl) (by kernel_rfl) (by kernel_rfl) (by kernel_rfl) (by kernel_rfl) hne ha hy h0 hR
theorem mixed : P.follows .mixedOrders = true := by kernel_rfl
def ones : List Nat → Pl → Pl
  | [], p => p
  | i :: l, p => .one i (ones l p)
end Go.Hc
