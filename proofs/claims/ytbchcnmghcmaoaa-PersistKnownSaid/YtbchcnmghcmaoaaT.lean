/- The table of the types and functions; printed by gen.py. -/
import Derived.Test.YtbchcnmghcmaoaaHcQ
import Derived.Test.YtbchcnmghcmaoaaProg
set_option linter.unusedSimpArgs false
set_option linter.unusedVariables false
namespace Go.Hc
open Go Go.Proofs
noncomputable abbrev P : Program := Try.prog
abbrev N.main_main : FuncId := 0
abbrev N.gosem_cut : FuncId := 1
abbrev N.gosem_cut_init : FuncId := 2
abbrev N.sounderlaw10_PersistMore : FuncId := 3
abbrev N.sounderlaw10_PersistIs : FuncId := 4
abbrev N.sounderlaw10_PersistKnown : FuncId := 5
abbrev N.sounderlaw10_PersistRuns : FuncId := 6
abbrev N.sounderlaw10_PersistQuiet : FuncId := 7
abbrev N.sounderlaw10_made : FuncId := 8
abbrev N.sounderref00_Bring : FuncId := 9
abbrev N.sounderlaw10_marks : FuncId := 10
abbrev N.persist_Period : FuncId := 11
abbrev N.sounderlaw10_works : FuncId := 12
abbrev N.sounderlaw10_at : FuncId := 13
abbrev N.persist_Is : FuncId := 14
abbrev N.sounderlaw10_four : FuncId := 15
abbrev N.sounderlaw10_PersistTells : FuncId := 16
abbrev N.sounderlaw10_is : FuncId := 17
abbrev N.sounderlaw10_set : FuncId := 18
abbrev N.sounderlaw10_none : FuncId := 19
abbrev N.span_Set_Has : FuncId := 20
abbrev N.span_Set_Add : FuncId := 21
abbrev N.loss_Check : FuncId := 22
abbrev N.sat_Is : FuncId := 23
abbrev N.persist_Period_1 : FuncId := 24
abbrev N.persist_pairs : FuncId := 25
abbrev N.rtt_Check : FuncId := 26
abbrev N.pto_Persist : FuncId := 27
abbrev N.sounderlaw10_sets : FuncId := 28
abbrev N.sounderref10_Period : FuncId := 29
abbrev N.sounderref10_Is : FuncId := 30
abbrev N.span_New : FuncId := 31
abbrev N.span_Set_at : FuncId := 32
abbrev N.span_Set_none : FuncId := 33
abbrev N.span_is : FuncId := 34
abbrev N.span_Set_first : FuncId := 35
abbrev N.sort_Search : FuncId := 36
abbrev N.span_Set_Add_1 : FuncId := 37
abbrev N.slices_Replace_Range : FuncId := 38
abbrev N.loss_Check_1 : FuncId := 39
abbrev N.loss_isTime : FuncId := 40
abbrev N.slices_ContainsFunc_Packet : FuncId := 41
abbrev N.sat_Num : FuncId := 42
abbrev N.persist_pairs_1 : FuncId := 43
abbrev N.persist_pairs_2 : FuncId := 44
abbrev N.persist_pairs_2_1 : FuncId := 45
abbrev N.slices_ContainsFunc_Range : FuncId := 46
abbrev N.span_Set_Ranges : FuncId := 47
abbrev N.persist_pairs_3 : FuncId := 48
abbrev N.rtt_New : FuncId := 49
abbrev N.rtt_isTime : FuncId := 50
abbrev N.pto_time : FuncId := 51
abbrev N.pto_Base : FuncId := 52
abbrev N.sounderref04_New : FuncId := 53
abbrev N.sounderref04_Set_Add : FuncId := 54
abbrev N.sounderref09_Check : FuncId := 55
abbrev N.sounderref01_Is : FuncId := 56
abbrev N.sounderref10_pair : FuncId := 57
abbrev N.sounderref07_Check : FuncId := 58
abbrev N.sounderref08_Persist : FuncId := 59
abbrev N.span_Set_first_1 : FuncId := 60
abbrev N.slices_Insert_Range : FuncId := 61
abbrev N.slices_overlaps_Range : FuncId := 62
abbrev N.slices_rotateRight_Range : FuncId := 63
abbrev N.slices_startIdx_Range : FuncId := 64
abbrev N.slices_IndexFunc_Packet : FuncId := 65
abbrev N.sat_clamp_int : FuncId := 66
abbrev N.slices_IndexFunc_Range : FuncId := 67
abbrev N.slices_Collect_Range : FuncId := 68
abbrev N.span_Set_falling : FuncId := 69
abbrev N.sounderref04_is : FuncId := 70
abbrev N.sounderref04_added : FuncId := 71
abbrev N.sounderref09_time : FuncId := 72
abbrev N.sounderref10_between : FuncId := 73
abbrev N.sounderref07_time : FuncId := 74
abbrev N.sounderref08_time : FuncId := 75
abbrev N.sounderref08_Base : FuncId := 76
abbrev N.slices_rotateLeft_Range : FuncId := 77
abbrev N.slices_AppendSeq_Range : FuncId := 78
abbrev N.span_Set_falling_1 : FuncId := 79
abbrev N.slices_Reverse_Range : FuncId := 80
abbrev N.runtime_boundsError_Error : FuncId := 81
abbrev N.runtime_boundsError_RuntimeError : FuncId := 82
abbrev N.runtime_errorString_Error : FuncId := 83
abbrev N.runtime_errorString_RuntimeError : FuncId := 84
abbrev N.runtime_plainError_Error : FuncId := 85
abbrev N.runtime_plainError_RuntimeError : FuncId := 86
abbrev N.runtime_errorAddressString_Error : FuncId := 87
abbrev N.runtime_errorAddressString_RuntimeError : FuncId := 88
abbrev N.runtime_TypeAssertionError_Error : FuncId := 89
abbrev N.runtime_TypeAssertionError_RuntimeError : FuncId := 90
abbrev N.runtime_PanicNilError_Error : FuncId := 91
abbrev N.runtime_PanicNilError_RuntimeError : FuncId := 92
abbrev N.internal_abi_Type_Align : FuncId := 93
abbrev N.internal_runtime_maps_unhashableTypeError_Error : FuncId := 94
abbrev N.internal_runtime_maps_unhashableTypeError_RuntimeError : FuncId := 95
abbrev N.span_Set_Count : FuncId := 96
abbrev N.sounderref04_Set_Count : FuncId := 97
abbrev N.internal_abi_Kind_String : FuncId := 98
noncomputable def tabT (t : TypeId) : Option TI :=
  match t with
  | 3 => some ⟨Try.t3, Try.t3.desc⟩
  | 4 => some ⟨Try.t4, Try.t4.desc⟩
  | 23 => some ⟨Try.t23, Try.t23.desc⟩
  | 24 => some ⟨Try.t24, Try.t24.desc⟩
  | 25 => some ⟨Try.t25, Try.t25.desc⟩
  | 28 => some ⟨Try.t28, Try.t28.desc⟩
  | 36 => some ⟨Try.t36, Try.t35.desc⟩
  | 38 => some ⟨Try.t38, Try.t37.desc⟩
  | 45 => some ⟨Try.t45, Try.t44.desc⟩
  | 46 => some ⟨Try.t46, Try.t46.desc⟩
  | 54 => some ⟨Try.t54, Try.t3.desc⟩
  | 57 => some ⟨Try.t57, Try.t57.desc⟩
  | 63 => some ⟨Try.t63, Try.t63.desc⟩
  | 75 => some ⟨Try.t75, Try.t74.desc⟩
  | 77 => some ⟨Try.t77, Try.t77.desc⟩
  | 82 => some ⟨Try.t82, Try.t82.desc⟩
  | 90 => some ⟨Try.t90, Try.t90.desc⟩
  | 103 => some ⟨Try.t103, Try.t102.desc⟩
  | _ => none
def tabE (t : TypeId) : Option (List Bool) :=
  match t with
  | 24 => some [true, true, true]
  | 36 => some [true, true, true, true, true]
  | 38 => some [true, true, true, false, false, false]
  | _ => none
noncomputable def tab : Tab := ⟨tabT, tabE⟩
theorem tt3 : P.info? 3 = some Try.t3 ∧ P.underlying 3 = some Try.t3.desc ∧ ∀ z, Try.t3.zero = some z → z.cells.size = Try.t3.size :=
  ⟨by kernel_rfl, by kernel_rfl, fun z h => by cases h; rfl⟩
theorem tt4 : P.info? 4 = some Try.t4 ∧ P.underlying 4 = some Try.t4.desc ∧ ∀ z, Try.t4.zero = some z → z.cells.size = Try.t4.size :=
  ⟨by kernel_rfl, by kernel_rfl, fun z h => by cases h; rfl⟩
theorem tt23 : P.info? 23 = some Try.t23 ∧ P.underlying 23 = some Try.t23.desc ∧ ∀ z, Try.t23.zero = some z → z.cells.size = Try.t23.size :=
  ⟨by kernel_rfl, by kernel_rfl, fun z h => by cases h; rfl⟩
theorem tt24 : P.info? 24 = some Try.t24 ∧ P.underlying 24 = some Try.t24.desc ∧ ∀ z, Try.t24.zero = some z → z.cells.size = Try.t24.size :=
  ⟨by kernel_rfl, by kernel_rfl, fun z h => by cases h; rfl⟩
theorem tt25 : P.info? 25 = some Try.t25 ∧ P.underlying 25 = some Try.t25.desc ∧ ∀ z, Try.t25.zero = some z → z.cells.size = Try.t25.size :=
  ⟨by kernel_rfl, by kernel_rfl, fun z h => by cases h; rfl⟩
theorem tt28 : P.info? 28 = some Try.t28 ∧ P.underlying 28 = some Try.t28.desc ∧ ∀ z, Try.t28.zero = some z → z.cells.size = Try.t28.size :=
  ⟨by kernel_rfl, by kernel_rfl, fun z h => by cases h; rfl⟩
theorem tt36 : P.info? 36 = some Try.t36 ∧ P.underlying 36 = some Try.t35.desc ∧ ∀ z, Try.t36.zero = some z → z.cells.size = Try.t36.size :=
  ⟨by kernel_rfl, by kernel_rfl, fun z h => by cases h; rfl⟩
theorem tt38 : P.info? 38 = some Try.t38 ∧ P.underlying 38 = some Try.t37.desc ∧ ∀ z, Try.t38.zero = some z → z.cells.size = Try.t38.size :=
  ⟨by kernel_rfl, by kernel_rfl, fun z h => by cases h; rfl⟩
theorem tt45 : P.info? 45 = some Try.t45 ∧ P.underlying 45 = some Try.t44.desc ∧ ∀ z, Try.t45.zero = some z → z.cells.size = Try.t45.size :=
  ⟨by kernel_rfl, by kernel_rfl, fun z h => by cases h; rfl⟩
theorem tt46 : P.info? 46 = some Try.t46 ∧ P.underlying 46 = some Try.t46.desc ∧ ∀ z, Try.t46.zero = some z → z.cells.size = Try.t46.size :=
  ⟨by kernel_rfl, by kernel_rfl, fun z h => by cases h; rfl⟩
theorem tt54 : P.info? 54 = some Try.t54 ∧ P.underlying 54 = some Try.t3.desc ∧ ∀ z, Try.t54.zero = some z → z.cells.size = Try.t54.size :=
  ⟨by kernel_rfl, by kernel_rfl, fun z h => by cases h; rfl⟩
theorem tt57 : P.info? 57 = some Try.t57 ∧ P.underlying 57 = some Try.t57.desc ∧ ∀ z, Try.t57.zero = some z → z.cells.size = Try.t57.size :=
  ⟨by kernel_rfl, by kernel_rfl, fun z h => by cases h; rfl⟩
theorem tt63 : P.info? 63 = some Try.t63 ∧ P.underlying 63 = some Try.t63.desc ∧ ∀ z, Try.t63.zero = some z → z.cells.size = Try.t63.size :=
  ⟨by kernel_rfl, by kernel_rfl, fun z h => by cases h; rfl⟩
theorem tt75 : P.info? 75 = some Try.t75 ∧ P.underlying 75 = some Try.t74.desc ∧ ∀ z, Try.t75.zero = some z → z.cells.size = Try.t75.size :=
  ⟨by kernel_rfl, by kernel_rfl, fun z h => by cases h; rfl⟩
theorem tt77 : P.info? 77 = some Try.t77 ∧ P.underlying 77 = some Try.t77.desc ∧ ∀ z, Try.t77.zero = some z → z.cells.size = Try.t77.size :=
  ⟨by kernel_rfl, by kernel_rfl, fun z h => by cases h; rfl⟩
theorem tt82 : P.info? 82 = some Try.t82 ∧ P.underlying 82 = some Try.t82.desc ∧ ∀ z, Try.t82.zero = some z → z.cells.size = Try.t82.size :=
  ⟨by kernel_rfl, by kernel_rfl, fun z h => by cases h; rfl⟩
theorem tt90 : P.info? 90 = some Try.t90 ∧ P.underlying 90 = some Try.t90.desc ∧ ∀ z, Try.t90.zero = some z → z.cells.size = Try.t90.size :=
  ⟨by kernel_rfl, by kernel_rfl, fun z h => by cases h; rfl⟩
theorem tt103 : P.info? 103 = some Try.t103 ∧ P.underlying 103 = some Try.t102.desc ∧ ∀ z, Try.t103.zero = some z → z.cells.size = Try.t103.size :=
  ⟨by kernel_rfl, by kernel_rfl, fun z h => by cases h; rfl⟩
theorem te24 : EqOK P 24 [true, true, true] :=
  eqOK_array (n := 3) (e := 3) (k := .i64) (by kernel_rfl) tt3.1 (by kernel_rfl) (by kernel_rfl) (by kernel_rfl)
theorem te36 : EqOK P 36 [true, true, true, true, true] :=
  eqOK_struct (fs := #[{ name := "Latest", type := 3, offset := 0, embedded := false, tag := "", pkgPath := "", byteOffset := 0 }, { name := "Min", type := 3, offset := 1, embedded := false, tag := "", pkgPath := "", byteOffset := 8 }, { name := "Smooth", type := 3, offset := 2, embedded := false, tag := "", pkgPath := "", byteOffset := 16 }, { name := "Var", type := 3, offset := 3, embedded := false, tag := "", pkgPath := "", byteOffset := 24 }, { name := "First", type := 3, offset := 4, embedded := false, tag := "", pkgPath := "", byteOffset := 32 }]) (by kernel_rfl) (by kernel_rfl) (by kernel_rfl) ⟨rfl, rfl, .inr ⟨rfl, .i64, by kernel_rfl⟩, rfl, rfl, .inr ⟨rfl, .i64, by kernel_rfl⟩, rfl, rfl, .inr ⟨rfl, .i64, by kernel_rfl⟩, rfl, rfl, .inr ⟨rfl, .i64, by kernel_rfl⟩, rfl, rfl, .inr ⟨rfl, .i64, by kernel_rfl⟩, trivial⟩
theorem te38 : EqOK P 38 [true, true, true, false, false, false] :=
  eqOK_struct (fs := #[{ name := "Number", type := 3, offset := 0, embedded := false, tag := "", pkgPath := "", byteOffset := 0 }, { name := "Time", type := 3, offset := 1, embedded := false, tag := "", pkgPath := "", byteOffset := 8 }, { name := "Size", type := 3, offset := 2, embedded := false, tag := "", pkgPath := "", byteOffset := 16 }, { name := "Eliciting", type := 4, offset := 3, embedded := false, tag := "", pkgPath := "", byteOffset := 24 }, { name := "Flight", type := 4, offset := 4, embedded := false, tag := "", pkgPath := "", byteOffset := 25 }, { name := "Ect", type := 4, offset := 5, embedded := false, tag := "", pkgPath := "", byteOffset := 26 }]) (by kernel_rfl) (by kernel_rfl) (by kernel_rfl) ⟨rfl, rfl, .inr ⟨rfl, .i64, by kernel_rfl⟩, rfl, rfl, .inr ⟨rfl, .i64, by kernel_rfl⟩, rfl, rfl, .inr ⟨rfl, .i64, by kernel_rfl⟩, rfl, rfl, .inl ⟨rfl, by kernel_rfl⟩, rfl, rfl, .inl ⟨rfl, by kernel_rfl⟩, rfl, rfl, .inl ⟨rfl, by kernel_rfl⟩, trivial⟩
theorem tab_ok : TabOK P tab := by
  constructor
  · intro t ti h
    simp only [tab, tabT] at h
    split at h
    · cases h; exact tt3
    · cases h; exact tt4
    · cases h; exact tt23
    · cases h; exact tt24
    · cases h; exact tt25
    · cases h; exact tt28
    · cases h; exact tt36
    · cases h; exact tt38
    · cases h; exact tt45
    · cases h; exact tt46
    · cases h; exact tt54
    · cases h; exact tt57
    · cases h; exact tt63
    · cases h; exact tt75
    · cases h; exact tt77
    · cases h; exact tt82
    · cases h; exact tt90
    · cases h; exact tt103
    · cases h
  · intro t m h
    simp only [tab, tabE] at h
    split at h
    · cases h; exact te24
    · cases h; exact te36
    · cases h; exact te38
    · cases h
theorem z62_ev {a b oa ob la ca lb cb : Nat} {x y : Array Value} {H : Heap} {R : Value → Heap → Prop} (hne : a ≠ b) (ha : own H a = some x) (hy : own H b = some y) (h0 : y.size ≠ 0) (hR : R (.bool false) H) :
    EvF P N.slices_overlaps_Range #[.slice (some ⟨a, oa, none⟩) la ca, .slice (some ⟨b, ob, none⟩) lb cb] H R :=
  EvF_overlaps (fn := Try.f62) (tS := 46) (tR := 4) (e := 45) (i := Try.t45) (by kernel_rfl) (by kernel_rfl) (by kernel_rfl) (by kernel_rfl) (by kernel_rfl) (by kernel_rfl) (by kernel_rfl) hne ha hy h0 hR
theorem mixed : P.follows .mixedOrders = true := by kernel_rfl
def ones : List Nat → Pl → Pl
  | [], p => p
  | i :: l, p => .one i (ones l p)
end Go.Hc
