/- The table of the types and functions; printed by gen.py. -/
import Derived.Test.YtchdnhbkjfdnmaaHcJ
import Derived.Test.YtchdnhbkjfdnmaaProg
set_option linter.unusedSimpArgs false
set_option linter.unusedVariables false
namespace Go.Hc
open Go Go.Proofs
noncomputable abbrev P : Program := Try.prog
abbrev N.main_main : FuncId := 0
abbrev N.gosem_cut : FuncId := 1
abbrev N.gosem_cut_init : FuncId := 2
abbrev N.sounderlaw06_SentOnce : FuncId := 3
abbrev N.sounderlaw06_SentSums : FuncId := 4
abbrev N.sounderlaw06_SentParts : FuncId := 5
abbrev N.sounderlaw06_SentRoom : FuncId := 6
abbrev N.sounderlaw06_SentPlays : FuncId := 7
abbrev N.sounderlaw06_SentKnown : FuncId := 8
abbrev N.sent_New : FuncId := 9
abbrev N.sounderref00_Bring : FuncId := 10
abbrev N.sent_Log_Put : FuncId := 11
abbrev N.sounderlaw06_one : FuncId := 12
abbrev N.sent_Log_Drop : FuncId := 13
abbrev N.sent_Log_Clear : FuncId := 14
abbrev N.sent_Log_Last : FuncId := 15
abbrev N.sounderlaw06_works : FuncId := 16
abbrev N.sent_Log_Get : FuncId := 17
abbrev N.sent_Log_Flight : FuncId := 18
abbrev N.sent_Log_Eliciting : FuncId := 19
abbrev N.sent_Log_Len : FuncId := 20
abbrev N.sent_Log_All : FuncId := 21
abbrev N.sent_Log_Between : FuncId := 22
abbrev N.sounderlaw06_equal : FuncId := 23
abbrev N.sounderref06_New : FuncId := 24
abbrev N.sounderref06_Log_Put : FuncId := 25
abbrev N.sounderref06_Log_Drop : FuncId := 26
abbrev N.sounderref06_Log_Copy : FuncId := 27
abbrev N.sent_Log_Copy : FuncId := 28
abbrev N.sounderref06_Log_Clear : FuncId := 29
abbrev N.sounderlaw06_same : FuncId := 30
abbrev N.sounderref06_Log_Between : FuncId := 31
abbrev N.sent_Log_Oldest : FuncId := 32
abbrev N.sent_Log_none : FuncId := 33
abbrev N.sent_may : FuncId := 34
abbrev N.sent_Log_pack : FuncId := 35
abbrev N.sent_Log_at : FuncId := 36
abbrev N.sent_Log_more : FuncId := 37
abbrev N.sent_Log_slot : FuncId := 38
abbrev N.sent_Log_less : FuncId := 39
abbrev N.sent_Log_total : FuncId := 40
abbrev N.sent_Log_Flight_1 : FuncId := 41
abbrev N.sent_Log_Eliciting_1 : FuncId := 42
abbrev N.sent_Log_Len_1 : FuncId := 43
abbrev N.sent_Log_each : FuncId := 44
abbrev N.sent_row_put : FuncId := 45
abbrev N.sounderref06_May : FuncId := 46
abbrev N.sounderref06_Log_All : FuncId := 47
abbrev N.sounderref06_Log_Get : FuncId := 48
abbrev N.slices_Clone_slot : FuncId := 49
abbrev N.sounderref06_Log_Oldest : FuncId := 50
abbrev N.sounderref06_Log_Flight : FuncId := 51
abbrev N.sounderref06_Log_Eliciting : FuncId := 52
abbrev N.sent_may_1 : FuncId := 53
abbrev N.sent_Log_count : FuncId := 54
abbrev N.sent_Log_find : FuncId := 55
abbrev N.sort_Search : FuncId := 56
abbrev N.sent_Log_find_1 : FuncId := 57
abbrev N.runtime_boundsError_Error : FuncId := 58
abbrev N.runtime_boundsError_RuntimeError : FuncId := 59
abbrev N.runtime_errorString_Error : FuncId := 60
abbrev N.runtime_errorString_RuntimeError : FuncId := 61
abbrev N.runtime_plainError_Error : FuncId := 62
abbrev N.runtime_plainError_RuntimeError : FuncId := 63
abbrev N.runtime_errorAddressString_Error : FuncId := 64
abbrev N.runtime_errorAddressString_RuntimeError : FuncId := 65
abbrev N.runtime_TypeAssertionError_Error : FuncId := 66
abbrev N.runtime_TypeAssertionError_RuntimeError : FuncId := 67
abbrev N.runtime_PanicNilError_Error : FuncId := 68
abbrev N.runtime_PanicNilError_RuntimeError : FuncId := 69
abbrev N.internal_abi_Type_Align : FuncId := 70
abbrev N.internal_runtime_maps_unhashableTypeError_Error : FuncId := 71
abbrev N.internal_runtime_maps_unhashableTypeError_RuntimeError : FuncId := 72
abbrev N.internal_abi_Kind_String : FuncId := 73
noncomputable def tabT (t : TypeId) : Option TI :=
  match t with
  | 3 => some ⟨Try.t3, Try.t3.desc⟩
  | 4 => some ⟨Try.t4, Try.t4.desc⟩
  | 22 => some ⟨Try.t22, Try.t22.desc⟩
  | 23 => some ⟨Try.t23, Try.t23.desc⟩
  | 24 => some ⟨Try.t24, Try.t3.desc⟩
  | 30 => some ⟨Try.t30, Try.t29.desc⟩
  | 37 => some ⟨Try.t37, Try.t37.desc⟩
  | 38 => some ⟨Try.t38, Try.t38.desc⟩
  | 39 => some ⟨Try.t39, Try.t39.desc⟩
  | 41 => some ⟨Try.t41, Try.t40.desc⟩
  | 44 => some ⟨Try.t44, Try.t44.desc⟩
  | 49 => some ⟨Try.t49, Try.t49.desc⟩
  | 54 => some ⟨Try.t54, Try.t53.desc⟩
  | 60 => some ⟨Try.t60, Try.t60.desc⟩
  | 62 => some ⟨Try.t62, Try.t61.desc⟩
  | 65 => some ⟨Try.t65, Try.t64.desc⟩
  | 66 => some ⟨Try.t66, Try.t66.desc⟩
  | 70 => some ⟨Try.t70, Try.t38.desc⟩
  | 73 => some ⟨Try.t73, Try.t72.desc⟩
  | 81 => some ⟨Try.t81, Try.t81.desc⟩
  | _ => none
def tabE (t : TypeId) : Option (List Bool) :=
  match t with
  | 30 => some [true, true, true, false, false, false]
  | _ => none
noncomputable def tab : Tab := ⟨tabT, tabE⟩
theorem tt3 : P.info? 3 = some Try.t3 ∧ P.underlying 3 = some Try.t3.desc ∧ ∀ z, Try.t3.zero = some z → z.cells.size = Try.t3.size :=
  ⟨by kernel_rfl, by kernel_rfl, fun z h => by cases h; rfl⟩
theorem tt4 : P.info? 4 = some Try.t4 ∧ P.underlying 4 = some Try.t4.desc ∧ ∀ z, Try.t4.zero = some z → z.cells.size = Try.t4.size :=
  ⟨by kernel_rfl, by kernel_rfl, fun z h => by cases h; rfl⟩
theorem tt22 : P.info? 22 = some Try.t22 ∧ P.underlying 22 = some Try.t22.desc ∧ ∀ z, Try.t22.zero = some z → z.cells.size = Try.t22.size :=
  ⟨by kernel_rfl, by kernel_rfl, fun z h => by cases h; rfl⟩
theorem tt23 : P.info? 23 = some Try.t23 ∧ P.underlying 23 = some Try.t23.desc ∧ ∀ z, Try.t23.zero = some z → z.cells.size = Try.t23.size :=
  ⟨by kernel_rfl, by kernel_rfl, fun z h => by cases h; rfl⟩
theorem tt24 : P.info? 24 = some Try.t24 ∧ P.underlying 24 = some Try.t3.desc ∧ ∀ z, Try.t24.zero = some z → z.cells.size = Try.t24.size :=
  ⟨by kernel_rfl, by kernel_rfl, fun z h => by cases h; rfl⟩
theorem tt30 : P.info? 30 = some Try.t30 ∧ P.underlying 30 = some Try.t29.desc ∧ ∀ z, Try.t30.zero = some z → z.cells.size = Try.t30.size :=
  ⟨by kernel_rfl, by kernel_rfl, fun z h => by cases h; rfl⟩
theorem tt37 : P.info? 37 = some Try.t37 ∧ P.underlying 37 = some Try.t37.desc ∧ ∀ z, Try.t37.zero = some z → z.cells.size = Try.t37.size :=
  ⟨by kernel_rfl, by kernel_rfl, fun z h => by cases h; rfl⟩
theorem tt38 : P.info? 38 = some Try.t38 ∧ P.underlying 38 = some Try.t38.desc ∧ ∀ z, Try.t38.zero = some z → z.cells.size = Try.t38.size :=
  ⟨by kernel_rfl, by kernel_rfl, fun z h => by cases h; rfl⟩
theorem tt39 : P.info? 39 = some Try.t39 ∧ P.underlying 39 = some Try.t39.desc ∧ ∀ z, Try.t39.zero = some z → z.cells.size = Try.t39.size :=
  ⟨by kernel_rfl, by kernel_rfl, fun z h => by cases h; rfl⟩
theorem tt41 : P.info? 41 = some Try.t41 ∧ P.underlying 41 = some Try.t40.desc ∧ ∀ z, Try.t41.zero = some z → z.cells.size = Try.t41.size :=
  ⟨by kernel_rfl, by kernel_rfl, fun z h => by cases h; rfl⟩
theorem tt44 : P.info? 44 = some Try.t44 ∧ P.underlying 44 = some Try.t44.desc ∧ ∀ z, Try.t44.zero = some z → z.cells.size = Try.t44.size :=
  ⟨by kernel_rfl, by kernel_rfl, fun z h => by cases h; rfl⟩
theorem tt49 : P.info? 49 = some Try.t49 ∧ P.underlying 49 = some Try.t49.desc ∧ ∀ z, Try.t49.zero = some z → z.cells.size = Try.t49.size :=
  ⟨by kernel_rfl, by kernel_rfl, fun z h => by cases h; rfl⟩
theorem tt54 : P.info? 54 = some Try.t54 ∧ P.underlying 54 = some Try.t53.desc ∧ ∀ z, Try.t54.zero = some z → z.cells.size = Try.t54.size :=
  ⟨by kernel_rfl, by kernel_rfl, fun z h => by cases h; rfl⟩
theorem tt60 : P.info? 60 = some Try.t60 ∧ P.underlying 60 = some Try.t60.desc ∧ ∀ z, Try.t60.zero = some z → z.cells.size = Try.t60.size :=
  ⟨by kernel_rfl, by kernel_rfl, fun z h => by cases h; rfl⟩
theorem tt62 : P.info? 62 = some Try.t62 ∧ P.underlying 62 = some Try.t61.desc ∧ ∀ z, Try.t62.zero = some z → z.cells.size = Try.t62.size :=
  ⟨by kernel_rfl, by kernel_rfl, fun z h => by cases h; rfl⟩
theorem tt65 : P.info? 65 = some Try.t65 ∧ P.underlying 65 = some Try.t64.desc ∧ ∀ z, Try.t65.zero = some z → z.cells.size = Try.t65.size :=
  ⟨by kernel_rfl, by kernel_rfl, fun z h => by cases h; rfl⟩
theorem tt66 : P.info? 66 = some Try.t66 ∧ P.underlying 66 = some Try.t66.desc ∧ ∀ z, Try.t66.zero = some z → z.cells.size = Try.t66.size :=
  ⟨by kernel_rfl, by kernel_rfl, fun z h => by cases h; rfl⟩
theorem tt70 : P.info? 70 = some Try.t70 ∧ P.underlying 70 = some Try.t38.desc ∧ ∀ z, Try.t70.zero = some z → z.cells.size = Try.t70.size :=
  ⟨by kernel_rfl, by kernel_rfl, fun z h => by cases h; rfl⟩
theorem tt73 : P.info? 73 = some Try.t73 ∧ P.underlying 73 = some Try.t72.desc ∧ ∀ z, Try.t73.zero = some z → z.cells.size = Try.t73.size :=
  ⟨by kernel_rfl, by kernel_rfl, fun z h => by cases h; rfl⟩
theorem tt81 : P.info? 81 = some Try.t81 ∧ P.underlying 81 = some Try.t81.desc ∧ ∀ z, Try.t81.zero = some z → z.cells.size = Try.t81.size :=
  ⟨by kernel_rfl, by kernel_rfl, fun z h => by cases h; rfl⟩
theorem te30 : EqOK P 30 [true, true, true, false, false, false] :=
  eqOK_struct (fs := #[{ name := "Number", type := 3, offset := 0, embedded := false, tag := "", pkgPath := "", byteOffset := 0 }, { name := "Time", type := 3, offset := 1, embedded := false, tag := "", pkgPath := "", byteOffset := 8 }, { name := "Size", type := 3, offset := 2, embedded := false, tag := "", pkgPath := "", byteOffset := 16 }, { name := "Eliciting", type := 4, offset := 3, embedded := false, tag := "", pkgPath := "", byteOffset := 24 }, { name := "Flight", type := 4, offset := 4, embedded := false, tag := "", pkgPath := "", byteOffset := 25 }, { name := "Ect", type := 4, offset := 5, embedded := false, tag := "", pkgPath := "", byteOffset := 26 }]) (by kernel_rfl) (by kernel_rfl) (by kernel_rfl) ⟨rfl, rfl, .inr ⟨rfl, .i64, by kernel_rfl⟩, rfl, rfl, .inr ⟨rfl, .i64, by kernel_rfl⟩, rfl, rfl, .inr ⟨rfl, .i64, by kernel_rfl⟩, rfl, rfl, .inl ⟨rfl, by kernel_rfl⟩, rfl, rfl, .inl ⟨rfl, by kernel_rfl⟩, rfl, rfl, .inl ⟨rfl, by kernel_rfl⟩, trivial⟩
theorem tab_ok : TabOK P tab := by
  constructor
  · intro t ti h
    simp only [tab, tabT] at h
    split at h
    · cases h; exact tt3
    · cases h; exact tt4
    · cases h; exact tt22
    · cases h; exact tt23
    · cases h; exact tt24
    · cases h; exact tt30
    · cases h; exact tt37
    · cases h; exact tt38
    · cases h; exact tt39
    · cases h; exact tt41
    · cases h; exact tt44
    · cases h; exact tt49
    · cases h; exact tt54
    · cases h; exact tt60
    · cases h; exact tt62
    · cases h; exact tt65
    · cases h; exact tt66
    · cases h; exact tt70
    · cases h; exact tt73
    · cases h; exact tt81
    · cases h
  · intro t m h
    simp only [tab, tabE] at h
    split at h
    · cases h; exact te30
    · cases h
theorem mixed : P.follows .mixedOrders = true := by kernel_rfl
def ones : List Nat → Pl → Pl
  | [], p => p
  | i :: l, p => .one i (ones l p)
end Go.Hc
