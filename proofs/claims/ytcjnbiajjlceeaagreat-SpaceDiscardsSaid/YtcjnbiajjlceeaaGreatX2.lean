/- The table of the types and functions; printed by gen.py. -/
import Derived.Test.YtcjnbiajjlceeaaGreatX1
import Derived.Test.YtcjnbiajjlceeaaGreatProg
set_option linter.unusedSimpArgs false
set_option linter.unusedVariables false
namespace Go.Hc
open Go Go.Proofs
noncomputable abbrev P : Program := Tryz.prog
abbrev N.main_main : FuncId := 0
abbrev N.gosem_cut : FuncId := 1
abbrev N.gosem_cut_init : FuncId := 2
abbrev N.sounderlaw17_SpaceBehind : FuncId := 3
abbrev N.sounderlaw17_SpaceGreatest : FuncId := 4
abbrev N.sounderlaw17_SpaceSkipped : FuncId := 5
abbrev N.sounderlaw17_SpaceOnce : FuncId := 6
abbrev N.sounderlaw17_SpaceDiscards : FuncId := 7
abbrev N.sounderlaw17_SpacePlays : FuncId := 8
abbrev N.sounderlaw17_SpaceKnown : FuncId := 9
abbrev N.space_New : FuncId := 10
abbrev N.sounderref00_Bring : FuncId := 11
abbrev N.sounderlaw17_run_step : FuncId := 12
abbrev N.space_Space_Greatest : FuncId := 13
abbrev N.space_Space_All : FuncId := 14
abbrev N.space_Space_Loss : FuncId := 15
abbrev N.sounderlaw17_works : FuncId := 16
abbrev N.space_Space_Lose : FuncId := 17
abbrev N.sounderlaw17_steady : FuncId := 18
abbrev N.sounderlaw17_has : FuncId := 19
abbrev N.space_Space_Last : FuncId := 20
abbrev N.space_Space_Ack : FuncId := 21
abbrev N.sounderlaw17_ack : FuncId := 22
abbrev N.sounderref00_EqInts : FuncId := 23
abbrev N.sounderlaw17_numbersOf : FuncId := 24
abbrev N.space_Space_Sent : FuncId := 25
abbrev N.sounderlaw17_packet : FuncId := 26
abbrev N.space_Space_Flight : FuncId := 27
abbrev N.space_Space_Eliciting : FuncId := 28
abbrev N.space_Space_Discard : FuncId := 29
abbrev N.space_Space_Time : FuncId := 30
abbrev N.sounderref17_New : FuncId := 31
abbrev N.sounderref05_Copy : FuncId := 32
abbrev N.sounderref17_Space_Sent : FuncId := 33
abbrev N.sounderref17_Space_Ack : FuncId := 34
abbrev N.sounderref17_Space_Lose : FuncId := 35
abbrev N.space_Space_Copy : FuncId := 36
abbrev N.sounderref17_Space_Copy : FuncId := 37
abbrev N.sounderref17_Space_Discard : FuncId := 38
abbrev N.sounderref09_Same : FuncId := 39
abbrev N.sounderlaw17_same : FuncId := 40
abbrev N.space_Space_May : FuncId := 41
abbrev N.space_Space_Persists : FuncId := 42
abbrev N.sent_New : FuncId := 43
abbrev N.span_New : FuncId := 44
abbrev N.sounderlaw17_run_ranges : FuncId := 45
abbrev N.sounderlaw17_run_take : FuncId := 46
abbrev N.space_Space_one : FuncId := 47
abbrev N.space_Space_Greatest_1 : FuncId := 48
abbrev N.space_Space_none : FuncId := 49
abbrev N.sent_Log_All : FuncId := 50
abbrev N.space_Space_Loss_1 : FuncId := 51
abbrev N.loss_Find : FuncId := 52
abbrev N.space_Space_dropped : FuncId := 53
abbrev N.space_Space_Lose_1 : FuncId := 54
abbrev N.space_Space_Last_1 : FuncId := 55
abbrev N.sent_Log_Last : FuncId := 56
abbrev N.frame_Check : FuncId := 57
abbrev N.space_Space_sentAll : FuncId := 58
abbrev N.space_Space_remember : FuncId := 59
abbrev N.space_Space_Ack_1 : FuncId := 60
abbrev N.frame_Has : FuncId := 61
abbrev N.sent_Log_Put : FuncId := 62
abbrev N.span_Set_Add : FuncId := 63
abbrev N.space_Space_Flight_1 : FuncId := 64
abbrev N.sent_Log_Flight : FuncId := 65
abbrev N.space_Space_Eliciting_1 : FuncId := 66
abbrev N.sent_Log_Eliciting : FuncId := 67
abbrev N.sent_Log_Clear : FuncId := 68
abbrev N.space_Space_Time_1 : FuncId := 69
abbrev N.sounderref06_New : FuncId := 70
abbrev N.sounderref04_New : FuncId := 71
abbrev N.sounderref06_Log_Copy : FuncId := 72
abbrev N.sounderref04_Set_Copy : FuncId := 73
abbrev N.sounderref06_Log_Put : FuncId := 74
abbrev N.sounderref04_Set_Add : FuncId := 75
abbrev N.sounderref05_Check : FuncId := 76
abbrev N.sounderref17_Space_known : FuncId := 77
abbrev N.sounderref06_Log_Oldest : FuncId := 78
abbrev N.sounderref04_Set_Cut : FuncId := 79
abbrev N.sounderref06_Log_All : FuncId := 80
abbrev N.sounderref05_Has : FuncId := 81
abbrev N.sounderref06_Log_Drop : FuncId := 82
abbrev N.sounderref09_Find : FuncId := 83
abbrev N.sent_Log_Copy : FuncId := 84
abbrev N.span_Set_Copy : FuncId := 85
abbrev N.sounderref06_Log_Clear : FuncId := 86
abbrev N.sounderref06_Log_Flight : FuncId := 87
abbrev N.sounderref06_Log_Eliciting : FuncId := 88
abbrev N.sounderref17_Space_May : FuncId := 89
abbrev N.sounderref17_Space_Persists : FuncId := 90
abbrev N.persist_Is : FuncId := 91
abbrev N.sent_Log_Between : FuncId := 92
abbrev N.loss_Check : FuncId := 93
abbrev N.loss_isTime : FuncId := 94
abbrev N.rtt_Check : FuncId := 95
abbrev N.loss_ruled : FuncId := 96
abbrev N.loss_Wait : FuncId := 97
abbrev N.sent_Log_Drop : FuncId := 98
abbrev N.sent_Log_none : FuncId := 99
abbrev N.frame_isNumber : FuncId := 100
abbrev N.frame_gaps : FuncId := 101
abbrev N.slices_ContainsFunc_Range : FuncId := 102
abbrev N.span_Set_Ranges : FuncId := 103
abbrev N.space_Space_sentAll_1 : FuncId := 104
abbrev N.sent_Log_Oldest : FuncId := 105
abbrev N.span_Set_Cut : FuncId := 106
abbrev N.frame_Has_1 : FuncId := 107
abbrev N.sent_may : FuncId := 108
abbrev N.sent_Log_pack : FuncId := 109
abbrev N.sent_Log_at : FuncId := 110
abbrev N.sent_Log_more : FuncId := 111
abbrev N.span_Set_none : FuncId := 112
abbrev N.span_is : FuncId := 113
abbrev N.span_Set_first : FuncId := 114
abbrev N.sort_Search : FuncId := 115
abbrev N.span_Set_Add_1 : FuncId := 116
abbrev N.slices_Replace_Range : FuncId := 117
abbrev N.sent_Log_total : FuncId := 118
abbrev N.sent_Log_Flight_1 : FuncId := 119
abbrev N.sent_Log_Eliciting_1 : FuncId := 120
abbrev N.sounderref04_Set_Ranges : FuncId := 121
abbrev N.sounderref06_May : FuncId := 122
abbrev N.sounderref04_is : FuncId := 123
abbrev N.sounderref04_added : FuncId := 124
abbrev N.sounderref05_number : FuncId := 125
abbrev N.sounderref06_Log_Get : FuncId := 126
abbrev N.sounderref09_Check : FuncId := 127
abbrev N.sounderref09_time : FuncId := 128
abbrev N.sounderref07_Check : FuncId := 129
abbrev N.sounderref09_Wait : FuncId := 130
abbrev N.slices_Clone_slot : FuncId := 131
abbrev N.slices_Clone_Range : FuncId := 132
abbrev N.sounderref10_Is : FuncId := 133
abbrev N.persist_Period : FuncId := 134
abbrev N.pto_Persist : FuncId := 135
abbrev N.sent_Log_each : FuncId := 136
abbrev N.sent_row_put : FuncId := 137
abbrev N.loss_Check_1 : FuncId := 138
abbrev N.slices_ContainsFunc_Packet : FuncId := 139
abbrev N.rtt_New : FuncId := 140
abbrev N.rtt_isTime : FuncId := 141
abbrev N.loss_ruled_1 : FuncId := 142
abbrev N.loss_ruled_2 : FuncId := 143
abbrev N.loss_ruled_3 : FuncId := 144
abbrev N.loss_ruled_4 : FuncId := 145
abbrev N.rtt_Greatest : FuncId := 146
abbrev N.sent_Log_slot : FuncId := 147
abbrev N.sent_Log_less : FuncId := 148
abbrev N.frame_gaps_1 : FuncId := 149
abbrev N.slices_IndexFunc_Range : FuncId := 150
abbrev N.slices_Collect_Range : FuncId := 151
abbrev N.span_Set_falling : FuncId := 152
abbrev N.slices_Delete_Range : FuncId := 153
abbrev N.sent_may_1 : FuncId := 154
abbrev N.sent_Log_count : FuncId := 155
abbrev N.span_Set_first_1 : FuncId := 156
abbrev N.slices_Insert_Range : FuncId := 157
abbrev N.slices_overlaps_Range : FuncId := 158
abbrev N.slices_rotateRight_Range : FuncId := 159
abbrev N.slices_startIdx_Range : FuncId := 160
abbrev N.sounderref07_time : FuncId := 161
abbrev N.sounderref07_Greatest : FuncId := 162
abbrev N.sounderref10_Period : FuncId := 163
abbrev N.sounderref08_Persist : FuncId := 164
abbrev N.sat_Is : FuncId := 165
abbrev N.persist_Period_1 : FuncId := 166
abbrev N.persist_pairs : FuncId := 167
abbrev N.pto_time : FuncId := 168
abbrev N.pto_Base : FuncId := 169
abbrev N.sent_Log_find : FuncId := 170
abbrev N.slices_IndexFunc_Packet : FuncId := 171
abbrev N.slices_AppendSeq_Range : FuncId := 172
abbrev N.span_Set_falling_1 : FuncId := 173
abbrev N.slices_rotateLeft_Range : FuncId := 174
abbrev N.sounderref01_Is : FuncId := 175
abbrev N.sounderref10_pair : FuncId := 176
abbrev N.sounderref08_time : FuncId := 177
abbrev N.sounderref08_Base : FuncId := 178
abbrev N.sat_Num : FuncId := 179
abbrev N.persist_pairs_1 : FuncId := 180
abbrev N.persist_pairs_2 : FuncId := 181
abbrev N.persist_pairs_2_1 : FuncId := 182
abbrev N.persist_pairs_3 : FuncId := 183
abbrev N.sent_Log_find_1 : FuncId := 184
abbrev N.slices_Reverse_Range : FuncId := 185
abbrev N.sounderref10_between : FuncId := 186
abbrev N.sat_clamp_int : FuncId := 187
abbrev N.runtime_boundsError_Error : FuncId := 188
abbrev N.runtime_boundsError_RuntimeError : FuncId := 189
abbrev N.runtime_errorString_Error : FuncId := 190
abbrev N.runtime_errorString_RuntimeError : FuncId := 191
abbrev N.runtime_plainError_Error : FuncId := 192
abbrev N.runtime_plainError_RuntimeError : FuncId := 193
abbrev N.runtime_errorAddressString_Error : FuncId := 194
abbrev N.runtime_errorAddressString_RuntimeError : FuncId := 195
abbrev N.runtime_TypeAssertionError_Error : FuncId := 196
abbrev N.runtime_TypeAssertionError_RuntimeError : FuncId := 197
abbrev N.runtime_PanicNilError_Error : FuncId := 198
abbrev N.runtime_PanicNilError_RuntimeError : FuncId := 199
abbrev N.internal_abi_Type_Align : FuncId := 200
abbrev N.internal_runtime_maps_unhashableTypeError_Error : FuncId := 201
abbrev N.internal_runtime_maps_unhashableTypeError_RuntimeError : FuncId := 202
abbrev N.span_Set_Count : FuncId := 203
abbrev N.sounderref04_Set_Count : FuncId := 204
abbrev N.internal_abi_Kind_String : FuncId := 205
noncomputable def tabT (t : TypeId) : Option TI :=
  match t with
  | 3 => some ⟨Tryz.t3, Tryz.t3.desc⟩
  | 4 => some ⟨Tryz.t4, Tryz.t4.desc⟩
  | 22 => some ⟨Tryz.t22, Tryz.t22.desc⟩
  | 23 => some ⟨Tryz.t23, Tryz.t23.desc⟩
  | 24 => some ⟨Tryz.t24, Tryz.t3.desc⟩
  | 29 => some ⟨Tryz.t29, Tryz.t29.desc⟩
  | 31 => some ⟨Tryz.t31, Tryz.t30.desc⟩
  | 33 => some ⟨Tryz.t33, Tryz.t33.desc⟩
  | 35 => some ⟨Tryz.t35, Tryz.t34.desc⟩
  | 37 => some ⟨Tryz.t37, Tryz.t37.desc⟩
  | 40 => some ⟨Tryz.t40, Tryz.t39.desc⟩
  | 45 => some ⟨Tryz.t45, Tryz.t44.desc⟩
  | 50 => some ⟨Tryz.t50, Tryz.t50.desc⟩
  | 52 => some ⟨Tryz.t52, Tryz.t51.desc⟩
  | 54 => some ⟨Tryz.t54, Tryz.t54.desc⟩
  | 75 => some ⟨Tryz.t75, Tryz.t75.desc⟩
  | 76 => some ⟨Tryz.t76, Tryz.t76.desc⟩
  | 78 => some ⟨Tryz.t78, Tryz.t77.desc⟩
  | 83 => some ⟨Tryz.t83, Tryz.t83.desc⟩
  | 90 => some ⟨Tryz.t90, Tryz.t90.desc⟩
  | 93 => some ⟨Tryz.t93, Tryz.t92.desc⟩
  | 117 => some ⟨Tryz.t117, Tryz.t117.desc⟩
  | 119 => some ⟨Tryz.t119, Tryz.t118.desc⟩
  | 121 => some ⟨Tryz.t121, Tryz.t120.desc⟩
  | 126 => some ⟨Tryz.t126, Tryz.t126.desc⟩
  | 128 => some ⟨Tryz.t128, Tryz.t127.desc⟩
  | 137 => some ⟨Tryz.t137, Tryz.t136.desc⟩
  | 138 => some ⟨Tryz.t138, Tryz.t138.desc⟩
  | 153 => some ⟨Tryz.t153, Tryz.t37.desc⟩
  | 168 => some ⟨Tryz.t168, Tryz.t168.desc⟩
  | _ => none
def tabE (t : TypeId) : Option (List Bool) :=
  match t with
  | 40 => some [true, true, true, false, false, false]
  | 45 => some [true, true, true, true, true]
  | _ => none
noncomputable def tab : Tab := ⟨tabT, tabE⟩
theorem tt3 : P.info? 3 = some Tryz.t3 ∧ P.underlying 3 = some Tryz.t3.desc ∧ ∀ z, Tryz.t3.zero = some z → z.cells.size = Tryz.t3.size :=
  ⟨by kernel_rfl, by kernel_rfl, fun z h => by cases h; rfl⟩
theorem tt4 : P.info? 4 = some Tryz.t4 ∧ P.underlying 4 = some Tryz.t4.desc ∧ ∀ z, Tryz.t4.zero = some z → z.cells.size = Tryz.t4.size :=
  ⟨by kernel_rfl, by kernel_rfl, fun z h => by cases h; rfl⟩
theorem tt22 : P.info? 22 = some Tryz.t22 ∧ P.underlying 22 = some Tryz.t22.desc ∧ ∀ z, Tryz.t22.zero = some z → z.cells.size = Tryz.t22.size :=
  ⟨by kernel_rfl, by kernel_rfl, fun z h => by cases h; rfl⟩
theorem tt23 : P.info? 23 = some Tryz.t23 ∧ P.underlying 23 = some Tryz.t23.desc ∧ ∀ z, Tryz.t23.zero = some z → z.cells.size = Tryz.t23.size :=
  ⟨by kernel_rfl, by kernel_rfl, fun z h => by cases h; rfl⟩
theorem tt24 : P.info? 24 = some Tryz.t24 ∧ P.underlying 24 = some Tryz.t3.desc ∧ ∀ z, Tryz.t24.zero = some z → z.cells.size = Tryz.t24.size :=
  ⟨by kernel_rfl, by kernel_rfl, fun z h => by cases h; rfl⟩
theorem tt29 : P.info? 29 = some Tryz.t29 ∧ P.underlying 29 = some Tryz.t29.desc ∧ ∀ z, Tryz.t29.zero = some z → z.cells.size = Tryz.t29.size :=
  ⟨by kernel_rfl, by kernel_rfl, fun z h => by cases h; rfl⟩
theorem tt31 : P.info? 31 = some Tryz.t31 ∧ P.underlying 31 = some Tryz.t30.desc ∧ ∀ z, Tryz.t31.zero = some z → z.cells.size = Tryz.t31.size :=
  ⟨by kernel_rfl, by kernel_rfl, fun z h => by cases h; rfl⟩
theorem tt33 : P.info? 33 = some Tryz.t33 ∧ P.underlying 33 = some Tryz.t33.desc ∧ ∀ z, Tryz.t33.zero = some z → z.cells.size = Tryz.t33.size :=
  ⟨by kernel_rfl, by kernel_rfl, fun z h => by cases h; rfl⟩
theorem tt35 : P.info? 35 = some Tryz.t35 ∧ P.underlying 35 = some Tryz.t34.desc ∧ ∀ z, Tryz.t35.zero = some z → z.cells.size = Tryz.t35.size :=
  ⟨by kernel_rfl, by kernel_rfl, fun z h => by cases h; rfl⟩
theorem tt37 : P.info? 37 = some Tryz.t37 ∧ P.underlying 37 = some Tryz.t37.desc ∧ ∀ z, Tryz.t37.zero = some z → z.cells.size = Tryz.t37.size :=
  ⟨by kernel_rfl, by kernel_rfl, fun z h => by cases h; rfl⟩
theorem tt40 : P.info? 40 = some Tryz.t40 ∧ P.underlying 40 = some Tryz.t39.desc ∧ ∀ z, Tryz.t40.zero = some z → z.cells.size = Tryz.t40.size :=
  ⟨by kernel_rfl, by kernel_rfl, fun z h => by cases h; rfl⟩
theorem tt45 : P.info? 45 = some Tryz.t45 ∧ P.underlying 45 = some Tryz.t44.desc ∧ ∀ z, Tryz.t45.zero = some z → z.cells.size = Tryz.t45.size :=
  ⟨by kernel_rfl, by kernel_rfl, fun z h => by cases h; rfl⟩
theorem tt50 : P.info? 50 = some Tryz.t50 ∧ P.underlying 50 = some Tryz.t50.desc ∧ ∀ z, Tryz.t50.zero = some z → z.cells.size = Tryz.t50.size :=
  ⟨by kernel_rfl, by kernel_rfl, fun z h => by cases h; rfl⟩
theorem tt52 : P.info? 52 = some Tryz.t52 ∧ P.underlying 52 = some Tryz.t51.desc ∧ ∀ z, Tryz.t52.zero = some z → z.cells.size = Tryz.t52.size :=
  ⟨by kernel_rfl, by kernel_rfl, fun z h => by cases h; rfl⟩
theorem tt54 : P.info? 54 = some Tryz.t54 ∧ P.underlying 54 = some Tryz.t54.desc ∧ ∀ z, Tryz.t54.zero = some z → z.cells.size = Tryz.t54.size :=
  ⟨by kernel_rfl, by kernel_rfl, fun z h => by cases h; rfl⟩
theorem tt75 : P.info? 75 = some Tryz.t75 ∧ P.underlying 75 = some Tryz.t75.desc ∧ ∀ z, Tryz.t75.zero = some z → z.cells.size = Tryz.t75.size :=
  ⟨by kernel_rfl, by kernel_rfl, fun z h => by cases h; rfl⟩
theorem tt76 : P.info? 76 = some Tryz.t76 ∧ P.underlying 76 = some Tryz.t76.desc ∧ ∀ z, Tryz.t76.zero = some z → z.cells.size = Tryz.t76.size :=
  ⟨by kernel_rfl, by kernel_rfl, fun z h => by cases h; rfl⟩
theorem tt78 : P.info? 78 = some Tryz.t78 ∧ P.underlying 78 = some Tryz.t77.desc ∧ ∀ z, Tryz.t78.zero = some z → z.cells.size = Tryz.t78.size :=
  ⟨by kernel_rfl, by kernel_rfl, fun z h => by cases h; rfl⟩
theorem tt83 : P.info? 83 = some Tryz.t83 ∧ P.underlying 83 = some Tryz.t83.desc ∧ ∀ z, Tryz.t83.zero = some z → z.cells.size = Tryz.t83.size :=
  ⟨by kernel_rfl, by kernel_rfl, fun z h => by cases h; rfl⟩
theorem tt90 : P.info? 90 = some Tryz.t90 ∧ P.underlying 90 = some Tryz.t90.desc ∧ ∀ z, Tryz.t90.zero = some z → z.cells.size = Tryz.t90.size :=
  ⟨by kernel_rfl, by kernel_rfl, fun z h => by cases h; rfl⟩
theorem tt93 : P.info? 93 = some Tryz.t93 ∧ P.underlying 93 = some Tryz.t92.desc ∧ ∀ z, Tryz.t93.zero = some z → z.cells.size = Tryz.t93.size :=
  ⟨by kernel_rfl, by kernel_rfl, fun z h => by cases h; rfl⟩
theorem tt117 : P.info? 117 = some Tryz.t117 ∧ P.underlying 117 = some Tryz.t117.desc ∧ ∀ z, Tryz.t117.zero = some z → z.cells.size = Tryz.t117.size :=
  ⟨by kernel_rfl, by kernel_rfl, fun z h => by cases h; rfl⟩
theorem tt119 : P.info? 119 = some Tryz.t119 ∧ P.underlying 119 = some Tryz.t118.desc ∧ ∀ z, Tryz.t119.zero = some z → z.cells.size = Tryz.t119.size :=
  ⟨by kernel_rfl, by kernel_rfl, fun z h => by cases h; rfl⟩
theorem tt121 : P.info? 121 = some Tryz.t121 ∧ P.underlying 121 = some Tryz.t120.desc ∧ ∀ z, Tryz.t121.zero = some z → z.cells.size = Tryz.t121.size :=
  ⟨by kernel_rfl, by kernel_rfl, fun z h => by cases h; rfl⟩
theorem tt126 : P.info? 126 = some Tryz.t126 ∧ P.underlying 126 = some Tryz.t126.desc ∧ ∀ z, Tryz.t126.zero = some z → z.cells.size = Tryz.t126.size :=
  ⟨by kernel_rfl, by kernel_rfl, fun z h => by cases h; rfl⟩
theorem tt128 : P.info? 128 = some Tryz.t128 ∧ P.underlying 128 = some Tryz.t127.desc ∧ ∀ z, Tryz.t128.zero = some z → z.cells.size = Tryz.t128.size :=
  ⟨by kernel_rfl, by kernel_rfl, fun z h => by cases h; rfl⟩
theorem tt137 : P.info? 137 = some Tryz.t137 ∧ P.underlying 137 = some Tryz.t136.desc ∧ ∀ z, Tryz.t137.zero = some z → z.cells.size = Tryz.t137.size :=
  ⟨by kernel_rfl, by kernel_rfl, fun z h => by cases h; rfl⟩
theorem tt138 : P.info? 138 = some Tryz.t138 ∧ P.underlying 138 = some Tryz.t138.desc ∧ ∀ z, Tryz.t138.zero = some z → z.cells.size = Tryz.t138.size :=
  ⟨by kernel_rfl, by kernel_rfl, fun z h => by cases h; rfl⟩
theorem tt153 : P.info? 153 = some Tryz.t153 ∧ P.underlying 153 = some Tryz.t37.desc ∧ ∀ z, Tryz.t153.zero = some z → z.cells.size = Tryz.t153.size :=
  ⟨by kernel_rfl, by kernel_rfl, fun z h => by cases h; rfl⟩
theorem tt168 : P.info? 168 = some Tryz.t168 ∧ P.underlying 168 = some Tryz.t168.desc ∧ ∀ z, Tryz.t168.zero = some z → z.cells.size = Tryz.t168.size :=
  ⟨by kernel_rfl, by kernel_rfl, fun z h => by cases h; rfl⟩
theorem te40 : EqOK P 40 [true, true, true, false, false, false] :=
  eqOK_struct (fs := #[{ name := "Number", type := 3, offset := 0, embedded := false, tag := "", pkgPath := "", byteOffset := 0 }, { name := "Time", type := 3, offset := 1, embedded := false, tag := "", pkgPath := "", byteOffset := 8 }, { name := "Size", type := 3, offset := 2, embedded := false, tag := "", pkgPath := "", byteOffset := 16 }, { name := "Eliciting", type := 4, offset := 3, embedded := false, tag := "", pkgPath := "", byteOffset := 24 }, { name := "Flight", type := 4, offset := 4, embedded := false, tag := "", pkgPath := "", byteOffset := 25 }, { name := "Ect", type := 4, offset := 5, embedded := false, tag := "", pkgPath := "", byteOffset := 26 }]) (by kernel_rfl) (by kernel_rfl) (by kernel_rfl) ⟨rfl, rfl, .inr ⟨rfl, .i64, by kernel_rfl⟩, rfl, rfl, .inr ⟨rfl, .i64, by kernel_rfl⟩, rfl, rfl, .inr ⟨rfl, .i64, by kernel_rfl⟩, rfl, rfl, .inl ⟨rfl, by kernel_rfl⟩, rfl, rfl, .inl ⟨rfl, by kernel_rfl⟩, rfl, rfl, .inl ⟨rfl, by kernel_rfl⟩, trivial⟩
theorem te45 : EqOK P 45 [true, true, true, true, true] :=
  eqOK_struct (fs := #[{ name := "Latest", type := 3, offset := 0, embedded := false, tag := "", pkgPath := "", byteOffset := 0 }, { name := "Min", type := 3, offset := 1, embedded := false, tag := "", pkgPath := "", byteOffset := 8 }, { name := "Smooth", type := 3, offset := 2, embedded := false, tag := "", pkgPath := "", byteOffset := 16 }, { name := "Var", type := 3, offset := 3, embedded := false, tag := "", pkgPath := "", byteOffset := 24 }, { name := "First", type := 3, offset := 4, embedded := false, tag := "", pkgPath := "", byteOffset := 32 }]) (by kernel_rfl) (by kernel_rfl) (by kernel_rfl) ⟨rfl, rfl, .inr ⟨rfl, .i64, by kernel_rfl⟩, rfl, rfl, .inr ⟨rfl, .i64, by kernel_rfl⟩, rfl, rfl, .inr ⟨rfl, .i64, by kernel_rfl⟩, rfl, rfl, .inr ⟨rfl, .i64, by kernel_rfl⟩, rfl, rfl, .inr ⟨rfl, .i64, by kernel_rfl⟩, trivial⟩
theorem tab_ok : TabOK P tab := by
  constructor
  · intro t ti h
    simp only [tab, tabT] at h
    split at h
    · cases h; exact tt3
    · cases h; exact tt4
    · cases h; exact tt22
    · cases h; exact tt23
    · cases h; exact tt24
    · cases h; exact tt29
    · cases h; exact tt31
    · cases h; exact tt33
    · cases h; exact tt35
    · cases h; exact tt37
    · cases h; exact tt40
    · cases h; exact tt45
    · cases h; exact tt50
    · cases h; exact tt52
    · cases h; exact tt54
    · cases h; exact tt75
    · cases h; exact tt76
    · cases h; exact tt78
    · cases h; exact tt83
    · cases h; exact tt90
    · cases h; exact tt93
    · cases h; exact tt117
    · cases h; exact tt119
    · cases h; exact tt121
    · cases h; exact tt126
    · cases h; exact tt128
    · cases h; exact tt137
    · cases h; exact tt138
    · cases h; exact tt153
    · cases h; exact tt168
    · cases h
  · intro t m h
    simp only [tab, tabE] at h
    split at h
    · cases h; exact te40
    · cases h; exact te45
    · cases h
theorem z158_ev {a b oa ob la ca lb cb : Nat} {x y : Array Value} {H : Heap} {R : Value → Heap → Prop} (hne : a ≠ b) (ha : own H a = some x) (hy : own H b = some y) (h0 : y.size ≠ 0) (hR : R (.bool false) H) :
    EvF P N.slices_overlaps_Range #[.slice (some ⟨a, oa, none⟩) la ca, .slice (some ⟨b, ob, none⟩) lb cb] H R :=
  EvF_overlaps (fn := Tryz.f158) (tS := 50) (tR := 4) (e := 93) (i := Tryz.t93) (by kernel_rfl) (by kernel_rfl) (by kernel_rfl) (by kernel_rfl) (by kernel_rfl) (by kernel_rfl) (by kernel_rfl) hne ha hy h0 hR
abbrev gd (l : List Value) (i : Nat) : Value := l.getD i undef
abbrev JQ := Exit → List Value → Heap → Prop
abbrev J0 := Heap → Prop
abbrev J1 := Value → J0
abbrev J2 := Value → J1
abbrev J3 := Value → J2
abbrev J4 := Value → J3
abbrev J5 := Value → J4
abbrev J6 := Value → J5
abbrev J7 := Value → J6
abbrev J8 := Value → J7
abbrev J9 := Value → J8
abbrev J10 := Value → J9
abbrev J11 := Value → J10
abbrev J12 := Value → J11
abbrev J13 := Value → J12
abbrev J14 := Value → J13
abbrev J15 := Value → J14
abbrev J16 := Value → J15
abbrev J17 := Value → J16
abbrev J18 := Value → J17
abbrev J19 := Value → J18
abbrev J20 := Value → J19
abbrev J21 := Value → J20
abbrev J22 := Value → J21
abbrev J23 := Value → J22
abbrev J24 := Value → J23
abbrev J25 := Value → J24
abbrev J26 := Value → J25
abbrev J27 := Value → J26
abbrev J28 := Value → J27
abbrev J29 := Value → J28
abbrev J30 := Value → J29
abbrev J31 := Value → J30
abbrev J32 := Value → J31
abbrev J33 := Value → J32
abbrev J34 := Value → J33
abbrev J35 := Value → J34
abbrev J36 := Value → J35
abbrev J37 := Value → J36
abbrev J38 := Value → J37
abbrev J39 := Value → J38
abbrev J40 := Value → J39
abbrev J41 := Value → J40
abbrev J42 := Value → J41
abbrev J43 := Value → J42
abbrev J44 := Value → J43
abbrev J45 := Value → J44
abbrev J46 := Value → J45
abbrev J47 := Value → J46
abbrev J48 := Value → J47
abbrev J49 := Value → J48
abbrev J50 := Value → J49
abbrev J51 := Value → J50
abbrev J52 := Value → J51
abbrev J53 := Value → J52
abbrev J54 := Value → J53
abbrev J55 := Value → J54
abbrev J56 := Value → J55
abbrev J57 := Value → J56
abbrev J58 := Value → J57
abbrev J59 := Value → J58
abbrev J60 := Value → J59
abbrev M0 := Heap → Nat
abbrev M1 := Value → M0
abbrev M2 := Value → M1
abbrev M3 := Value → M2
abbrev M4 := Value → M3
abbrev M5 := Value → M4
abbrev M6 := Value → M5
abbrev M7 := Value → M6
abbrev M8 := Value → M7
abbrev M9 := Value → M8
abbrev M10 := Value → M9
abbrev M11 := Value → M10
abbrev M12 := Value → M11
abbrev M13 := Value → M12
abbrev M14 := Value → M13
abbrev M15 := Value → M14
abbrev M16 := Value → M15
abbrev M17 := Value → M16
abbrev M18 := Value → M17
abbrev M19 := Value → M18
abbrev M20 := Value → M19
theorem regJ {τ : Tab} {P : Program} {π : Nat → Pl} {c : Code} {n : Nat} {l : List Value} {H : Heap} {Q : JQ} {G : List Value → Heap → Prop} {A : Prop} (hl : l.length = n) (he : wpE τ P π c (nQ G) ((List.range n).map (gd l)) H = A) (h : A)
    (hk : ∀ l' H', l'.length = n → G l' H' → Q .normal l' H') : wpE τ P π c Q l H := regI hl (he.mpr h) hk
noncomputable def sc (f : Func) (p : List Nat) : Code := subC (bodyC f) p
abbrev WE (π : Nat → Pl) (c : Code) (n : Nat) (G : List Value → Heap → Prop) (x : Nat → Value) (H : Heap) : Prop := wpE tab P π c (nQ G) ((List.range n).map x) H
def fr (a : List Value) (k : Nat) : List Value := a ++ List.replicate k undef
theorem fr_eq (a : List Value) (k : Nat) : fr a k = a ++ List.replicate k undef := rfl
theorem fj {π : Nat → Pl} {c : Code} {Q : JQ} {H : Heap} {a0 : List Value} {j n : Nat} {A : List Value → Prop} (hl : a0.length + j = n) (k : ∀ l, l.length = n → A l → wpE tab P π c Q l H) (h : A (fr a0 j)) : wpE tab P π c Q (fr a0 j) H := k _ (by simp [fr, hl]) h
theorem fjR {π : Nat → Pl} {c : Code} {Q : JQ} {Qm : Nat → JQ} {H : Heap} {a0 : List Value} {j n : Nat} {A : List Value → Prop} (hl : a0.length + j = n) (k : ∀ l, l.length = n → A l → wpR tab P π c Q Qm l H) (h : A (fr a0 j)) : wpR tab P π c Q Qm (fr a0 j) H := k _ (by simp [fr, hl]) h
section
variable {π : Nat → Pl} {c a b : Code} {n i id : Nat} {o : Operand} {l : List Value} {H : Heap} {Q : JQ} {K G : List Value → Heap → Prop} {A B : Prop} {Qm : Nat → JQ}
theorem sq (e : c = .seq a b) (h : wpE tab P π a (thenE (fun l H => wpE tab P π b Q l H) Q) l H) : wpE tab P π c Q l H := seqI e h
theorem rj (hl : l.length = n) (he : WE π c n G (gd l) H = A) (h : A) (hk : ∀ l' H', l'.length = n → G l' H' → Q .normal l' H') : wpE tab P π c Q l H := regI hl (he.mpr h) hk
theorem sr (e : c = .seq a b) (hl : l.length = n) (he : WE π a n G (gd l) H = A) (h : A) (hk : ∀ l' H', l'.length = n → G l' H' → wpE tab P π b Q l' H') : wpE tab P π c Q l H := seqI e (regI hl (he.mpr h) hk)
theorem bl (e : c = .block id b) (h : wpE tab P π b (blkE id Q) l H) : wpE tab P π c Q l H := blockI e h
theorem ex (e : c = .exit id) (h : Q (.exit id) l H) : wpE tab P π c Q l H := exitI e h
theorem sk (e : c = .skip) (h : Q .normal l H) : wpE tab P π c Q l H := skipI e h
theorem kN (e : c = .skip) (h : K l H) : wpE tab P π c (thenE K Q) l H := skipI e h
theorem rt (e : c = .ret) (h : Q .ret l H) : wpE tab P π c Q l H := retI e h
theorem cd (e : c = .cond o a b) (h : brV (evL l o) A B) (ha : A → wpE tab P π a Q l H) (hb : B → wpE tab P π b Q l H) : wpE tab P π c Q l H := condI e h ha hb
theorem tN (h : K l H) : thenE K Q .normal l H := h
theorem tX (h : Q (.exit i) l H) : thenE K Q (.exit i) l H := h
theorem tR (h : Q .ret l H) : thenE K Q .ret l H := h
theorem bN (h : Q .normal l H) : blkE id Q .normal l H := h
theorem bR (h : Q .ret l H) : blkE id Q .ret l H := h
theorem bX (h : Q .normal l H) : blkE id Q (.exit id) l H := blkX h
theorem bO (hn : Nat.beq i id = false) (h : Q (.exit i) l H) : blkE id Q (.exit i) l H := blkO hn h
theorem sqR (e : c = .seq a b) (h : wpR tab P π a (thenE (fun l H => wpR tab P π b Q Qm l H) Q) (fun m => thenE (fun l H => wpE tab P π b (Qm m) l H) (Qm m)) l H) : wpR tab P π c Q Qm l H := seqR e h
theorem blR (e : c = .block id b) (h : wpR tab P π b (blkE id Q) (fun m => blkE id (Qm m)) l H) : wpR tab P π c Q Qm l H := blockR e h
end
theorem mixed : P.follows .mixedOrders = true := by kernel_rfl
def ones : List Nat → Pl → Pl
  | [], p => p
  | i :: l, p => .one i (ones l p)
end Go.Hc
