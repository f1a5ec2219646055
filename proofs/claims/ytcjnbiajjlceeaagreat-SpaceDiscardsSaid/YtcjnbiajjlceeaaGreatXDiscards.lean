/- SpaceDiscards: what is discarded is under way no more; nothing of it is told later. -/
import Derived.Test.YtcjnbiajjlceeaaGreatX19
import Derived.Test.YtcjnbiajjlceeaaGreatXDF
set_option linter.unusedSimpArgs false
set_option linter.unusedVariables false
namespace Go.Hc
open Go

theorem Inv.discard {r : Rn} {B C : Nat} (h : Inv r [] B C) : Inv { r with s := { r.s with L := [], lo := -1, ti := -1 } } (ints r.s.L) B C :=
  ⟨h.kn, h.up, h.nn, h.gr, fun n hn => by simp [ints] at hn, fun p hp => by simp at hp, fun n hn => by simp [ints] at hn, fun n hn => ⟨(h.apart n hn).1, (h.apart n hn).2.1⟩, fun n hn => by
    rcases hn with hn | hn | hn
    · exact h.told n (.inl hn)
    · exact h.told n (.inr (.inl hn))
    · exact h.inL n hn, by
    have := h.len
    show 0 + r.acked.length + r.lost.length + (ints r.s.L).length = r.sent.length
    simp only [ints, List.length_map, List.length_nil] at this ⊢
    omega, h.few, h.now⟩
section
variable {Hb : Heap} {b : Nat} {gone : List Int} {vg v2 : Value} {R : Value → Heap → Prop}
theorem dsc_end {K : Heap} {r : Rn} {B : Nat} (h : Sep Hb K [runA b r, lstA intE vg gone]) (hI : Inv r gone B B) (hg : gone.length ≤ 10000) (hR : ∀ H', Ext [] Hb H' → R (.bool true) H') : z7_g103 (fun x9 x13 x15 H => z7_l114 x9 x13 x15 R H) (ptr b) vg K := by
  obtain ⟨s, vs, va, vl, ho⟩ := runOpen h
  simp only [z7_g103, z7_l114]
  refine ⟨fun x K' => K' = K ∧ ∃ k : Nat, x = iv k ∧ k ≤ gone.length, fun x _ => (match x with | .int _ k => (gone.length - k).toNat | _ => 0), ⟨rfl, 0, rfl, by omega⟩, ?_⟩
  rintro x K' ⟨rfl, k, rfl, hk⟩
  have hv := (ho.s6 [5, 0, 1, 2, 3, 4] rfl).shI
  have l2 : ldE false 1 (.pointer (some ⟨b, 2, none⟩)) K' = some va := ld_ptr (own_blk ho.cells) runC_2
  have l3 : ldE false 1 (.pointer (some ⟨b, 3, none⟩)) K' = some vl := ld_ptr (own_blk ho.cells) runC_3
  simp only [z7_s104, z7_g105]
  try simp only [ew, Nat.reduceAdd, Nat.reduceMul, Nat.reduceLeDiff, Int.reduceBNe, Int.reduceBEq, Int.reduceLT, Int.reduceLE, hv.len]
  refine brV_d (fun hlt => ?_) (fun hge => ?_)
  · have hk' : k < gone.length := by omega
    have w4 : IntKind.i64.wrap ((k : Int) + 1) = ((k + 1 : Nat) : Int) := by rw [wrap_in (by omega)]; omega
    obtain ⟨bb, o, i1, i2⟩ := hv.at1 hk' (rfl : (k : Int) = k)
    have hga := hI.goneA _ (List.getElem_mem hk')
    simp only [z7_g106]
    try simp only [ew, Nat.reduceAdd, Nat.reduceMul, Nat.reduceLeDiff, Int.reduceBNe, Int.reduceBEq, Int.reduceLT, Int.reduceLE, l2, i1, i2]
    refine has_ev ho.b3.shI ?_
    rw [decide_eq_false hga.1]
    try simp only [ew, Nat.reduceAdd, Nat.reduceMul, Nat.reduceLeDiff, Int.reduceBNe, Int.reduceBEq, Int.reduceLT, Int.reduceLE, l3, i1, i2]
    refine has_ev ho.b4.shI ?_
    rw [decide_eq_false hga.2]
    try simp only [ew, Nat.reduceAdd, Nat.reduceMul, Nat.reduceLeDiff, Int.reduceBNe, Int.reduceBEq, Int.reduceLT, Int.reduceLE, z7_g108]
    try simp only [ew, Nat.reduceAdd, Nat.reduceMul, Nat.reduceLeDiff, Int.reduceBNe, Int.reduceBEq, Int.reduceLT, Int.reduceLE, bin_add, w4]
    exact ⟨⟨k + 1, rfl, by omega⟩, by show _ < _; omega⟩
  · simp only [z7_g109]
    exact works17_ev h fun K h => hR K h.only
theorem dsc_second {K : Heap} {r : Rn} {B : Nat} {k : List (Fin 5 → Int)} (hv : ShowA (intsE 5) Hb v2 k) (hin : ∀ y ∈ k, ∀ i, In64 (y i)) (h : Sep Hb K [runA b r, lstA intE vg gone]) (hI : Inv r gone B B) (hB : B ≤ 100) (hg : gone.length ≤ 10000) (hR : ∀ H', Ext [] Hb H' → R (.bool true) H') :
    z7_l118 v2 (ptr b) vg (.int .i64 0) R K := by
  simp only [z7_l118]
  have hsm := hv.small
  refine ⟨fun x K => ∃ (j : Nat) (r : Rn), x = iv j ∧ j ≤ 20 ∧ j ≤ k.length ∧ Inv r gone (B + j) (B + j) ∧ Sep Hb K [runA b r, lstA intE vg gone], fun x _ => (match x with | .int _ j => (20 - j).toNat | _ => 0), ⟨0, r, rfl, by omega, by omega, hI, h⟩, ?_⟩
  clear h hI
  rintro x K ⟨j, r, rfl, hj, hjk, hI, h⟩
  have hvK := hv.ext h.only
  simp only [z7_s98, z7_g99]
  try simp only [ew, Nat.reduceAdd, Nat.reduceMul, Nat.reduceLeDiff, Int.reduceBNe, Int.reduceBEq, Int.reduceLT, Int.reduceLE, hvK.len]
  refine brV_d (fun hlt => ?_) (fun hge => dsc_end h hI hg hR)
  try simp only [ew, Nat.reduceAdd, Nat.reduceMul, Nat.reduceLeDiff, Int.reduceBNe, Int.reduceBEq, Int.reduceLT, Int.reduceLE]
  refine brV_d (fun hlt2 => ?_) (fun hge => dsc_end h hI hg hR)
  have hj' : j < k.length := by omega
  have w4 : IntKind.i64.wrap ((j : Int) + 1) = ((j + 1 : Nat) : Int) := by rw [wrap_in (by omega)]; omega
  obtain ⟨bb, o, i1, i2⟩ := step_read hvK hj'
  simp only [z7_g100]
  try simp only [ew, Nat.reduceAdd, Nat.reduceMul, Nat.reduceLeDiff, Int.reduceBNe, Int.reduceBEq, Int.reduceLT, Int.reduceLE, i1, i2]
  refine step_sep h (hin _ (List.getElem_mem hj')) hI (by omega) fun K1 r1 hI1 _ h1 => ?_
  try simp only [ew, Nat.reduceAdd, Nat.reduceMul, Nat.reduceLeDiff, Int.reduceBNe, Int.reduceBEq, Int.reduceLT, Int.reduceLE, z7_g102]
  try simp only [ew, Nat.reduceAdd, Nat.reduceMul, Nat.reduceLeDiff, Int.reduceBNe, Int.reduceBEq, Int.reduceLT, Int.reduceLE, bin_add, w4]
  exact ⟨⟨j + 1, r1, rfl, by omega, by omega, hI1, h1⟩, by show _ < _; omega⟩
end
set_option maxHeartbeats 1000000 in
theorem Discards17_ev {Hb : Heap} {v v2 : Value} {room : Int} {l k : List (Fin 5 → Int)} {R : Value → Heap → Prop} (hroom : In64 room) (hv : ShowA (intsE 5) Hb v l) (hin : ∀ y ∈ l, ∀ i, In64 (y i)) (hv2 : ShowA (intsE 5) Hb v2 k) (hin2 : ∀ y ∈ k, ∀ i, In64 (y i))
    (hR : ∀ H', Ext [] Hb H' → R (.bool true) H') : EvL P N.sounderlaw17_SpaceDiscards #[iv room, v, v2] Hb R := by
  refine z7_ev0 _ _ _ _ _ ?_
  simp only [sounderlaw17_SpaceDiscards, z7_g81, z7_g82]
  refine Bring_ev hroom (by omega) ?_
  have hb := bring_r (i := room) (n := 40) (by omega)
  have w1 : IntKind.i64.wrap (1 + bring room 40) = 1 + bring room 40 := wrap_in (by omega)
  try simp only [ew, Nat.reduceAdd, Nat.reduceMul, Nat.reduceLeDiff, Int.reduceBNe, Int.reduceBEq, Int.reduceLT, Int.reduceLE, bin_add, w1]
  refine spNew_sep (Sep.nil Hb) (fun hbad => absurd ⟨by omega, by omega⟩ hbad) fun rm s K1 hr _ _ h => ?_
  have e0 : ((0 : Int) != 0) = false := rfl
  try simp only [ew, Nat.reduceAdd, Nat.reduceMul, Nat.reduceLeDiff, Int.reduceBNe, Int.reduceBEq, Int.reduceLT, Int.reduceLE, z7_g83]
  try simp only [ew, Nat.reduceAdd, Nat.reduceMul, Nat.reduceLeDiff, Int.reduceBNe, Int.reduceBEq, Int.reduceLT, Int.reduceLE, e0, z7_g85]
  try simp only [ew, Nat.reduceAdd, Nat.reduceMul, Nat.reduceLeDiff, Int.reduceBNe, Int.reduceBEq, Int.reduceLT, Int.reduceLE, run_build]
  generalize hK2 : newB K1 _ _ = K2
  have h2 := run_new (t := 31) h
  rw [hK2] at h2
  obtain ⟨b, hbb⟩ : ∃ b, b = K1.size := ⟨_, rfl⟩
  rw [← hbb] at h2 ⊢
  simp only [z7_g86, z7_l122]
  have hsm := hv.small
  refine ⟨fun x K => ∃ (i : Nat) (r : Rn), x = iv i ∧ i ≤ 50 ∧ i ≤ l.length ∧ Inv r [] i i ∧ Sep Hb K [runA b r], fun x _ => (match x with | .int _ i => (50 - i).toNat | _ => 0), ⟨0, rn0 rm, rfl, by omega, by omega, inv0 rm, h2⟩, ?_⟩
  clear h h2 hK2
  rintro x K ⟨i, r, rfl, hi60, hil, hI, h⟩
  have hvK := hv.ext h.only
  simp only [z7_s87, z7_g88]
  try simp only [ew, Nat.reduceAdd, Nat.reduceMul, Nat.reduceLeDiff, Int.reduceBNe, Int.reduceBEq, Int.reduceLT, Int.reduceLE, hvK.len]
  have nb : ∀ a : Int, (a != a) = false := fun a => by simp
  have second : z7_g92 (fun x2 x9 x11 x12 H => z7_g93 (fun x2 x9 x11 x12 x13 H => z7_g94 (fun x2 x9 x11 x12 x13 H => z7_g95 (fun x2 x9 x13 x122 H => brV x122
  (z7_g96 (fun x6 H => R x6 H) H)
  (z7_g97 (fun x2 x9 x13 x14 H => z7_l118 x2 x9 x13 x14 R H) x2 x9 x13 H)) x2 x9 x11 x12 x13 H) x2 x9 x11 x12 x13 H) x2 x9 x11 x12 H) v2 (ptr b) K := by
    obtain ⟨s, vs, va, vl, h⟩ := runOpen h
    have h := h.b1
    have ld0 : ∀ {K : Heap} {Q : Asr} {Qs : List Asr}, Sep Hb K (Q :: cellsA b (runC s vs va vl r.now) :: Qs) → ldE false 1 (.pointer (some ⟨b, 0, none⟩)) K = some (ptr s) := fun h => ld_ptr (own_blk h.b1.cells) runC_0
    have hmay := sp_mayL h
    have hLs : r.s.L.length ≤ 256 := by have := hmay.2.2.1; have := hmay.2.2.2.2; omega
    simp only [z7_g92]
    try simp only [ew, Nat.reduceAdd, Nat.reduceMul, Nat.reduceLeDiff, Int.reduceBNe, Int.reduceBEq, Int.reduceLT, Int.reduceLE, ld0 h]
    refine Last_sp h fun K h => ?_
    try simp only [ew, Nat.reduceAdd, Nat.reduceMul, Nat.reduceLeDiff, Int.reduceBNe, Int.reduceBEq, Int.reduceLT, Int.reduceLE, ld0 h]
    refine Greatest_sp h fun K h => ?_
    simp only [z7_g93]
    try simp only [ew, Nat.reduceAdd, Nat.reduceMul, Nat.reduceLeDiff, Int.reduceBNe, Int.reduceBEq, Int.reduceLT, Int.reduceLE, ld0 h]
    refine All_sp h fun K w h => ?_
    -- w, s, b, ..
    refine numbers_sep h (fun K h => h.shP) (by omega) fun K vg h => ?_
    -- vg, w, s, b, vs, va, vl
    have h := h.s4 [2, 3, 0, 1] rfl
    -- s, b, vg, w, vs, va, vl
    simp only [z7_g94]
    try simp only [ew, Nat.reduceAdd, Nat.reduceMul, Nat.reduceLeDiff, Int.reduceBNe, Int.reduceBEq, Int.reduceLT, Int.reduceLE, ld0 h]
    refine Discard_sp h fun K h => ?_
    simp only [z7_g95, sounderlaw17_SpaceDiscards_g95a]
    try simp only [ew, Nat.reduceAdd, Nat.reduceMul, Nat.reduceLeDiff, Int.reduceBNe, Int.reduceBEq, Int.reduceLT, Int.reduceLE, ld0 h]
    refine Flight_sp h fun K h => ?_
    try simp only [ew, Nat.reduceAdd, Nat.reduceMul, Nat.reduceLeDiff, Int.reduceBNe, Int.reduceBEq, Int.reduceLT, Int.reduceLE, show flight ([] : List Pkt) = 0 from rfl, nb, ld0 h]
    refine Elic_sp h fun K h => ?_
    try simp only [ew, Nat.reduceAdd, Nat.reduceMul, Nat.reduceLeDiff, Int.reduceBNe, Int.reduceBEq, Int.reduceLT, Int.reduceLE, show elic ([] : List Pkt) = 0 from rfl, nb, ld0 h]
    refine All_sp h fun K w2 h => ?_
    have hl0 : lenV w2 = some (iv 0) := h.shP.len
    have h := h.drop
    try simp only [ew, Nat.reduceAdd, Nat.reduceMul, Nat.reduceLeDiff, Int.reduceBNe, Int.reduceBEq, Int.reduceLT, Int.reduceLE, hl0, nb, sounderlaw17_SpaceDiscards_g95b]
    try simp only [ew, Nat.reduceAdd, Nat.reduceMul, Nat.reduceLeDiff, Int.reduceBNe, Int.reduceBEq, Int.reduceLT, Int.reduceLE, ld0 h]
    refine Loss_sp h fun K h => ?_
    try simp only [ew, Nat.reduceAdd, Nat.reduceMul, Nat.reduceLeDiff, Int.reduceBNe, Int.reduceBEq, Int.reduceLT, Int.reduceLE, nb, ld0 h]
    refine Time_sp h fun K h => ?_
    try simp only [ew, Nat.reduceAdd, Nat.reduceMul, Nat.reduceLeDiff, Int.reduceBNe, Int.reduceBEq, Int.reduceLT, Int.reduceLE, nb, sounderlaw17_SpaceDiscards_g95c]
    try simp only [ew, Nat.reduceAdd, Nat.reduceMul, Nat.reduceLeDiff, Int.reduceBNe, Int.reduceBEq, Int.reduceLT, Int.reduceLE, ld0 h]
    refine Last_sp h fun K h => ?_
    try simp only [ew, Nat.reduceAdd, Nat.reduceMul, Nat.reduceLeDiff, Int.reduceBNe, Int.reduceBEq, Int.reduceLT, Int.reduceLE, nb, ld0 h]
    refine Greatest_sp h fun K h => ?_
    try simp only [ew, Nat.reduceAdd, Nat.reduceMul, Nat.reduceLeDiff, Int.reduceBNe, Int.reduceBEq, Int.reduceLT, Int.reduceLE, nb, z7_g97]
    have hc := runClose (h.s7 [1, 0, 4, 5, 6, 2, 3] rfl)
    exact dsc_second hv2 hin2 (hc.s3 [0, 1, 2] rfl |>.b2.drop) hI.discard (by omega) (by simp [ints]; omega) hR
  refine brV_d (fun hlt => ?_) (fun hge => second)
  try simp only [ew, Nat.reduceAdd, Nat.reduceMul, Nat.reduceLeDiff, Int.reduceBNe, Int.reduceBEq, Int.reduceLT, Int.reduceLE]
  refine brV_d (fun hlt2 => ?_) (fun hge => second)
  clear second
  have hi' : i < l.length := by omega
  have w4 : IntKind.i64.wrap ((i : Int) + 1) = ((i + 1 : Nat) : Int) := by rw [wrap_in (by omega)]; omega
  obtain ⟨bb, o, i1, i2⟩ := step_read hvK hi'
  simp only [z7_g89]
  try simp only [ew, Nat.reduceAdd, Nat.reduceMul, Nat.reduceLeDiff, Int.reduceBNe, Int.reduceBEq, Int.reduceLT, Int.reduceLE, i1, i2]
  refine step_sep h (hin _ (List.getElem_mem hi')) hI (by omega) fun K1 r1 hI1 _ h1 => ?_
  try simp only [ew, Nat.reduceAdd, Nat.reduceMul, Nat.reduceLeDiff, Int.reduceBNe, Int.reduceBEq, Int.reduceLT, Int.reduceLE, z7_g91]
  try simp only [ew, Nat.reduceAdd, Nat.reduceMul, Nat.reduceLeDiff, Int.reduceBNe, Int.reduceBEq, Int.reduceLT, Int.reduceLE, bin_add, w4]
  exact ⟨⟨i + 1, r1, rfl, by omega, by omega, hI1, h1⟩, by show _ < _; omega⟩
end Go.Hc
