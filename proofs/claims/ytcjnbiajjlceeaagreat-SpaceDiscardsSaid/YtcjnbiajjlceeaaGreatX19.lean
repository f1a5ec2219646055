/- A run: what is told; ranges of numbers that were sent. -/
import Derived.Test.YtcjnbiajjlceeaaGreatX18
import Derived.Test.YtcjnbiajjlceeaaGreatX10
set_option linter.unusedSimpArgs false
set_option linter.unusedVariables false
namespace Go.Hc
open Go

theorem Sep.shI {H0 K : Heap} {v : Value} {l : List Int} {Q : List Asr} (h : Sep H0 K (lstA intE v l :: Q)) : ShowA intE K v l := by obtain ⟨T, o⟩ := h.list; exact o.showA
theorem Sep.shP {H0 K : Heap} {v : Value} {l : List Pkt} {Q : List Asr} (h : Sep H0 K (lstA pktE v l :: Q)) : ShowA pktE K v l := by obtain ⟨T, o⟩ := h.list; exact o.showA
theorem Sep.shR {H0 K : Heap} {v : Value} {l : List Rng} {Q : List Asr} (h : Sep H0 K (lstA rngE v l :: Q)) : ShowA rngE K v l := by obtain ⟨T, o⟩ := h.list; exact o.showA
structure Rn where
  s : Sp
  sent : List Int
  acked : List Int
  lost : List Int
  now : Int
def runC (s : Nat) (vs va vl : Value) (now : Int) : Array Value := #[ptr s, vs, va, vl, iv 0, iv now]
section
variable {s : Nat} {vs va vl w : Value} {now x : Int}
theorem runC_0 : (runC s vs va vl now)[0]? = some (ptr s) := rfl
theorem runC_1 : (runC s vs va vl now)[1]? = some vs := rfl
theorem runC_2 : (runC s vs va vl now)[2]? = some va := rfl
theorem runC_3 : (runC s vs va vl now)[3]? = some vl := rfl
theorem runC_5 : (runC s vs va vl now)[5]? = some (iv now) := rfl
theorem runC_s : (runC s vs va vl now).size = 6 := rfl
theorem runC_w1 : splice (runC s vs va vl now) 1 [w] = runC s w va vl now := rfl
theorem runC_w2 : splice (runC s vs va vl now) 2 [w] = runC s vs w vl now := rfl
theorem runC_w3 : splice (runC s vs va vl now) 3 [w] = runC s vs va w now := rfl
theorem runC_w5 : splice (runC s vs va vl now) 5 [iv x] = runC s vs va vl x := rfl
end
def runL (b : Nat) (r : Rn) (i : Nat × Value × Value × Value) : List Asr := [cellsA b (runC i.1 i.2.1 i.2.2.1 i.2.2.2 r.now), spA i.1 r.s, lstA intE i.2.1 r.sent, lstA intE i.2.2.1 r.acked, lstA intE i.2.2.2 r.lost]
def runA (b : Nat) (r : Rn) : Asr := packA (runL b r)
def tookR (r : Rn) (ak : Bool) (M : List Pkt) : Rn := if ak = true then { r with acked := r.acked ++ ints M } else { r with lost := r.lost ++ ints M }
section
variable {H0 H : Heap} {b : Nat} {r : Rn} {Qs : List Asr} {R : Value → Heap → Prop}
theorem runOpen (h : Sep H0 H (runA b r :: Qs)) : ∃ s vs va vl, Sep H0 H (cellsA b (runC s vs va vl r.now) :: spA s r.s :: lstA intE vs r.sent :: lstA intE va r.acked :: lstA intE vl r.lost :: Qs) := by
  obtain ⟨i, h⟩ := h.op; exact ⟨_, _, _, _, h⟩
theorem runClose {s : Nat} {sp : Sp} {vs va vl : Value} {sent acked lost : List Int} {now : Int} (h : Sep H0 H (cellsA b (runC s vs va vl now) :: spA s sp :: lstA intE vs sent :: lstA intE va acked :: lstA intE vl lost :: Qs)) : Sep H0 H (runA b ⟨sp, sent, acked, lost, now⟩ :: Qs) :=
  Sep.cl (f := runL b ⟨sp, sent, acked, lost, now⟩) (s, vs, va, vl) h
theorem rise_take {M : List Pkt} (hr : RiseL M) {k : Nat} (hk : k < M.length) : M[k].num ∉ ints (M.take k) := by
  intro h
  obtain ⟨p, hp, e⟩ := mem_ints.1 h
  obtain ⟨j, hj, rfl⟩ := List.mem_take_iff_getElem.1 hp
  have := List.pairwise_iff_getElem.1 hr j k (by omega) hk (by omega)
  omega
theorem took_step {ak : Bool} {M : List Pkt} {k : Nat} (hk : k < M.length) : tookR r ak (M.take (k + 1)) = if ak = true then { tookR r ak (M.take k) with acked := (tookR r ak (M.take k)).acked ++ [M[k].num] } else { tookR r ak (M.take k) with lost := (tookR r ak (M.take k)).lost ++ [M[k].num] } := by
  have e : ints (M.take (k + 1)) = ints (M.take k) ++ [M[k].num] := by
    unfold ints; rw [List.take_add_one, List.getElem?_eq_getElem hk, Option.toList_some, List.map_append]; rfl
  cases ak with
  | true => simp only [tookR, if_true, e, List.append_assoc]
  | false => simp [tookR, e]
theorem took_facts {ak : Bool} {M : List Pkt} {k : Nat} (hk : k < M.length) (hr : RiseL M) (hn : ∀ p ∈ M, p.num ∈ r.sent ∧ p.num ∉ r.acked ∧ p.num ∉ r.lost) :
    M[k].num ∈ (tookR r ak (M.take k)).sent ∧ M[k].num ∉ (tookR r ak (M.take k)).acked ∧ M[k].num ∉ (tookR r ak (M.take k)).lost := by
  have h1 := hn _ (List.getElem_mem hk)
  have h2 := rise_take hr hk
  cases ak with
  | true => exact ⟨h1.1, by simp only [tookR, if_true, List.mem_append]; exact fun h => h.elim h1.2.1 h2, h1.2.2⟩
  | false =>
    refine ⟨by simpa [tookR] using h1.1, by simpa [tookR] using h1.2.1, ?_⟩
    have : (tookR r false (M.take k)).lost = r.lost ++ ints (M.take k) := by simp [tookR]
    rw [this, List.mem_append]; exact fun h => h.elim h1.2.2 h2
theorem took_len {ak : Bool} {M : List Pkt} : (tookR r ak M).acked.length ≤ r.acked.length + M.length ∧ (tookR r ak M).lost.length ≤ r.lost.length + M.length := by
  cases ak <;> simp [tookR, ints]
set_option maxHeartbeats 1000000 in
theorem take_sep {v : Value} {M : List Pkt} {ak : Bool} (h : Sep H0 H (runA b r :: Qs)) (hv : ∀ K, Sep H0 K Qs → ShowA pktE K v M) (hM : M.length ≤ 1000) (hr : RiseL M)
    (hn : ∀ p ∈ M, p.num ∈ r.sent ∧ p.num ∉ r.acked ∧ p.num ∉ r.lost) (hl : r.acked.length ≤ 1000 ∧ r.lost.length ≤ 1000) (hR : ∀ H', Sep H0 H' (runA b (tookR r ak M) :: Qs) → R (.bool true) H') :
    EvF P N.sounderlaw17_run_take #[ptr b, v, .bool ak] H R := by
  refine z46_ev _ _ _ _ _ ?_
  simp only [sounderlaw17_run_take, z46_g31, z46_g32, z46_l48]
  refine ⟨fun x K => ∃ k : Nat, k ≤ M.length ∧ x = iv k ∧ Sep H0 K (runA b (tookR r ak (M.take k)) :: Qs), fun x _ => (match x with | .int _ k => (M.length - k).toNat | _ => 0), ⟨0, by omega, rfl, ?_⟩, ?_⟩
  · have : tookR r ak (M.take 0) = r := by cases ak <;> simp [tookR, ints]
    rw [this]; exact h
  clear h
  rintro x K ⟨k, hk, rfl, h⟩
  have hvK := hv K h.drop
  simp only [z46_s33, z46_g34]
  try simp only [ew, Nat.reduceAdd, Nat.reduceMul, Nat.reduceLeDiff, Int.reduceBNe, Int.reduceBEq, Int.reduceLT, Int.reduceLE, hvK.len]
  refine brV_d (fun hlt => ?_) (fun hge => ?_)
  · have hk' : k < M.length := by omega
    have w4 : IntKind.i64.wrap ((k : Int) + 1) = ((k + 1 : Nat) : Int) := by rw [wrap_in (by omega)]; omega
    obtain ⟨bb, o, i1, i2, _⟩ := hvK.at6 hk' (rfl : (k : Int) = k)
    have hf := took_facts (r := r) (ak := ak) hk' hr hn
    have hs := took_step (r := r) (ak := ak) hk'
    have hlen := took_len (r := r) (ak := ak) (M := M.take k)
    have hlk : (M.take k).length ≤ 1000 := by rw [List.length_take]; omega
    obtain ⟨r1, hr1⟩ : ∃ r1, r1 = tookR r ak (M.take k) := ⟨_, rfl⟩
    rw [← hr1] at h hf hs hlen
    obtain ⟨s, vs, va, vl, h⟩ := runOpen h
    have q := own_blk h.cells
    simp only [z46_g41]
    try simp only [ew, Nat.reduceAdd, Nat.reduceMul, Nat.reduceLeDiff, Int.reduceBNe, Int.reduceBEq, Int.reduceLT, Int.reduceLE, i1, i2, z46_g42]
    try simp only [ew, Nat.reduceAdd, Nat.reduceMul, Nat.reduceLeDiff, Int.reduceBNe, Int.reduceBEq, Int.reduceLT, Int.reduceLE, ldE_f, q, runC_1]
    refine has_ev h.b2.shI ?_
    rw [decide_eq_true hf.1]
    try simp only [ew, Nat.reduceAdd, Nat.reduceMul, Nat.reduceLeDiff, Int.reduceBNe, Int.reduceBEq, Int.reduceLT, Int.reduceLE, ldE_f, q, runC_2]
    refine has_ev h.b3.shI ?_
    rw [decide_eq_false hf.2.1]
    try simp only [ew, Nat.reduceAdd, Nat.reduceMul, Nat.reduceLeDiff, Int.reduceBNe, Int.reduceBEq, Int.reduceLT, Int.reduceLE, ldE_f, q, runC_3]
    refine has_ev h.b4.shI ?_
    rw [decide_eq_false hf.2.2]
    try simp only [ew, Nat.reduceAdd, Nat.reduceMul, Nat.reduceLeDiff, Int.reduceBNe, Int.reduceBEq, Int.reduceLT, Int.reduceLE]
    -- the last is greater than the one ahead
    have nxt : brV (.bool false) (z46_g43 (fun x6 H => R x6 H) K)
        (z46_g44 (fun x0 x1 x2 x7 x8 x57 H => brV x57
          (z46_g45 (fun x0 x1 x2 x7 H => z46_s35 x0 x1 x2 x7 (fun z0 z1 z2 z7 H' => z0 = ptr b ∧ z1 = v ∧ z2 = .bool ak ∧ ((∃ k : Nat, k ≤ M.length ∧ z7 = iv k ∧ Sep H0 H' (runA b (tookR r ak (M.take k)) :: Qs)) ∧ (match z7 with | .int _ k => (M.length - k).toNat | _ => 0) < (match iv (k : Int) with | .int _ k => (M.length - k).toNat | _ => 0))) R H) x0 x1 x2 x7 x8 H)
          (z46_g46 (fun x0 x1 x2 x7 H => z46_s35 x0 x1 x2 x7 (fun z0 z1 z2 z7 H' => z0 = ptr b ∧ z1 = v ∧ z2 = .bool ak ∧ ((∃ k : Nat, k ≤ M.length ∧ z7 = iv k ∧ Sep H0 H' (runA b (tookR r ak (M.take k)) :: Qs)) ∧ (match z7 with | .int _ k => (M.length - k).toNat | _ => 0) < (match iv (k : Int) with | .int _ k => (M.length - k).toNat | _ => 0))) R H) x0 x1 x2 x7 x8 H)) (ptr b) v (.bool ak) (iv k) (iv M[k].num) K) := by
      simp only [brV_f, z46_g44]
      cases ak with
      | true =>
        simp only [if_true] at hs
        simp only [brV_t, z46_g45]
        try simp only [ew, Nat.reduceAdd, Nat.reduceMul, Nat.reduceLeDiff, Int.reduceBNe, Int.reduceBEq, Int.reduceLT, Int.reduceLE, ldE_f, q, runC_2]
        refine push_sep (E := intE) (x := M[k].num) h.b3 rfl (by omega) (by decide) (by decide) fun K2 v2 h2 => ?_
        obtain ⟨T, o2⟩ := h2.list
        have s2 : stE 1 (.pointer (some ⟨b, 2, none⟩)) v2 K2 = some (setB K2 b (runC s vs v2 vl r1.now)) := by
          rw [st_ptr h2.b1.cells (by rw [runC_s]; omega) o2.cell.1 o2.cell.2, runC_w2]
        try simp only [ew, Nat.reduceAdd, Nat.reduceMul, Nat.reduceLeDiff, Int.reduceBNe, Int.reduceBEq, Int.reduceLT, Int.reduceLE, s2, z46_s35, z46_g36]
        try simp only [ew, Nat.reduceAdd, Nat.reduceMul, Nat.reduceLeDiff, Int.reduceBNe, Int.reduceBEq, Int.reduceLT, Int.reduceLE, bin_add, w4]
        refine ⟨⟨k + 1, by omega, rfl, ?_⟩, by show _ < _; omega⟩
        rw [hs]
        exact runClose ((h2.b1.set (c' := runC s vs v2 vl r1.now)).s5 [0, 2, 3, 1, 4] rfl)
      | false =>
        simp only [Bool.false_eq_true, if_false] at hs
        simp only [brV_f, z46_g46]
        try simp only [ew, Nat.reduceAdd, Nat.reduceMul, Nat.reduceLeDiff, Int.reduceBNe, Int.reduceBEq, Int.reduceLT, Int.reduceLE, ldE_f, q, runC_3]
        refine push_sep (E := intE) (x := M[k].num) h.b4 rfl (by omega) (by decide) (by decide) fun K2 v2 h2 => ?_
        obtain ⟨T, o2⟩ := h2.list
        have s2 : stE 1 (.pointer (some ⟨b, 3, none⟩)) v2 K2 = some (setB K2 b (runC s vs va v2 r1.now)) := by
          rw [st_ptr h2.b1.cells (by rw [runC_s]; omega) o2.cell.1 o2.cell.2, runC_w3]
        try simp only [ew, Nat.reduceAdd, Nat.reduceMul, Nat.reduceLeDiff, Int.reduceBNe, Int.reduceBEq, Int.reduceLT, Int.reduceLE, s2, z46_s35, z46_g36]
        try simp only [ew, Nat.reduceAdd, Nat.reduceMul, Nat.reduceLeDiff, Int.reduceBNe, Int.reduceBEq, Int.reduceLT, Int.reduceLE, bin_add, w4]
        refine ⟨⟨k + 1, by omega, rfl, ?_⟩, by show _ < _; omega⟩
        rw [hs]
        exact runClose ((h2.b1.set (c' := runC s vs va v2 r1.now)).s5 [0, 2, 3, 4, 1] rfl)
    refine brG_d (fun hp => ?_) (fun hp => ?_)
    · have hk1 : k - 1 < M.length := by omega
      have w1 : IntKind.i64.wrap ((k : Int) - 1) = (k : Int) - 1 := wrap_in (by omega)
      obtain ⟨b3, o3, j1, j2, _⟩ := hvK.at6 hk1 (show (k : Int) - 1 = (k - 1 : Nat) by omega)
      have hlt2 := List.pairwise_iff_getElem.1 hr (k - 1) k hk1 hk' (by omega)
      have e : decide (M[k].num ≤ M[k - 1].num) = false := decide_eq_false (by omega)
      try simp only [ew, Nat.reduceAdd, Nat.reduceMul, Nat.reduceLeDiff, Int.reduceBNe, Int.reduceBEq, Int.reduceLT, Int.reduceLE, bin_sub, w1, j1, j2, e]
      exact nxt
    · exact nxt
  · have hk' : k = M.length := by omega
    subst hk'
    rw [List.take_length] at h
    simp only [z46_g47]
    exact hR K h
end
end Go.Hc
set_option linter.unusedSimpArgs false
set_option linter.unusedVariables false
namespace Go.Hc
open Go

def GoodR (sent : List Int) (rs : List Rng) : Prop := (rs.length = 1 ∨ rs.length = 2) ∧ (∀ r ∈ rs, r.1 ≤ r.2 ∧ ∀ n, r.1 ≤ n → n ≤ r.2 → n ∈ sent) ∧ rs.Pairwise fun a b => b.2 + 2 ≤ a.1
structure RI (sent : List Int) (out : List Rng) (k : Int) (i : Nat) : Prop where
  len : out.length = i ∧ i ≤ 2
  k1 : k < sent.length ∧ -5 ≤ k
  start : i = 0 → 0 ≤ k
  each : ∀ r ∈ out, r.1 ≤ r.2 ∧ ∀ n, r.1 ≤ n → n ≤ r.2 → n ∈ sent
  pw : out.Pairwise fun a b => b.2 + 2 ≤ a.1
  below : ∀ r ∈ out, ∀ j (_ : j < sent.length), (j : Int) ≤ k → sent[j] + 2 ≤ r.1
abbrev arr3 (a b c : Int) : Array Value := #[iv a, iv b, iv c]
section
variable {K : Heap} {A b : Nat} {s : Nat} {vs va vl : Value} {now x0 x1 x2 : Int} {sent : List Int}
theorem ix3 {j : Nat} (h : j < 3) : ixAV 1 3 (ptr A) (.int .i64 j) = some (.pointer (some ⟨A, j, none⟩)) := by
  have : j = 0 ∨ j = 1 ∨ j = 2 := by omega
  rcases this with rfl | rfl | rfl <;> rfl
theorem ix30 : ixAV 1 3 (ptr A) (.int .i64 0) = some (.pointer (some ⟨A, 0, none⟩)) := rfl
theorem ix31 : ixAV 1 3 (ptr A) (.int .i64 1) = some (.pointer (some ⟨A, 1, none⟩)) := rfl
theorem ix32 : ixAV 1 3 (ptr A) (.int .i64 2) = some (.pointer (some ⟨A, 2, none⟩)) := rfl
theorem arr3_0 : (arr3 x0 x1 x2)[0]? = some (iv x0) := rfl
theorem arr3_1 : (arr3 x0 x1 x2)[1]? = some (iv x1) := rfl
theorem arr3_2 : (arr3 x0 x1 x2)[2]? = some (iv x2) := rfl
theorem g45r_ev {S : Value → Value → Value → Value → Value → Value → Value → Heap → Prop} {x5 x7 : Value} {k : Int} {lo : Nat} (qb : blk K b = some (runC s vs va vl now)) (qA : blk K A = some (arr3 x0 x1 x2)) (hv : ShowA intE K vs sent)
    (h1 : In64 x1) (hlo : (lo : Int) ≤ k ∧ k < sent.length) (hb : ∀ n ∈ sent, 0 ≤ n ∧ n ≤ 1000000)
    (hS : ∀ t : Bool, (t = true → 0 < lo ∧ ∀ (h : lo < sent.length), sent[lo - 1] = sent[lo] - 1) → S (ptr b) (ptr A) x5 (iv k) x7 (iv lo) (.bool t) K) :
    z45_g45 S (ptr b) (ptr A) x5 (iv k) x7 (iv lo) K := by
  have hsm := hv.small
  have hlo' : lo < sent.length := by omega
  simp only [z45_g45]
  try simp only [ew, Nat.reduceAdd, Nat.reduceMul, Nat.reduceLeDiff, Int.reduceBNe, Int.reduceBEq, Int.reduceLT, Int.reduceLE]
  refine brV_d (fun hp => ?_) (fun hp => hS false (by simp))
  have w1 : IntKind.i64.wrap ((lo : Int) - 1) = ((lo - 1 : Nat) : Int) := by rw [wrap_in (by omega)]; omega
  obtain ⟨b1, o1, i1, i2⟩ := hv.at1 (i := lo - 1) (by omega) rfl
  obtain ⟨b2, o2, j1, j2⟩ := hv.at1 hlo' rfl
  have hn := hb _ (List.getElem_mem hlo')
  have w2 : IntKind.i64.wrap (sent[lo] - 1) = sent[lo] - 1 := wrap_in (by omega)
  have l1 : ldE false 1 (.pointer (some ⟨b, 1, none⟩)) K = some vs := ld_ptr qb runC_1
  have a1 : ldE false 1 (.pointer (some ⟨A, 1, none⟩)) K = some (iv x1) := ld_ptr qA arr3_1
  try simp only [ew, Nat.reduceAdd, Nat.reduceMul, Nat.reduceLeDiff, Int.reduceBNe, Int.reduceBEq, Int.reduceLT, Int.reduceLE, l1, bin_sub, w1, i1, i2, j1, j2, w2]
  refine brV_i (fun he => ?_) (fun he => hS false (by simp))
  have he' : sent[lo - 1] = sent[lo] - 1 := by simpa using he
  have w3 : IntKind.i64.wrap (k - lo) = k - lo := wrap_in (by omega)
  try simp only [ew, Nat.reduceAdd, Nat.reduceMul, Nat.reduceLeDiff, Int.reduceBNe, Int.reduceBEq, Int.reduceLT, Int.reduceLE, bin_sub, w3, ix31, a1]
  refine Bring_ev h1 (by omega) ?_
  try simp only [ew, Nat.reduceAdd, Nat.reduceMul, Nat.reduceLeDiff, Int.reduceBNe, Int.reduceBEq, Int.reduceLT, Int.reduceLE, l1, i2, j2]
  exact hS _ fun _ => ⟨by omega, fun _ => he'⟩
theorem up_two (hu : sent.Pairwise (· < ·)) {i j : Nat} (hij : i + 2 ≤ j) (hj : j < sent.length) : sent[i] + 2 ≤ sent[j] := by
  have h1 := List.pairwise_iff_getElem.1 hu i (i + 1) (by omega) (by omega) (by omega)
  have h2 := List.pairwise_iff_getElem.1 hu (i + 1) j (by omega) hj (by omega)
  omega
set_option maxHeartbeats 1000000 in
theorem ranges_sep {H0 H : Heap} {Qs : List Asr} {R : Value → Heap → Prop} (h : Sep H0 H (cellsA b (runC s vs va vl now) :: lstA intE vs sent :: Qs)) (h0 : In64 x0) (h1 : In64 x1) (h2 : In64 x2) (hpos : 0 < sent.length) (hsm : sent.length ≤ 10000)
    (hu : sent.Pairwise (· < ·)) (hb : ∀ n ∈ sent, 0 ≤ n ∧ n ≤ 1000000) (hR : ∀ H' v rs, GoodR sent rs → Sep H0 H' (lstA rngE v rs :: cellsA b (runC s vs va vl now) :: lstA intE vs sent :: Qs) → R v H') :
    EvF P N.sounderlaw17_run_ranges #[ptr b, .agg (arr3 x0 x1 x2)] H R := by
  refine z45_ev _ _ _ _ ?_
  simp only [sounderlaw17_run_ranges, z45_g37, z45_g38]
  try simp only [ew, Nat.reduceAdd, Nat.reduceMul, Nat.reduceLeDiff, Int.reduceBNe, Int.reduceBEq, Int.reduceLT, Int.reduceLE]
  generalize hK : newB H _ _ = K
  obtain ⟨A, hA⟩ : ∃ A, A = H.size := ⟨_, rfl⟩
  have hn := h.newC (t := 33) (c := arr3 x0 x1 x2)
  rw [hK, ← hA] at hn
  rw [← hA]
  have ldr : ∀ {K : Heap} {Q : Asr}, Sep H0 K (Q :: cellsA b (runC s vs va vl now) :: lstA intE vs sent :: Qs) → ldE false 1 (.pointer (some ⟨b, 1, none⟩)) K = some vs := fun h => ld_ptr (own_blk h.b1.cells) runC_1
  have lda : ∀ {K : Heap} {Qs : List Asr}, Sep H0 K (cellsA A (arr3 x0 x1 x2) :: Qs) → ldE false 1 (.pointer (some ⟨A, 0, none⟩)) K = some (iv x0) ∧ ldE false 1 (.pointer (some ⟨A, 1, none⟩)) K = some (iv x1) ∧ ldE false 1 (.pointer (some ⟨A, 2, none⟩)) K = some (iv x2) := fun h =>
    ⟨ld_ptr (own_blk h.cells) arr3_0, ld_ptr (own_blk h.cells) arr3_1, ld_ptr (own_blk h.cells) arr3_2⟩
  have a := lda hn
  have l := ldr hn
  simp only [z45_g39]
  try simp only [ew, Nat.reduceAdd, Nat.reduceMul, Nat.reduceLeDiff, Int.reduceBNe, Int.reduceBEq, Int.reduceLT, Int.reduceLE, ix30, a.1, l, hn.b2.shI.len]
  refine Bring_ev h0 (by omega) ?_
  have hbr := bring_r (i := x0) (n := sent.length) (by omega)
  obtain ⟨k0, hk0⟩ : ∃ k, k = bring x0 sent.length := ⟨_, rfl⟩
  rw [← hk0] at hbr ⊢
  try simp only [ew, Nat.reduceAdd, Nat.reduceMul, Nat.reduceLeDiff, Int.reduceBNe, Int.reduceBEq, Int.reduceLT, Int.reduceLE, l, z45_g40, z45_l61]
  refine ⟨fun x5 x6 x7 K => ∃ (i : Nat) (k : Int) (out : List Rng), x6 = iv k ∧ x7 = iv i ∧ RI sent out k i ∧ Sep H0 K (lstA rngE x5 out :: cellsA A (arr3 x0 x1 x2) :: cellsA b (runC s vs va vl now) :: lstA intE vs sent :: Qs),
    fun _ _ x7 _ => (match x7 with | .int _ i => (2 - i).toNat | _ => 0), ⟨0, k0, [], rfl, rfl, ⟨⟨rfl, by omega⟩, by omega, fun _ => hbr.1, by simp, by simp, by simp⟩, hn.nilL⟩, ?_⟩
  clear hn a l hK
  rintro x5 x6 x7 K ⟨i, k, out, rfl, rfl, hI, h⟩
  have hlen := hI.len
  have hk1 := hI.k1
  simp only [z45_s41, z45_g42]
  try simp only [ew, Nat.reduceAdd, Nat.reduceMul, Nat.reduceLeDiff, Int.reduceBNe, Int.reduceBEq, Int.reduceLT, Int.reduceLE]
  -- the end
  have fin : ¬ ((i : Int) < 2 ∧ 0 ≤ k) → z45_g60 (fun x4 H => R x4 H) x5 K := fun hend => by
    simp only [z45_g60]
    refine hR K x5 out ⟨?_, hI.each, hI.pw⟩ h.b1.drop
    have : i ≠ 0 := fun e => by have := hI.start e; omega
    omega
  refine brV_d (fun hi2 => ?_) (fun hi2 => fin (fun h => hi2 h.1))
  try simp only [ew, Nat.reduceAdd, Nat.reduceMul, Nat.reduceLeDiff, Int.reduceBNe, Int.reduceBEq, Int.reduceLT, Int.reduceLE]
  refine brV_d (fun hk0 => ?_) (fun hk0 => fin (fun h => hk0 h.2))
  simp only [z45_g43, z45_l59]
  have hkk : k.toNat < sent.length := by omega
  have hkt : (k.toNat : Int) = k := by omega
  refine ⟨fun x8 K' => K' = K ∧ ∃ lo : Nat, x8 = iv lo ∧ (lo : Int) ≤ k ∧ ∀ (hl : lo < sent.length), sent[lo] ≤ sent[k.toNat] ∧ ∀ n, sent[lo] ≤ n → n ≤ sent[k.toNat] → n ∈ sent, fun x8 _ => (match x8 with | .int _ lo => lo.toNat | _ => 0),
    ⟨rfl, k.toNat, by rw [hkt], by omega, fun _ => ⟨Int.le_refl _, fun n a b => (show n = sent[k.toNat] by omega) ▸ List.getElem_mem hkk⟩⟩, ?_⟩
  rintro x8 K' ⟨rfl, lo, rfl, hlo, hrun⟩
  have hll : lo < sent.length := by omega
  have hr2 := hrun hll
  simp only [z45_s44]
  refine g45r_ev (own_blk h.b2.cells) (own_blk h.b1.cells) h.b3.shI h1 ⟨hlo, hk1.1⟩ hb fun t ht => ?_
  cases t with
  | true =>
    obtain ⟨hp, he⟩ := ht rfl
    have he := he hll
    have w1 : IntKind.i64.wrap ((lo : Int) - 1) = ((lo - 1 : Nat) : Int) := by rw [wrap_in (by omega)]; omega
    try simp only [ew, Nat.reduceAdd, Nat.reduceMul, Nat.reduceLeDiff, Int.reduceBNe, Int.reduceBEq, Int.reduceLT, Int.reduceLE, z45_g46]
    try simp only [ew, Nat.reduceAdd, Nat.reduceMul, Nat.reduceLeDiff, Int.reduceBNe, Int.reduceBEq, Int.reduceLT, Int.reduceLE, bin_sub, w1]
    refine ⟨⟨lo - 1, rfl, by omega, fun _ => ⟨by omega, fun n a b => ?_⟩⟩, by show _ < _; omega⟩
    by_cases e : n = sent[lo - 1]
    · rw [e]; exact List.getElem_mem _
    · exact hr2.2 n (by omega) b
  | false =>
    clear ht
    obtain ⟨b1, o1, i1, i2⟩ := h.b3.shI.at1 hll rfl
    obtain ⟨b2, o2, j1, j2⟩ := h.b3.shI.at1 (i := k.toNat) hkk (j := k) (by omega)
    have hbu : buildV #[(.int .i64 0), (.int .i64 0)] (every 1) [(0, iv sent[lo]), (1, iv sent[k.toNat])] = some (.agg (rngC (sent[lo], sent[k.toNat]))) := rfl
    have l := ldr (Q := cellsA A (arr3 x0 x1 x2)) h.drop
    try simp only [ew, Nat.reduceAdd, Nat.reduceMul, Nat.reduceLeDiff, Int.reduceBNe, Int.reduceBEq, Int.reduceLT, Int.reduceLE, z45_g47]
    try simp only [ew, Nat.reduceAdd, Nat.reduceMul, Nat.reduceLeDiff, Int.reduceBNe, Int.reduceBEq, Int.reduceLT, Int.reduceLE, l, i1, i2, j1, j2, hbu]
    refine bslE_sep (E := rngE) (vs := [_]) (l := [(sent[lo], sent[k.toNat])]) h rfl rfl (fun i hi => ?_) (by decide) (by decide) fun K3 u h3 => ?_
    · match i, hi with
      | 0, _ => rfl
    have l3 := ldr (Q := cellsA A (arr3 x0 x1 x2)) h3.drop.drop
    have i3 := h3.b4.shI.at1' hll rfl i1
    have j3 := h3.b4.shI.at1' (i := k.toNat) hkk (j := k) (by omega) j1
    try simp only [ew, Nat.reduceAdd, Nat.reduceMul, Nat.reduceLeDiff, Int.reduceBNe, Int.reduceBEq, Int.reduceLT, Int.reduceLE, l3, i3, j3]
    obtain ⟨T, hu3⟩ := h3.list
    refine appE_sep h3.b1 hu3.show ?_ (by decide) (by simp; omega) fun K4 v4 h4 => ?_
    · simp; omega
    -- v4, u, A, b, vs
    have l4 := ldr (Q := cellsA A (arr3 x0 x1 x2)) h4.drop.drop
    have i4 := h4.b4.shI.at1' hll rfl i1
    have j4 := h4.b4.shI.at1' (i := k.toNat) hkk (j := k) (by omega) j1
    try simp only [ew, Nat.reduceAdd, Nat.reduceMul, Nat.reduceLeDiff, Int.reduceBNe, Int.reduceBEq, Int.reduceLT, Int.reduceLE, l4, i4, j4]
    have a4 := lda h4.drop.drop
    have w1 : IntKind.i64.wrap ((lo : Int) - 2) = (lo : Int) - 2 := wrap_in (by omega)
    simp only [z45_g48]
    try simp only [ew, Nat.reduceAdd, Nat.reduceMul, Nat.reduceLeDiff, Int.reduceBNe, Int.reduceBEq, Int.reduceLT, Int.reduceLE, bin_sub, w1, ix32, a4.2.2]
    refine Bring_ev h2 (by omega) ?_
    have hc := bring_r (i := x2) (n := 4) (by omega)
    obtain ⟨c, hcc⟩ : ∃ c, c = bring x2 4 := ⟨_, rfl⟩
    rw [← hcc] at hc ⊢
    have w2 : IntKind.i64.wrap ((lo : Int) - 2 - c) = (lo : Int) - 2 - c := wrap_in (by omega)
    have w3 : IntKind.i64.wrap ((i : Int) + 1) = ((i + 1 : Nat) : Int) := by rw [wrap_in (by omega)]; omega
    simp only [z45_g49]
    try simp only [ew, Nat.reduceAdd, Nat.reduceMul, Nat.reduceLeDiff, Int.reduceBNe, Int.reduceBEq, Int.reduceLT, Int.reduceLE, bin_sub, bin_add, w2, w3]
    refine ⟨⟨i + 1, _, out ++ [(sent[lo], sent[k.toNat])], rfl, rfl, ⟨⟨by simp [hlen.1], by omega⟩, by omega, by omega, fun r hr => ?_, ?_, fun r hr j hj hjk => ?_⟩, h4.b1.drop⟩, by show _ < _; omega⟩
    · rcases List.mem_append.1 hr with hr | hr
      · exact hI.each r hr
      · rw [List.mem_singleton.1 hr]; exact hr2
    · rw [List.pairwise_append]
      refine ⟨hI.pw, by simp, fun x hx y hy => ?_⟩
      rw [List.mem_singleton.1 hy]
      exact hI.below x hx k.toNat hkk (by omega)
    · rcases List.mem_append.1 hr with hr | hr
      · exact hI.below r hr j hj (by omega)
      · rw [List.mem_singleton.1 hr]
        exact up_two hu (by omega) hll
end
end Go.Hc
set_option linter.unusedSimpArgs false
set_option linter.unusedVariables false
namespace Go.Hc
open Go

theorem ints5 {y : Fin 5 → Int} : (intsE 5).c y = #[.int .i64 (y 0), .int .i64 (y 1), .int .i64 (y 2), .int .i64 (y 3), .int .i64 (y 4)] := by simp [intsE, List.ofFn_succ]
abbrev stC (y : Fin 5 → Int) : Array Value := #[iv (y 0), iv (y 1), iv (y 2), iv (y 3), iv (y 4)]
theorem stC_0 {y : Fin 5 → Int} : (stC y)[0]? = some (iv (y 0)) := rfl
theorem stC_1 {y : Fin 5 → Int} : (stC y)[1]? = some (iv (y 1)) := rfl
theorem stC_2 {y : Fin 5 → Int} : (stC y)[2]? = some (iv (y 2)) := rfl
theorem stC_3 {y : Fin 5 → Int} : (stC y)[3]? = some (iv (y 3)) := rfl
theorem stC_4 {y : Fin 5 → Int} : (stC y)[4]? = some (iv (y 4)) := rfl
theorem stC_x {y : Fin 5 → Int} : getC (stC y) 2 3 = some (arr3 (y 2) (y 3) (y 4)) := rfl
theorem ixq0 {A : Nat} : ixAV 1 3 (.pointer (some ⟨A, 2, none⟩)) (.int .i64 0) = some (.pointer (some ⟨A, 2, none⟩)) := rfl
theorem ixq1 {A : Nat} : ixAV 1 3 (.pointer (some ⟨A, 2, none⟩)) (.int .i64 1) = some (.pointer (some ⟨A, 3, none⟩)) := rfl
theorem ixq2 {A : Nat} : ixAV 1 3 (.pointer (some ⟨A, 2, none⟩)) (.int .i64 2) = some (.pointer (some ⟨A, 4, none⟩)) := rfl
/-- What holds of a run, behind some steps. -/
structure Inv (r : Rn) (gone : List Int) (B C : Nat) : Prop where
  kn : ∀ n, Mem r.s.kn n ↔ n ∈ r.sent
  up : r.sent.Pairwise (· < ·)
  nn : ∀ n ∈ r.sent, 0 ≤ n ∧ n ≤ r.s.top
  gr : r.s.gr = -1 ∨ r.s.gr ∈ r.sent
  inL : ∀ n ∈ ints r.s.L, n ∈ r.sent
  time : ∀ p ∈ r.s.L, 0 ≤ p.time ∧ p.time ≤ r.now
  apart : ∀ n ∈ ints r.s.L, n ∉ r.acked ∧ n ∉ r.lost ∧ n ∉ gone
  goneA : ∀ n ∈ gone, n ∉ r.acked ∧ n ∉ r.lost
  told : ∀ n, n ∈ r.acked ∨ n ∈ r.lost ∨ n ∈ gone → n ∈ r.sent
  len : r.s.L.length + r.acked.length + r.lost.length + gone.length = r.sent.length
  few : r.sent.length ≤ B ∧ r.s.top ≤ 3 * B
  now : 0 ≤ r.now ∧ r.now ≤ 1073741824 * C
theorem Inv.tick {r : Rn} {gone : List Int} {B C : Nat} (h : Inv r gone B C) {d : Int} (hd : 0 ≤ d ∧ d < 1073741824) : Inv { r with now := r.now + d } gone B (C + 1) :=
  ⟨h.kn, h.up, h.nn, h.gr, h.inL, fun p hp => by have := h.time p hp; show 0 ≤ p.time ∧ p.time ≤ r.now + d; omega, h.apart, h.goneA, h.told, h.len, h.few, by have := h.now; show 0 ≤ r.now + d ∧ r.now + d ≤ _; omega⟩
theorem Inv.mono {r : Rn} {gone : List Int} {B C : Nat} (h : Inv r gone B C) : Inv r gone (B + 1) C :=
  ⟨h.kn, h.up, h.nn, h.gr, h.inL, h.time, h.apart, h.goneA, h.told, h.len, by have := h.few; omega, h.now⟩
theorem ints_app {L M : List Pkt} : ints (L ++ M) = ints L ++ ints M := by simp [ints]
theorem mem_filter_ints {L : List Pkt} {f : Pkt → Bool} {n : Int} (h : n ∈ ints (L.filter f)) : n ∈ ints L := by
  obtain ⟨p, hp, e⟩ := mem_ints.1 h
  exact mem_ints.2 ⟨p, (List.mem_filter.1 hp).1, e⟩
theorem len_parts {f : Pkt → Bool} : ∀ {L : List Pkt}, (L.filter fun p => !f p).length + (ints (L.filter f)).length = L.length
  | [] => rfl
  | p :: L => by
    have ih := len_parts (f := f) (L := L)
    simp only [ints, List.length_map] at ih ⊢
    cases h : f p <;> simp [List.filter_cons, h] <;> omega
/-- packets are told -/
theorem Inv.tell {r : Rn} {gone : List Int} {B C : Nat} (h : Inv r gone B C) (hr : RiseL r.s.L) {f : Pkt → Bool} {ak : Bool} {s' : Sp} (hkn : s'.kn = r.s.kn) (htop : s'.top = r.s.top) (hgr : s'.gr = -1 ∨ s'.gr ∈ r.sent) (hL : s'.L = r.s.L.filter fun p => !f p) :
    Inv (tookR { r with s := s' } ak (r.s.L.filter f)) gone B C := by
  have hin : ∀ n ∈ ints (r.s.L.filter fun p => !f p), n ∈ ints r.s.L := fun n hn => mem_filter_ints hn
  have hdis : ∀ n ∈ ints (r.s.L.filter fun p => !f p), n ∉ ints (r.s.L.filter f) := fun n hn hm => by
    obtain ⟨p, hp, e1⟩ := mem_ints.1 hn
    obtain ⟨q, hq, e2⟩ := mem_ints.1 hm
    have hp' := List.mem_filter.1 hp
    have hq' := List.mem_filter.1 hq
    have := rise_inj hr hp'.1 hq'.1 (by omega)
    subst this
    simp [hq'.2] at hp'
  have hlen := len_parts (L := r.s.L) (f := f)
  have hl0 := h.len
  have htime : ∀ p ∈ s'.L, 0 ≤ p.time ∧ p.time ≤ r.now := fun p hp => by rw [hL] at hp; exact h.time p (List.mem_filter.1 hp).1
  cases ak with
  | true =>
    have e : tookR { r with s := s' } true (r.s.L.filter f) = { r with s := s', acked := r.acked ++ ints (r.s.L.filter f) } := by simp [tookR]
    rw [e]
    refine ⟨fun n => by rw [← h.kn n]; show Mem s'.kn n ↔ _; rw [hkn], h.up, fun n hn => by show 0 ≤ n ∧ n ≤ s'.top; rw [htop]; exact h.nn n hn, hgr, fun n hn => ?_, htime, fun n hn => ?_, fun n hn => ?_, fun n hn => ?_, ?_, by show _ ∧ s'.top ≤ _; rw [htop]; exact h.few, h.now⟩
    · have hn : n ∈ ints s'.L := hn
      rw [hL] at hn; exact h.inL n (hin n hn)
    · have hn : n ∈ ints s'.L := hn
      rw [hL] at hn
      have := h.apart n (hin n hn)
      exact ⟨fun hm => (List.mem_append.1 hm).elim this.1 (hdis n hn), this.2⟩
    · have := h.goneA n hn
      exact ⟨fun hm => (List.mem_append.1 hm).elim this.1 fun hm => (h.apart n (mem_filter_ints hm)).2.2 hn, this.2⟩
    · rcases hn with hn | hn
      · rcases List.mem_append.1 hn with hn | hn
        · exact h.told n (.inl hn)
        · exact h.inL n (mem_filter_ints hn)
      · exact h.told n (.inr hn)
    · show s'.L.length + (r.acked ++ _).length + r.lost.length + gone.length = r.sent.length
      rw [hL, List.length_append]; omega
  | false =>
    have e : tookR { r with s := s' } false (r.s.L.filter f) = { r with s := s', lost := r.lost ++ ints (r.s.L.filter f) } := by simp [tookR]
    rw [e]
    refine ⟨fun n => by rw [← h.kn n]; show Mem s'.kn n ↔ _; rw [hkn], h.up, fun n hn => by show 0 ≤ n ∧ n ≤ s'.top; rw [htop]; exact h.nn n hn, hgr, fun n hn => ?_, htime, fun n hn => ?_, fun n hn => ?_, fun n hn => ?_, ?_, by show _ ∧ s'.top ≤ _; rw [htop]; exact h.few, h.now⟩
    · have hn : n ∈ ints s'.L := hn
      rw [hL] at hn; exact h.inL n (hin n hn)
    · have hn : n ∈ ints s'.L := hn
      rw [hL] at hn
      have := h.apart n (hin n hn)
      exact ⟨this.1, fun hm => (List.mem_append.1 hm).elim this.2.1 (hdis n hn), this.2.2⟩
    · have := h.goneA n hn
      exact ⟨this.1, fun hm => (List.mem_append.1 hm).elim this.2 fun hm => (h.apart n (mem_filter_ints hm)).2.2 hn⟩
    · rcases hn with hn | hn | hn
      · exact h.told n (.inl hn)
      · rcases List.mem_append.1 hn with hn | hn
        · exact h.told n (.inr (.inl hn))
        · exact h.inL n (mem_filter_ints hn)
      · exact h.told n (.inr (.inr hn))
    · show s'.L.length + r.acked.length + (r.lost ++ _).length + gone.length = r.sent.length
      rw [hL, List.length_append]; omega
/-- a packet is sent -/
theorem Inv.send {r : Rn} {gone : List Int} {B C : Nat} (h : Inv r gone B C) (hk : Okr r.s.kn) {p : Pkt} (hm : mayE r.s p = 0) (hp : r.s.top < p.num ∧ 0 ≤ p.num ∧ p.num ≤ 3 * ((B + 1 : Nat) : Int)) (ht : p.time = r.now):
    Inv { r with s := sentS r.s p, sent := r.sent ++ [p.num] } gone (B + 1) C := by
  have hpe : putE r.s.room r.s.top r.s.L p = 0 := by
    rcases putE_ne (room := r.s.room) (top := r.s.top) (L := r.s.L) (p := p) with h | h
    · exact h
    · unfold mayE at hm; rw [if_neg h] at hm; exact hm
  have had : addE 256 r.s.kn p.num p.num = 0 := by unfold mayE at hm; rw [if_pos hpe] at hm; exact hm
  have hs : sentS r.s p = { r.s with top := p.num, L := r.s.L ++ [p], kn := addS 256 r.s.kn p.num p.num, ti := if (p.fl && p.el) = true then p.time else r.s.ti } := by unfold sentS; rw [if_pos hm]
  rw [hs]
  have h1 := h.few
  have h2 := h.now
  have hin := fun n hn => (h.nn n (h.told n hn)).2
  refine ⟨fun n => ?_, ?_, fun n hn => ?_, ?_, fun n hn => ?_, fun q hq => ?_, fun n hn => ?_, h.goneA, fun n hn => List.mem_append_left _ (h.told n hn), ?_, ?_, h.now⟩
  · show Mem (addS 256 r.s.kn p.num p.num) n ↔ n ∈ r.sent ++ [p.num]
    rw [addS_mem hk had, h.kn n, List.mem_append, List.mem_singleton]
  · show (r.sent ++ [p.num]).Pairwise (· < ·)
    rw [List.pairwise_append]
    exact ⟨h.up, by simp, fun a ha b hb => by rw [List.mem_singleton.1 hb]; have := h.nn a ha; omega⟩
  · show 0 ≤ n ∧ n ≤ p.num
    rcases List.mem_append.1 hn with hn | hn
    · have := h.nn n hn; omega
    · rw [List.mem_singleton.1 hn]; omega
  · rcases h.gr with h | h
    · exact .inl h
    · exact .inr (List.mem_append_left _ h)
  · have hn : n ∈ ints (r.s.L ++ [p]) := hn
    rw [ints_app] at hn
    rcases List.mem_append.1 hn with hn | hn
    · exact List.mem_append_left _ (h.inL n hn)
    · exact List.mem_append_right _ hn
  · have hq : q ∈ r.s.L ++ [p] := hq
    rcases List.mem_append.1 hq with hq | hq
    · exact h.time q hq
    · rw [List.mem_singleton.1 hq, ht]; show 0 ≤ r.now ∧ r.now ≤ r.now; omega
  · have hn : n ∈ ints (r.s.L ++ [p]) := hn
    rw [ints_app] at hn
    rcases List.mem_append.1 hn with hn | hn
    · exact h.apart n hn
    · have e : n = p.num := by simpa [ints] using hn
      refine ⟨fun hx => ?_, fun hx => ?_, fun hx => ?_⟩
      · have := hin n (.inl hx); omega
      · have := hin n (.inr (.inl hx)); omega
      · have := hin n (.inr (.inr hx)); omega
  · show (r.s.L ++ [p]).length + r.acked.length + r.lost.length + gone.length = (r.sent ++ [p.num]).length
    have := h.len
    simp only [List.length_append, List.length_cons, List.length_nil]; omega
  · show (r.sent ++ [p.num]).length ≤ B + 1 ∧ p.num ≤ _
    simp only [List.length_append, List.length_cons, List.length_nil]; omega
end Go.Hc
set_option linter.unusedSimpArgs false
set_option linter.unusedVariables false
namespace Go.Hc
open Go

theorem checkE_rise {L : List Pkt} (hr : RiseL L) (hm : ∀ p ∈ L, May p) (hl : L.length ≤ 256) : checkE L = 0 := by
  unfold checkE
  rw [if_neg (by omega), if_pos]
  refine okL_of fun k hk => okP_spec.2 ?_
  have h1 := hm _ (List.getElem_mem hk)
  unfold May at h1
  have h2 : lastN L k < L[k].num := by
    unfold lastN
    split
    · omega
    · rw [getDP (by omega)]
      exact List.pairwise_iff_getElem.1 hr (k - 1) k (by omega) hk (by omega)
  omega
section
variable {H0 H : Heap} {b A : Nat} {r : Rn} {y : Fin 5 → Int} {gone : List Int} {B C : Nat} {Qs : List Asr} {R : Value → Heap → Prop}
def pkS (y : Fin 5 → Int) (n now : Int) (el : Bool) : Pkt := ⟨n, now, 1 + bring (y 4) 2000, el, (y 2).tmod 5 != 0, false⟩
theorem g64s_ev {S : Value → Value → Value → Heap → Prop} {s : Nat} {vs va vl : Value} {now n : Int} (h : Sep H0 H (cellsA A (stC y) :: cellsA b (runC s vs va vl now) :: Qs)) (hy : ∀ i, In64 (y i))
    (hS : ∀ H' P, Sep H0 H' (cellsA P (pktC (pkS y n now ((y 2).tmod 3 != 0))) :: cellsA A (stC y) :: cellsA b (runC s vs va vl now) :: Qs) → S (ptr b) (iv n) (ptr P) H') : z12_g64 S (ptr b) (ptr A) (iv n) H := by
  have l5 : ∀ {K : Heap} {Q : Asr}, Sep H0 K (Q :: cellsA b (runC s vs va vl now) :: Qs) → ldE false 1 (.pointer (some ⟨b, 5, none⟩)) K = some (iv now) := fun h => ld_ptr (own_blk h.b1.cells) runC_5
  have la : ∀ {K : Heap} {Qs : List Asr}, Sep H0 K (cellsA A (stC y) :: Qs) → ldE false 1 (.pointer (some ⟨A, 2, none⟩)) K = some (iv (y 2)) ∧ ldE false 1 (.pointer (some ⟨A, 4, none⟩)) K = some (iv (y 4)) := fun h => ⟨ld_ptr (own_blk h.cells) stC_2, ld_ptr (own_blk h.cells) stC_4⟩
  have a := la h
  have l := l5 h
  have hn := h.newC (t := 40) (c := pktC pkt0)
  have hs := hn.set (c' := pktC (pkS y n now ((y 2).tmod 3 != 0)))
  have fin := hS _ _ hs
  have an := la hn.drop
  have ln := l5 hn.drop
  have hb := bring_r (i := y 4) (n := 2000) (by omega)
  have w1 : IntKind.i64.wrap (1 + bring (y 4) 2000) = 1 + bring (y 4) 2000 := wrap_in (by omega)
  have hbu : buildV (pktC pkt0) (places [(0, 1), (1, 1), (2, 1), (3, 1), (4, 1), (5, 1)]) [(0, iv n), (1, iv now), (2, iv (1 + bring (y 4) 2000)), (3, .bool ((y 2).tmod 3 != 0)), (4, .bool ((y 2).tmod 5 != 0))] = some (pv (pkS y n now ((y 2).tmod 3 != 0))) := rfl
  have stp : ∀ p, stE 6 (ptr H.size) (pv p) (newB H 40 (pktC pkt0)) = some (setB (newB H 40 (pktC pkt0)) H.size (pktC p)) := fun p => st_pkt (Ext.refl _ _)
  simp only [z12_g64]
  try simp only [ew, Nat.reduceAdd, Nat.reduceMul, Nat.reduceLeDiff, Int.reduceBNe, Int.reduceBEq, Int.reduceLT, Int.reduceLE, l, ixq0, ixq2, a.1, a.2, bin_rem (show (3 : Int) ≠ 0 by decide), bin_rem (show (5 : Int) ≠ 0 by decide), pkt0_C]
  refine ⟨?_, ?_⟩
  · refine Bring_ev (hy 4) (by omega) ?_
    try simp only [ew, Nat.reduceAdd, Nat.reduceMul, Nat.reduceLeDiff, Int.reduceBNe, Int.reduceBEq, Int.reduceLT, Int.reduceLE, l, a.1, bin_add, w1, hbu, an.1, ln, stp]
    exact fin
  · try simp only [ew, Nat.reduceAdd, Nat.reduceMul, Nat.reduceLeDiff, Int.reduceBNe, Int.reduceBEq, Int.reduceLT, Int.reduceLE, an.1, an.2, ln]
    refine Bring_ev (hy 4) (by omega) ?_
    try simp only [ew, Nat.reduceAdd, Nat.reduceMul, Nat.reduceLeDiff, Int.reduceBNe, Int.reduceBEq, Int.reduceLT, Int.reduceLE, an.1, ln, bin_add, w1, hbu, stp]
    exact fin
theorem send_part {n : Int} (h : Sep H0 H (cellsA A (stC y) :: runA b r :: Qs)) (hy : ∀ i, In64 (y i)) (hI : Inv r gone B C) (hB : B ≤ 1000) (hC : C ≤ 1000) (hn : r.s.top < n ∧ 0 ≤ n ∧ n ≤ 3 * ((B + 1 : Nat) : Int))
    (hR : ∀ H' r', Inv r' gone (B + 1) C → r.s.gr ≤ r'.s.gr → Sep H0 H' (runA b r' :: Qs) → R (.bool true) H') : z12_s63 (ptr b) (ptr A) (iv n) R H := by
  obtain ⟨s, vs, va, vl, h⟩ := runOpen h.b1
  -- b, s, vs, va, vl, A
  have hfew := hI.few
  have hnow := hI.now
  simp only [z12_s63]
  refine g64s_ev (h.s6 [5, 0, 1, 2, 3, 4] rfl) hy fun K1 P h1 => ?_
  obtain ⟨p, hp⟩ : ∃ p : Pkt, p = pkS y n r.now (((y 2).tmod 3 != 0) && ((y 2).tmod 5 != 0)) := ⟨_, rfl⟩
  -- g65: Eliciting is brought in line
  have g65 : ∀ {S : Value → Value → Value → Heap → Prop}, (∀ K', Sep H0 K' (cellsA P (pktC p) :: cellsA A (stC y) :: cellsA b (runC s vs va vl r.now) :: spA s r.s :: lstA intE vs r.sent :: lstA intE va r.acked :: lstA intE vl r.lost :: Qs) → S (ptr b) (iv n) (ptr P) K') → z12_g65 S (ptr b) (iv n) (ptr P) K1 := fun {S} hS => by
    have q := h1.cells
    have l3 : ldE false 1 (.pointer (some ⟨P, 3, none⟩)) K1 = some (.bool ((y 2).tmod 3 != 0)) := ld_ptr (own_blk q) pktC_3
    have l4 : ldE false 1 (.pointer (some ⟨P, 4, none⟩)) K1 = some (.bool ((y 2).tmod 5 != 0)) := ld_ptr (own_blk q) pktC_4
    have s3 : ∀ e : Bool, stE 1 (.pointer (some ⟨P, 3, none⟩)) (.bool e) K1 = some (setB K1 P (pktC (pkS y n r.now e))) := fun e => by rw [st_ptr q (by rw [pktC_s]; omega) rfl rfl]; rfl
    have h2 : ∀ e : Bool, e = (((y 2).tmod 3 != 0) && ((y 2).tmod 5 != 0)) → Sep H0 (setB K1 P (pktC (pkS y n r.now e))) (cellsA P (pktC p) :: cellsA A (stC y) :: cellsA b (runC s vs va vl r.now) :: spA s r.s :: lstA intE vs r.sent :: lstA intE va r.acked :: lstA intE vl r.lost :: Qs) := fun e he => by
      rw [hp, ← he]; exact h1.set
    simp only [z12_g65]
    try simp only [ew, Nat.reduceAdd, Nat.reduceMul, Nat.reduceLeDiff, Int.reduceBNe, Int.reduceBEq, Int.reduceLT, Int.reduceLE, l3]
    refine brV_i (fun he => ?_) (fun he => ?_)
    · try simp only [ew, Nat.reduceAdd, Nat.reduceMul, Nat.reduceLeDiff, Int.reduceBNe, Int.reduceBEq, Int.reduceLT, Int.reduceLE, l4, s3]
      exact hS _ (h2 _ (by rw [he]; simp))
    · try simp only [ew, Nat.reduceAdd, Nat.reduceMul, Nat.reduceLeDiff, Int.reduceBNe, Int.reduceBEq, Int.reduceLT, Int.reduceLE, s3]
      exact hS _ (h2 _ (by rw [he]; simp))
  refine g65 fun K2 h2 => ?_
  have hb := bring_r (i := y 4) (n := 2000) (by omega)
  have hpn : p.num = n := by rw [hp]; rfl
  have hpt : p.time = r.now := by rw [hp]; rfl
  have hpm : May p := by
    have h3 : p.size = 1 + bring (y 4) 2000 := by rw [hp]; rfl
    unfold May; rw [hpn, hpt, h3]; omega
  have q := own_blk h2.b2.cells
  have l0 : ldE false 1 (.pointer (some ⟨b, 0, none⟩)) K2 = some (ptr s) := ld_ptr q runC_0
  have hkn := (sp_knL h2.b3).1
  simp only [z12_g66]
  try simp only [ew, Nat.reduceAdd, Nat.reduceMul, Nat.reduceLeDiff, Int.reduceBNe, Int.reduceBEq, Int.reduceLT, Int.reduceLE, l0, ldE_t, rdA_u, own_blk h2.cells, pktC_g]
  refine Sent_sp h2.b3 fun K3 h3 => ?_
  -- s, P, A, b, vs, va, vl
  have hE : mayE r.s p = 0 ∨ mayE r.s p = 5 := by
    unfold mayE
    have : putE r.s.room r.s.top r.s.L p = 0 ∨ putE r.s.room r.s.top r.s.L p = 5 := by
      unfold putE
      rw [if_pos hpm, if_neg (by omega)]
      split
      · exact .inr rfl
      · exact .inl rfl
    rcases this with e | e
    · rw [if_pos e, hpn]; exact addE_one hkn (by omega) (by omega)
    · rw [if_neg (by omega), e]; exact .inr rfl
  simp only [z12_g72]
  rcases hE with he | he
  · rw [he]
    have e0 : ((0 : Int) == 0) = true := rfl
    have q3 := h3.b3.cells
    have l1 : ldE false 1 (.pointer (some ⟨b, 1, none⟩)) K3 = some vs := ld_ptr (own_blk q3) runC_1
    try simp only [ew, Nat.reduceAdd, Nat.reduceMul, Nat.reduceLeDiff, Int.reduceBNe, Int.reduceBEq, Int.reduceLT, Int.reduceLE, e0, z12_g73]
    try simp only [ew, Nat.reduceAdd, Nat.reduceMul, Nat.reduceLeDiff, Int.reduceBNe, Int.reduceBEq, Int.reduceLT, Int.reduceLE, l1]
    refine push_sep (E := intE) (x := n) h3.b4 rfl (by omega) (by decide) (by decide) fun K4 v4 h4 => ?_
    -- v4, s, P, A, b, va, vl
    obtain ⟨T, o4⟩ := h4.list
    have s1 : stE 1 (.pointer (some ⟨b, 1, none⟩)) v4 K4 = some (setB K4 b (runC s v4 va vl r.now)) := by
      rw [st_ptr h4.b4.cells (by rw [runC_s]; omega) o4.cell.1 o4.cell.2, runC_w1]
    have h5 := h4.b4.set (c' := runC s v4 va vl r.now)
    -- b, v4, s, P, A, va, vl
    try simp only [ew, Nat.reduceAdd, Nat.reduceMul, Nat.reduceLeDiff, Int.reduceBNe, Int.reduceBEq, Int.reduceLT, Int.reduceLE, s1, z12_s67, z12_g68]
    try simp only [ew, Nat.reduceAdd, Nat.reduceMul, Nat.reduceLeDiff, Int.reduceBNe, Int.reduceBEq, Int.reduceLT, Int.reduceLE, e0]
    have hI' := hI.send hkn he (by rw [hpn]; exact hn) hpt
    rw [hpn] at hI'
    refine hR _ _ hI' ?_ (runClose (h5.s7 [3, 4, 0, 2, 1, 5, 6] rfl).drop.drop)
    show r.s.gr ≤ (sentS r.s p).gr
    unfold sentS; rw [if_pos he]; exact Int.le_refl _
  · have hs : sentS r.s p = r.s := by unfold sentS; rw [if_neg (by omega)]
    rw [hs] at h3
    rw [he]
    have e0 : ((5 : Int) == 0) = false := rfl
    have e5 : ((5 : Int) == 5) = true := rfl
    try simp only [ew, Nat.reduceAdd, Nat.reduceMul, Nat.reduceLeDiff, Int.reduceBNe, Int.reduceBEq, Int.reduceLT, Int.reduceLE, e0, z12_s67, z12_g68]
    try simp only [ew, Nat.reduceAdd, Nat.reduceMul, Nat.reduceLeDiff, Int.reduceBNe, Int.reduceBEq, Int.reduceLT, Int.reduceLE, e0, e5]
    exact hR _ r hI.mono (Int.le_refl _) (runClose (h3.s7 [1, 2, 3, 0, 4, 5, 6] rfl).drop.drop)
end
end Go.Hc
set_option linter.unusedSimpArgs false
set_option linter.unusedVariables false
namespace Go.Hc
open Go

theorem okA_good {sent rs : List Int} {rr : List Rng} (hg : GoodR sent rr) (hb : ∀ n ∈ sent, 0 ≤ n ∧ n ≤ 1000000) : okA (ackOf rr) = true := by
  obtain ⟨hl, he, hp⟩ := hg
  have bd : ∀ r ∈ rr, 0 ≤ r.1 ∧ r.1 ≤ r.2 ∧ r.2 ≤ 1000000 := fun r hr => by
    have h := he r hr
    have h1 := hb _ (h.2 r.1 (Int.le_refl _) h.1)
    have h2 := hb _ (h.2 r.2 h.1 (Int.le_refl _))
    exact ⟨h1.1, h.1, h2.2⟩
  match rr, hl with
  | [a], _ =>
    have := bd a (by simp)
    exact okA1 this.1 this.2.1 (by omega)
  | [a, c], _ =>
    have h1 := bd a (by simp)
    have h2 := bd c (by simp)
    have h3 := (List.pairwise_cons.1 hp).1 c (by simp)
    exact okA2 h2.1 h2.2.1 h3 h1.2.1 (by omega)
section
variable {H0 H : Heap} {b A : Nat} {r : Rn} {y : Fin 5 → Int} {gone : List Int} {B C : Nat} {Qs : List Asr} {R : Value → Heap → Prop}
theorem Inv.bd (hI : Inv r gone B C) (hB : B ≤ 1000) : ∀ n ∈ r.sent, 0 ≤ n ∧ n ≤ 1000000 := fun n hn => by
  have := hI.nn n hn; have := hI.few; omega
theorem Inv.told_ok (hI : Inv r gone B C) {L : List Pkt} (hL : ∀ p ∈ L, p ∈ r.s.L) : ∀ p ∈ L, p.num ∈ r.sent ∧ p.num ∉ r.acked ∧ p.num ∉ r.lost := fun p hp => by
  have h1 : p.num ∈ ints r.s.L := mem_ints.2 ⟨p, hL p hp, rfl⟩
  have h2 := hI.apart _ h1
  exact ⟨hI.inL _ h1, h2.1, h2.2.1⟩
theorem ack_part (h : Sep H0 H (cellsA A (stC y) :: runA b r :: Qs)) (hy : ∀ i, In64 (y i)) (hI : Inv r gone B C) (hB : B ≤ 900)
    (hR : ∀ H' r', Inv r' gone B C → r.s.gr ≤ r'.s.gr → Sep H0 H' (runA b r' :: Qs) → R (.bool true) H') : z12_s76 (ptr b) (ptr A) (.bool true) R H := by
  have h' := h.b1
  obtain ⟨s, vs, va, vl, h⟩ := runOpen h.b1
  have hfew := hI.few
  have hlen := hI.len
  have l1 : ldE false 1 (.pointer (some ⟨b, 1, none⟩)) H = some vs := ld_ptr (own_blk h.cells) runC_1
  simp only [z12_s76, brV_t, z12_g77]
  try simp only [ew, Nat.reduceAdd, Nat.reduceMul, Nat.reduceLeDiff, Int.reduceBNe, Int.reduceBEq, Int.reduceLT, Int.reduceLE, l1, h.b2.shI.len]
  refine brV_i (fun h0 => ?_) (fun h0 => ?_)
  · simp only [z12_g78]
    exact hR H r hI (Int.le_refl _) h'.b1.drop
  · have hpos : 0 < r.sent.length := by have : (r.sent.length : Int) ≠ 0 := by simpa using h0
                                        omega
    have l0 : ∀ {K : Heap} {Q : List Asr}, Sep H0 K (cellsA b (runC s vs va vl r.now) :: Q) → ldE false 1 (.pointer (some ⟨b, 0, none⟩)) K = some (ptr s) := fun h => ld_ptr (own_blk h.cells) runC_0
    have qA := own_blk (h.s6 [5, 0, 1, 2, 3, 4] rfl).cells
    have x3 : ldE true 3 (.pointer (some ⟨A, 2, none⟩)) H = some (.agg (arr3 (y 2) (y 3) (y 4))) := by rw [ldE_t, rdA_u, qA, Option.bind_some, stC_x, Option.map_some]
    simp only [z12_g79]
    try simp only [ew, Nat.reduceAdd, Nat.reduceMul, Nat.reduceLeDiff, Int.reduceBNe, Int.reduceBEq, Int.reduceLT, Int.reduceLE, l0 h, x3]
    refine ranges_sep (Qs := spA s r.s :: lstA intE va r.acked :: lstA intE vl r.lost :: cellsA A (stC y) :: Qs) (h.s6 [0, 2, 1, 3, 4, 5] rfl) (hy 2) (hy 3) (hy 4) hpos (by omega) hI.up (hI.bd (by omega)) fun K1 v rs hg h1 => ?_
    try simp only [ew, Nat.reduceAdd, Nat.reduceMul, Nat.reduceLeDiff, Int.reduceBNe, Int.reduceBEq, Int.reduceLT, Int.reduceLE, l0 h1.drop]
    refine ack_sep h1 (fun K h => h.shR) (by rcases hg.1 with e | e <;> omega) fun K2 w h2 => ?_
    try simp only [ew, Nat.reduceAdd, Nat.reduceMul, Nat.reduceLeDiff, Int.reduceBNe, Int.reduceBEq, Int.reduceLT, Int.reduceLE, l0 h2.drop.drop]
    -- w, v, b, vs, s, va, vl, A
    have hkn := (sp_knL (h2.s5 [4, 0, 1, 2, 3] rfl)).1
    have hmay := sp_mayL (h2.s5 [4, 0, 1, 2, 3] rfl)
    have hok := okA_good (rs := r.sent) hg (hI.bd (by omega))
    have hE : ackE r.s (ackOf rs) = 0 := ackE_in hkn hok fun x hx => ⟨(hg.2.1 x hx).1, fun n a b => (hI.kn n).2 ((hg.2.1 x hx).2 n a b)⟩
    refine Ack_sp' (Qs := lstA rngE v rs :: cellsA b (runC s vs va vl r.now) :: lstA intE vs r.sent :: lstA intE va r.acked :: lstA intE vl r.lost :: cellsA A (stC y) :: Qs) (h2.s5 [0, 4, 1, 2, 3] rfl) (fun e => absurd hE e) (fun _ K3 u h3 => ?_)
    have e0 : ((0 : Int) == 0) = true := rfl
    try simp only [ew, Nat.reduceAdd, Nat.reduceMul, Nat.reduceLeDiff, Int.reduceBNe, Int.reduceBEq, Int.reduceLT, Int.reduceLE, z12_g80]
    try simp only [ew, Nat.reduceAdd, Nat.reduceMul, Nat.reduceLeDiff, Int.reduceBNe, Int.reduceBEq, Int.reduceLT, Int.reduceLE, e0]
    -- u, s, v, b, vs, va, vl, A
    have hgr : (ackS r.s (ackOf rs)).gr = -1 ∨ (ackS r.s (ackOf rs)).gr ∈ r.sent := by
      have hpos2 : 0 < rs.length := by rcases hg.1 with e | e <;> omega
      have e1 : (rs.getD 0 (0, 0)) ∈ rs := by rw [getD_at hpos2]; exact List.getElem_mem _
      have h5 := hg.2.1 _ e1
      have h6 := h5.2 _ h5.1 (Int.le_refl _)
      show max r.s.gr (rs.getD 0 (0, 0)).2 = -1 ∨ max r.s.gr (rs.getD 0 (0, 0)).2 ∈ r.sent
      rcases Int.le_total r.s.gr (rs.getD 0 (0, 0)).2 with e | e
      · rw [Int.max_eq_right e]; exact .inr h6
      · rw [Int.max_eq_left e]; exact hI.gr
    have hI2 := hI.tell hmay.1 (f := fun p => hasR rs p.num) (ak := true) (s' := ackS r.s (ackOf rs)) rfl rfl hgr rfl
    have h4 := runClose (h3.s8 [3, 1, 4, 5, 6, 0, 2, 7] rfl)
    refine take_sep (M := told r.s (ackOf rs)) h4 (fun K h => h.shP) ?_ (hmay.1.filter _) (hI.told_ok (fun p hp => (List.mem_filter.1 hp).1)) ⟨by show r.acked.length ≤ _; omega, by show r.lost.length ≤ _; omega⟩ fun K4 h5 => ?_
    · have := List.length_filter_le (fun p => hasR (ackOf rs).rs p.num) r.s.L
      have := hmay.2.2.1; have := hmay.2.2.2.2
      show (r.s.L.filter fun p => hasR (ackOf rs).rs p.num).length ≤ 1000
      omega
    · refine hR K4 _ hI2 ?_ (h5.s4 [0, 1, 2, 3] rfl |>.b3.drop.b2.drop.b1.drop)
      show r.s.gr ≤ (ackS r.s (ackOf rs)).gr
      show r.s.gr ≤ max r.s.gr _
      omega
theorem lose_part (h : Sep H0 H (cellsA A (stC y) :: runA b r :: Qs)) (hI : Inv r gone B C) (hB : B ≤ 900) (hC : C ≤ 900)
    (hR : ∀ H' r', Inv r' gone B C → r.s.gr ≤ r'.s.gr → r'.s = lostS r.s r.now 1000000 → r'.now = r.now → Sep H0 H' (runA b r' :: Qs) → R (.bool true) H') : z12_s76 (ptr b) (ptr A) (.bool false) R H := by
  obtain ⟨s, vs, va, vl, h⟩ := runOpen h.b1
  have hfew := hI.few
  have hlen := hI.len
  have hnow := hI.now
  have l0 : ∀ {K : Heap} {Q : List Asr}, Sep H0 K (cellsA b (runC s vs va vl r.now) :: Q) → ldE false 1 (.pointer (some ⟨b, 0, none⟩)) K = some (ptr s) := fun h => ld_ptr (own_blk h.cells) runC_0
  have l5 : ∀ {K : Heap} {Q : List Asr}, Sep H0 K (cellsA b (runC s vs va vl r.now) :: Q) → ldE false 1 (.pointer (some ⟨b, 5, none⟩)) K = some (iv r.now) := fun h => ld_ptr (own_blk h.cells) runC_5
  simp only [z12_s76, brV_f, z12_g81]
  try simp only [ew, Nat.reduceAdd, Nat.reduceMul, Nat.reduceLeDiff, Int.reduceBNe, Int.reduceBEq, Int.reduceLT, Int.reduceLE, l0 h, l5 h]
  refine steady_sep h fun K1 h1 => ?_
  try simp only [ew, Nat.reduceAdd, Nat.reduceMul, Nat.reduceLeDiff, Int.reduceBNe, Int.reduceBEq, Int.reduceLT, Int.reduceLE, l0 h1, l5 h1]
  have hmay := sp_mayL h1.b1
  have hgr : -1 ≤ r.s.gr ∧ r.s.gr ≤ 1000000 := by
    rcases hI.gr with e | e
    · omega
    · have := hI.bd (by omega) _ e; omega
  have hF : findE r.s.L r.s.gr r.now stdy = 0 := by
    unfold findE
    rw [if_neg (by rw [checkE_rise hmay.1 (fun p hp => (hmay.2.1 p hp).1) (by omega)]; simp), if_neg (by unfold badT; omega), if_pos stdy_ok]
  refine Lose_sp h1.b1 stdy_in (fun e => absurd hF e) (fun _ K2 u h2 => ?_)
  rw [stdy_w] at h2
  have e0 : ((0 : Int) == 0) = true := rfl
  try simp only [ew, Nat.reduceAdd, Nat.reduceMul, Nat.reduceLeDiff, Int.reduceBNe, Int.reduceBEq, Int.reduceLT, Int.reduceLE, z12_g82]
  try simp only [ew, Nat.reduceAdd, Nat.reduceMul, Nat.reduceLeDiff, Int.reduceBNe, Int.reduceBEq, Int.reduceLT, Int.reduceLE, e0]
  -- u, s, b, vs, va, vl, A
  have hI2 := hI.tell hmay.1 (f := lostP r.s.gr r.now 1000000) (ak := false) (s' := lostS r.s r.now 1000000) rfl rfl hI.gr rfl
  have h4 := runClose (h2.s7 [2, 1, 3, 4, 5, 0, 6] rfl)
  refine take_sep (M := r.s.L.filter (lostP r.s.gr r.now 1000000)) h4 (fun K h => h.shP) ?_ (hmay.1.filter _) (hI.told_ok (fun p hp => (List.mem_filter.1 hp).1)) ⟨by show r.acked.length ≤ _; omega, by show r.lost.length ≤ _; omega⟩ fun K4 h5 => ?_
  · have := List.length_filter_le (lostP r.s.gr r.now 1000000) r.s.L
    omega
  · exact hR K4 _ hI2 (Int.le_refl _) rfl rfl (h5.b1.drop.b1.drop)
def StepRel (r r' : Rn) (y : Fin 5 → Int) : Prop := r.s.gr ≤ r'.s.gr ∧ (bring (y 0) 6 = 5 → r'.now = r.now + bring (y 1) 1073741824 ∧ r'.s = lostS r.s r'.now 1000000)
set_option maxHeartbeats 1000000 in
theorem step_sep (h : Sep H0 H (runA b r :: Qs)) (hy : ∀ i, In64 (y i)) (hI : Inv r gone B B) (hB : B ≤ 800)
    (hR : ∀ H' r', Inv r' gone (B + 1) (B + 1) → StepRel r r' y → Sep H0 H' (runA b r' :: Qs) → R (.bool true) H') : EvF P N.sounderlaw17_run_step #[ptr b, .agg ((intsE 5).c y)] H R := by
  refine z12_ev _ _ _ _ ?_
  rw [ints5]
  have hfew := hI.few
  have hnow := hI.now
  simp only [sounderlaw17_run_step, z12_g58]
  try simp only [ew, Nat.reduceAdd, Nat.reduceMul, Nat.reduceLeDiff, Int.reduceBNe, Int.reduceBEq, Int.reduceLT, Int.reduceLE]
  generalize hK : newB H _ _ = K
  obtain ⟨A, hA⟩ : ∃ A, A = H.size := ⟨_, rfl⟩
  obtain ⟨s, vs, va, vl, h⟩ := runOpen h
  have hn := h.newC (t := 35) (c := stC y)
  rw [hK, ← hA] at hn
  rw [← hA]
  clear h
  -- A, b, s, ..
  have l5 : ldE false 1 (.pointer (some ⟨b, 5, none⟩)) K = some (iv r.now) := ld_ptr (own_blk hn.b1.cells) runC_5
  have la : ldE false 1 (.pointer (some ⟨A, 1, none⟩)) K = some (iv (y 1)) := ld_ptr (own_blk hn.cells) stC_1
  simp only [z12_g59]
  try simp only [ew, Nat.reduceAdd, Nat.reduceMul, Nat.reduceLeDiff, Int.reduceBNe, Int.reduceBEq, Int.reduceLT, Int.reduceLE, l5, la]
  refine Bring_ev (hy 1) (by omega) ?_
  have hd := bring_r (i := y 1) (n := 1073741824) (by omega)
  obtain ⟨d, hdd⟩ : ∃ d, d = bring (y 1) 1073741824 := ⟨_, rfl⟩
  rw [← hdd] at hd ⊢
  have w1 : IntKind.i64.wrap (r.now + d) = r.now + d := wrap_in (by omega)
  have s5 : stE 1 (.pointer (some ⟨b, 5, none⟩)) (iv (r.now + d)) K = some (setB K b (runC s vs va vl (r.now + d))) := by
    rw [st_ptr hn.b1.cells (by rw [runC_s]; omega) rfl rfl, runC_w5]
  have h2 := (hn.b1.set (c' := runC s vs va vl (r.now + d))).b1
  try simp only [ew, Nat.reduceAdd, Nat.reduceMul, Nat.reduceLeDiff, Int.reduceBNe, Int.reduceBEq, Int.reduceLT, Int.reduceLE, l5, bin_add, w1, s5]
  generalize hK2 : setB K b _ = K2
  rw [hK2] at h2
  have la2 : ldE false 1 (.pointer (some ⟨A, 0, none⟩)) K2 = some (iv (y 0)) := ld_ptr (own_blk h2.cells) stC_0
  simp only [z12_g60]
  try simp only [ew, Nat.reduceAdd, Nat.reduceMul, Nat.reduceLeDiff, Int.reduceBNe, Int.reduceBEq, Int.reduceLT, Int.reduceLE, la2]
  refine Bring_ev (hy 0) (by omega) ?_
  have hk := bring_r (i := y 0) (n := 6) (by omega)
  obtain ⟨k, hkk⟩ : ∃ k, k = bring (y 0) 6 := ⟨_, rfl⟩
  rw [← hkk] at hk ⊢
  have hI1 := hI.tick hd
  have h3 := (runClose (h2.s6 [1, 2, 3, 4, 5, 0] rfl)).b1
  have rel : ∀ r', ({ r with now := r.now + d } : Rn).s.gr ≤ r'.s.gr → (k = 5 → r'.now = r.now + d ∧ r'.s = lostS r.s r'.now 1000000) → StepRel r r' y := fun r' h1 h2 => ⟨h1, fun e => by rw [← hdd]; exact h2 (hkk.trans e)⟩
  -- a packet is sent
  have snd : k ≠ 5 → z12_s61 (ptr b) (ptr A) (iv k) (.bool true) R K2 := fun hk5 => by
    simp only [z12_s61, brV_t, z12_g62]
    obtain ⟨s', vs', va', vl', ho⟩ := runOpen h3.b1
    have l0 : ldE false 1 (.pointer (some ⟨b, 0, none⟩)) K2 = some (ptr s') := ld_ptr (own_blk ho.cells) runC_0
    have hml : -1 ≤ r.s.top ∧ r.s.top ≤ 9007199254740991 := (sp_mayL ho.b1).2.2.2.1
    try simp only [ew, Nat.reduceAdd, Nat.reduceMul, Nat.reduceLeDiff, Int.reduceBNe, Int.reduceBEq, Int.reduceLT, Int.reduceLE, l0]
    refine Last_sp ho.b1 fun K3 h4 => ?_
    have w2 : IntKind.i64.wrap (r.s.top + 1) = r.s.top + 1 := wrap_in (by omega)
    have h5 := (runClose h4.b1).b1
    have lx0 : ldE false 1 (.pointer (some ⟨A, 2, none⟩)) K3 = some (iv (y 2)) := ld_ptr (own_blk h5.cells) stC_2
    have lx1 : ldE false 1 (.pointer (some ⟨A, 3, none⟩)) K3 = some (iv (y 3)) := ld_ptr (own_blk h5.cells) stC_3
    try simp only [ew, Nat.reduceAdd, Nat.reduceMul, Nat.reduceLeDiff, Int.reduceBNe, Int.reduceBEq, Int.reduceLT, Int.reduceLE, bin_add, w2, z12_g74]
    try simp only [ew, Nat.reduceAdd, Nat.reduceMul, Nat.reduceLeDiff, Int.reduceBNe, Int.reduceBEq, Int.reduceLT, Int.reduceLE, ixq0, lx0]
    refine Bring_ev (hy 2) (by omega) ?_
    try simp only [ew, Nat.reduceAdd, Nat.reduceMul, Nat.reduceLeDiff, Int.reduceBNe, Int.reduceBEq, Int.reduceLT, Int.reduceLE]
    have go : ∀ n, r.s.top < n ∧ 0 ≤ n ∧ n ≤ r.s.top + 3 → z12_s63 (ptr b) (ptr A) (iv n) R K3 := fun n hn => by
      refine send_part h5 hy hI1 (by omega) (by omega) ⟨hn.1, hn.2.1, by have := hn.2.2; omega⟩ fun H' r' hI' hg hs => hR H' r' hI' (rel r' hg fun e => absurd e hk5) hs
    refine brV_i (fun _ => ?_) (fun _ => ?_)
    · simp only [z12_g75]
      try simp only [ew, Nat.reduceAdd, Nat.reduceMul, Nat.reduceLeDiff, Int.reduceBNe, Int.reduceBEq, Int.reduceLT, Int.reduceLE, ixq1, lx1]
      refine Bring_ev (hy 3) (by omega) ?_
      have he := bring_r (i := y 3) (n := 3) (by omega)
      have w3 : IntKind.i64.wrap (r.s.top + 1 + bring (y 3) 3) = r.s.top + 1 + bring (y 3) 3 := wrap_in (by omega)
      try simp only [ew, Nat.reduceAdd, Nat.reduceMul, Nat.reduceLeDiff, Int.reduceBNe, Int.reduceBEq, Int.reduceLT, Int.reduceLE, bin_add, w3]
      exact go _ (by omega)
    · exact go _ (by omega)
  simp only [z12_g85]
  try simp only [ew, Nat.reduceAdd, Nat.reduceMul, Nat.reduceLeDiff, Int.reduceBNe, Int.reduceBEq, Int.reduceLT, Int.reduceLE]
  refine brV_i (fun e0 => ?_) (fun e0 => ?_)
  · have : k = 0 := by simpa using e0
    rw [e0]; exact snd (by omega)
  simp only [z12_g86]
  try simp only [ew, Nat.reduceAdd, Nat.reduceMul, Nat.reduceLeDiff, Int.reduceBNe, Int.reduceBEq, Int.reduceLT, Int.reduceLE]
  refine brV_i (fun e1 => ?_) (fun e1 => ?_)
  · have : k = 1 := by simpa using e1
    rw [e1]; exact snd (by omega)
  simp only [z12_g87]
  try simp only [ew, Nat.reduceAdd, Nat.reduceMul, Nat.reduceLeDiff, Int.reduceBNe, Int.reduceBEq, Int.reduceLT, Int.reduceLE]
  have n0 : k ≠ 0 := by simpa using e0
  have n1 : k ≠ 1 := by simpa using e1
  by_cases k2 : k = 2
  · have e2 : (k == 2) = true := by simpa using k2
    rw [e2]
    exact snd (by omega)
  · have e2 : (k == 2) = false := by simpa using k2
    rw [e2]
    simp only [z12_s61, brV_f, z12_g83]
    try simp only [ew, Nat.reduceAdd, Nat.reduceMul, Nat.reduceLeDiff, Int.reduceBNe, Int.reduceBEq, Int.reduceLT, Int.reduceLE]
    have ack : k ≠ 5 → z12_s76 (ptr b) (ptr A) (.bool true) R K2 := fun hk5 => ack_part h3 hy hI1 (by omega) fun H' r' hI' hg hs => hR H' r' hI'.mono (rel r' hg fun e => absurd e hk5) hs
    refine brV_i (fun e3 => ?_) (fun e3 => ?_)
    · have k3 : k = 3 := by simpa using e3
      rw [e3]
      exact ack (by omega)
    · have n3 : k ≠ 3 := by simpa using e3
      simp only [z12_g84]
      try simp only [ew, Nat.reduceAdd, Nat.reduceMul, Nat.reduceLeDiff, Int.reduceBNe, Int.reduceBEq, Int.reduceLT, Int.reduceLE]
      by_cases k4 : k = 4
      · have e4 : (k == 4) = true := by simpa using k4
        rw [e4]
        exact ack (by omega)
      · have e4 : (k == 4) = false := by simpa using k4
        rw [e4]
        exact lose_part h3 hI1 (by omega) (by omega) fun H' r' hI' hg hs hnw hsep => hR H' r' hI'.mono (rel r' hg fun _ => ⟨hnw, by rw [hnw]; exact hs⟩) hsep
end
end Go.Hc
set_option linter.unusedSimpArgs false
set_option linter.unusedVariables false
namespace Go.Hc
open Go

def rn0 (room : Nat) : Rn := ⟨sp0 room, [], [], [], 0⟩
theorem inv0 (room : Nat) : Inv (rn0 room) [] 0 0 :=
  ⟨fun n => ⟨fun ⟨r, hr, _⟩ => by simp [rn0, sp0] at hr, fun h => by simp [rn0] at h⟩, by simp [rn0], fun n h => by simp [rn0] at h, .inl rfl, fun n h => by simp [rn0, sp0, ints] at h, fun p h => by simp [rn0, sp0] at h,
   fun n h => by simp [rn0, sp0, ints] at h, fun n h => by simp at h, fun n h => by simp [rn0] at h, rfl, ⟨by simp [rn0], by show (-1 : Int) ≤ 3 * ((0 : Nat) : Int); omega⟩, by show (0 : Int) ≤ 0 ∧ (0 : Int) ≤ 1073741824 * ((0 : Nat) : Int); omega⟩
section
variable {H0 H : Heap} {Qs : List Asr}
theorem run_build {s : Nat} : buildV #[(.pointer none), (.slice none 0 0), (.slice none 0 0), (.slice none 0 0), (.int .i64 0), (.int .i64 0)] (places [(0, 1), (1, 1), (2, 1), (3, 1), (4, 1), (5, 1)]) [(0, ptr s)] = some (.agg (runC s nilS nilS nilS 0)) := rfl
theorem run_new {s room : Nat} {t : TypeId} (h : Sep H0 H (spA s (sp0 room) :: Qs)) : Sep H0 (newB H t (runC s nilS nilS nilS 0)) (runA H.size (rn0 room) :: Qs) := by
  have h1 := ((h.newC (t := t) (c := runC s nilS nilS nilS 0)).nilL (E := intE)).nilL (E := intE) |>.nilL (E := intE)
  exact runClose (h1.s5 [3, 4, 0, 1, 2] rfl)
theorem run_s {b : Nat} {r : Rn} (h : Sep H0 H (runA b r :: Qs)) : ∃ s, ldE false 1 (.pointer (some ⟨b, 0, none⟩)) H = some (ptr s) ∧ ∃ vs va vl, Sep H0 H (cellsA b (runC s vs va vl r.now) :: spA s r.s :: lstA intE vs r.sent :: lstA intE va r.acked :: lstA intE vl r.lost :: Qs) := by
  obtain ⟨s, vs, va, vl, h⟩ := runOpen h
  exact ⟨s, ld_ptr (own_blk h.cells) runC_0, vs, va, vl, h⟩
theorem step_read {K : Heap} {v : Value} {l : List (Fin 5 → Int)} (h : ShowA (intsE 5) K v l) {i : Nat} (hi : i < l.length) : ∃ b o, ixSV 5 v (iv i) = some (.pointer (some ⟨b, o, none⟩)) ∧ ldE true 5 (.pointer (some ⟨b, o, none⟩)) K = some (.agg ((intsE 5).c l[i])) := by
  obtain ⟨b, o, c, h1, _, _, h4⟩ := h.ix (by decide) hi (rfl : (i : Int) = i)
  exact ⟨b, o, h1, h4⟩
end
end Go.Hc
