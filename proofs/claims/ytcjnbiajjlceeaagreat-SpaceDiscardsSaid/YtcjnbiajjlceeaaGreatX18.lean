/- The chapter's example. -/
import Derived.Test.YtcjnbiajjlceeaaGreatX17
set_option linter.unusedSimpArgs false
set_option linter.unusedVariables false
namespace Go.Hc
open Go

section
variable {H0 H : Heap} {s : Nat} {sp : Sp} {Qs : List Asr} {R : Value → Heap → Prop}
theorem Ack_sp' {l : List Rng} {w : Value} (h : Sep H0 H (lstA rngE w l :: spA s sp :: Qs))
    (hR0 : ackE sp (ackOf l) ≠ 0 → ∀ H', Sep H0 H' (spA s sp :: Qs) → R (.tuple #[nilS, iv (ackE sp (ackOf l))]) H')
    (hR1 : ackE sp (ackOf l) = 0 → ∀ H' v', Sep H0 H' (lstA pktE v' (told sp (ackOf l)) :: spA s (ackS sp (ackOf l)) :: Qs) → R (.tuple #[v', iv 0]) H') :
    EvF P N.space_Space_Ack #[ptr s, .agg (ackC w (ackOf l))] H R := by
  refine Ack_sp (Qs := lstA rngE w l :: Qs) h.b1 (fun K h => by obtain ⟨T, o⟩ := h.list; exact o.showA) (fun hne K h => hR0 hne K h.b1.drop) (fun he K v' h => hR1 he K v' (h.s3 [2, 0, 1] rfl).drop)
/-- an ACK of one range -/
theorem ack1_sep {lo hi : Int} {t : TypeId} (h : Sep H0 H (spA s sp :: Qs))
    (hR0 : ackE sp (ackOf [(lo, hi)]) ≠ 0 → ∀ H', Sep H0 H' (spA s sp :: Qs) → R (.tuple #[nilS, iv (ackE sp (ackOf [(lo, hi)]))]) H')
    (hR1 : ackE sp (ackOf [(lo, hi)]) = 0 → ∀ H' v', Sep H0 H' (lstA pktE v' (told sp (ackOf [(lo, hi)])) :: spA s (ackS sp (ackOf [(lo, hi)])) :: Qs) → R (.tuple #[v', iv 0]) H') :
    bslE t #[(.int .i64 0), (.int .i64 0)] 2 1 [(0, .agg (rngC (lo, hi)))] H fun v H1 => EvF P N.sounderlaw17_ack #[v] H1 fun a H2 => EvF P N.space_Space_Ack #[ptr s, a] H2 R := by
  refine bslE_sep (E := rngE) (vs := [_]) (l := [(lo, hi)]) h rfl rfl (fun i hi => ?_) (by decide) (by decide) fun K1 v h1 => ?_
  · match i, hi with
    | 0, _ => rfl
  refine ack_sep h1 (fun K h => by obtain ⟨T, o⟩ := h.list; exact o.showA) (by simp) fun K2 w h2 => ?_
  refine Ack_sp' (h2.s3 [0, 2, 1] rfl) (fun hne K h => hR0 hne K h.b1.drop) (fun he K v' h => hR1 he K v' (h.s3 [2, 0, 1] rfl).drop)
end
def wk : Nat → Sp
  | 0 => sp0 4
  | k + 1 => sentS (wk k) (pk ([0, 1, 2, 5].getD k 0) (10 + 10 * k))
def wk5 : Sp := ackS (wk 4) (ackOf [(5, 5)])
def wk6 : Sp := lostS wk5 50 1000000
theorem wk_may {k : Nat} (h : k < 4) : mayE (wk k) (pk ([0, 1, 2, 5].getD k 0) (10 + 10 * k)) = 0 := by
  have : k = 0 ∨ k = 1 ∨ k = 2 ∨ k = 3 := by omega
  rcases this with rfl | rfl | rfl | rfl
  · exact (by kernel_rfl : mayE (wk 0) (pk 0 10) = 0)
  · exact (by kernel_rfl : mayE (wk 1) (pk 1 20) = 0)
  · exact (by kernel_rfl : mayE (wk 2) (pk 2 30) = 0)
  · exact (by kernel_rfl : mayE (wk 3) (pk 5 40) = 0)
theorem works17_ev {H0 H : Heap} {Qs : List Asr} {R : Value → Heap → Prop} (h : Sep H0 H Qs) (hR : ∀ H', Sep H0 H' Qs → R (.bool true) H') : EvF P N.sounderlaw17_works #[] H R := by
  refine z16_ev _ _ ?_
  simp only [sounderlaw17_works, z16_g51, z16_g52]
  refine spNew_sep h (fun h => absurd ⟨by decide, by decide⟩ h) fun room s H1 hr _ _ h => ?_
  obtain rfl : room = 4 := by omega
  try simp only [ew, Nat.reduceAdd, Nat.reduceMul, Nat.reduceLeDiff, Int.reduceBNe, Int.reduceBEq, Int.reduceLT, Int.reduceLE, z16_g53]
  try simp only [ew, Nat.reduceAdd, Nat.reduceMul, Nat.reduceLeDiff, Int.reduceBNe, Int.reduceBEq, Int.reduceLT, Int.reduceLE, z16_g55, z16_l74]
  refine ⟨fun x K => ∃ k : Nat, k ≤ 4 ∧ x = iv k ∧ Sep H0 K (spA s (wk k) :: Qs), fun x _ => (match x with | .int _ k => (4 - k).toNat | _ => 0), ⟨0, by omega, rfl, h⟩, ?_⟩
  clear h
  rintro x K ⟨k, hk, rfl, h⟩
  simp only [z16_s56, z16_g57]
  try simp only [ew, Nat.reduceAdd, Nat.reduceMul, Nat.reduceLeDiff, Int.reduceBNe, Int.reduceBEq, Int.reduceLT, Int.reduceLE]
  have nb : ∀ a b : Int, a = b → (a != b) = false := fun a b e => by subst e; simp
  refine brV_d (fun hlt => ?_) (fun hge => ?_)
  · have hk' : k < 4 := by omega
    have w1 : IntKind.i64.wrap (10 * (k : Int)) = 10 * k := wrap_in (by omega)
    have w2 : IntKind.i64.wrap (10 + 10 * (k : Int)) = 10 + 10 * k := wrap_in (by omega)
    have w4 : IntKind.i64.wrap ((k : Int) + 1) = ((k + 1 : Nat) : Int) := by rw [wrap_in (by omega)]; omega
    simp only [z16_g58]
    refine bslE_sep (E := intE) (vs := [_, _, _, _]) (l := [0, 1, 2, 5]) h rfl rfl (fun i hi => ?_) (by decide) (by decide) fun K1 v h1 => ?_
    · match i, hi with
      | 0, _ => rfl
      | 1, _ => rfl
      | 2, _ => rfl
      | 3, _ => rfl
    obtain ⟨T, o⟩ := h1.list
    obtain ⟨b, off, i1, i2⟩ := o.showA.at1 (i := k) (by simpa using hk') rfl
    have hg : ([0, 1, 2, 5] : List Int)[k]'(by simpa using hk') = [0, 1, 2, 5].getD k 0 := by simp [List.getD, hk']
    rw [hg] at i2
    try simp only [ew, Nat.reduceAdd, Nat.reduceMul, Nat.reduceLeDiff, Int.reduceBNe, Int.reduceBEq, Int.reduceLT, Int.reduceLE, i1, i2, bin_mul, bin_add, w1, w2]
    refine packet_sep h1.drop fun K2 h2 => ?_
    refine Sent_sp h2 fun K3 h3 => ?_
    rw [wk_may hk']
    try simp only [ew, Nat.reduceAdd, Nat.reduceMul, Nat.reduceLeDiff, Int.reduceBNe, Int.reduceBEq, Int.reduceLT, Int.reduceLE, z16_g60]
    try simp only [ew, Nat.reduceAdd, Nat.reduceMul, Nat.reduceLeDiff, Int.reduceBNe, Int.reduceBEq, Int.reduceLT, Int.reduceLE, bin_add, w4]
    exact ⟨⟨k + 1, by omega, rfl, h3⟩, by show _ < _; omega⟩
  · have hk' : k = 4 := by omega
    subst hk'
    simp only [z16_g61]
    refine packet_sep h fun K1 h => ?_
    have e1 : mayE (wk 4) (pk 6 50) = 5 := by kernel_rfl
    have e2 : mayE (wk 4) (pk 5 50) = 60 := by kernel_rfl
    have f1 : sentS (wk 4) (pk 6 50) = wk 4 := by unfold sentS; rw [if_neg (by rw [e1]; decide)]
    have f2 : sentS (wk 4) (pk 5 50) = wk 4 := by unfold sentS; rw [if_neg (by rw [e2]; decide)]
    refine Sent_sp h fun K2 h => ?_
    rw [f1] at h
    try simp only [ew, Nat.reduceAdd, Nat.reduceMul, Nat.reduceLeDiff, Int.reduceBNe, Int.reduceBEq, Int.reduceLT, Int.reduceLE, e1, nb 5 5 rfl]
    refine packet_sep h fun K3 h => ?_
    refine Sent_sp h fun K4 h => ?_
    rw [f2] at h
    try simp only [ew, Nat.reduceAdd, Nat.reduceMul, Nat.reduceLeDiff, Int.reduceBNe, Int.reduceBEq, Int.reduceLT, Int.reduceLE, e2, nb 60 60 rfl]
    have g1 : (wk 4).top = 5 := by kernel_rfl
    have g2 : flight (wk 4).L = 400 := by kernel_rfl
    have g3 : (wk 4).ti = 40 := by kernel_rfl
    refine Last_sp h fun K5 h => ?_
    try simp only [ew, Nat.reduceAdd, Nat.reduceMul, Nat.reduceLeDiff, Int.reduceBNe, Int.reduceBEq, Int.reduceLT, Int.reduceLE, g1, nb 5 5 rfl]
    refine Flight_sp h fun K6 h => ?_
    try simp only [ew, Nat.reduceAdd, Nat.reduceMul, Nat.reduceLeDiff, Int.reduceBNe, Int.reduceBEq, Int.reduceLT, Int.reduceLE, g2, nb 400 400 rfl]
    refine Time_sp h fun K7 h => ?_
    try simp only [ew, Nat.reduceAdd, Nat.reduceMul, Nat.reduceLeDiff, Int.reduceBNe, Int.reduceBEq, Int.reduceLT, Int.reduceLE, g3, nb 40 40 rfl]
    have hb : ∀ x y : Int, buildV #[(.int .i64 0), (.int .i64 0)] (every 1) [(0, iv x), (1, iv y)] = some (.agg (rngC (x, y))) := fun _ _ => rfl
    have a1 : ackE (wk 4) (ackOf [(4, 5)]) = 170 := by kernel_rfl
    have a2 : ackE (wk 4) (ackOf [(5, 5)]) = 0 := by kernel_rfl
    have a3 : ackE wk6 (ackOf [(0, 2)]) = 0 := by kernel_rfl
    simp only [z16_g63]
    try simp only [ew, Nat.reduceAdd, Nat.reduceMul, Nat.reduceLeDiff, Int.reduceBNe, Int.reduceBEq, Int.reduceLT, Int.reduceLE, hb]
    refine ack1_sep h (fun _ K8 h => ?_) (fun h => absurd h (by rw [a1]; decide))
    rw [a1]
    try simp only [ew, Nat.reduceAdd, Nat.reduceMul, Nat.reduceLeDiff, Int.reduceBNe, Int.reduceBEq, Int.reduceLT, Int.reduceLE, z16_g64]
    try simp only [ew, Nat.reduceAdd, Nat.reduceMul, Nat.reduceLeDiff, Int.reduceBNe, Int.reduceBEq, Int.reduceLT, Int.reduceLE, hb]
    refine ack1_sep h (fun h => absurd a2 h) (fun _ K9 v6 h => ?_)
    have t1 : told (wk 4) (ackOf [(5, 5)]) = [pk 5 40] := by kernel_rfl
    rw [t1] at h
    change Sep H0 K9 (lstA pktE v6 [pk 5 40] :: spA s wk5 :: Qs) at h
    try simp only [ew, Nat.reduceAdd, Nat.reduceMul, Nat.reduceLeDiff, Int.reduceBNe, Int.reduceBEq, Int.reduceLT, Int.reduceLE, z16_g65]
    refine steady_sep h fun K10 h => ?_
    have c1 : findE wk5.L wk5.gr 50 stdy = 0 := by kernel_rfl
    have c2 : wk5.L.filter (lostP wk5.gr 50 1000000) = [pk 0 10, pk 1 20, pk 2 30] := by kernel_rfl
    refine Lose_sp h.b1 stdy_in (fun h => absurd c1 h) (fun _ K11 v8 h => ?_)
    rw [stdy_w, c2] at h
    change Sep H0 K11 (lstA pktE v8 [pk 0 10, pk 1 20, pk 2 30] :: spA s wk6 :: lstA pktE v6 [pk 5 40] :: Qs) at h
    try simp only [ew, Nat.reduceAdd, Nat.reduceMul, Nat.reduceLeDiff, Int.reduceBNe, Int.reduceBEq, Int.reduceLT, Int.reduceLE, z16_g66]
    try simp only [ew, Nat.reduceAdd, Nat.reduceMul, Nat.reduceLeDiff, Int.reduceBNe, Int.reduceBEq, Int.reduceLT, Int.reduceLE]
    have shw : ∀ {K : Heap} {v : Value} {l : List Pkt} {Q : List Asr}, Sep H0 K (lstA pktE v l :: Q) → ShowA pktE K v l := fun h => by obtain ⟨T, o⟩ := h.list; exact o.showA
    have shi : ∀ {K : Heap} {v : Value} {l : List Int} {Q : List Asr}, Sep H0 K (lstA intE v l :: Q) → ShowA intE K v l := fun h => by obtain ⟨T, o⟩ := h.list; exact o.showA
    refine numbers_sep (h.s3 [2, 0, 1] rfl) (fun K h => shw h) (by simp) fun K12 u1 h => ?_
    refine bslE_sep (E := intE) (vs := [_]) (l := [5]) h rfl rfl (fun i hi => ?_) (by decide) (by decide) fun K13 u2 h => ?_
    · match i, hi with
      | 0, _ => rfl
    refine eqInts_ev (shi h.b1) (shi h) ?_
    rw [show decide (ints [pk 5 40] = [5]) = true from by kernel_rfl]
    try simp only [ew, Nat.reduceAdd, Nat.reduceMul, Nat.reduceLeDiff, Int.reduceBNe, Int.reduceBEq, Int.reduceLT, Int.reduceLE]
    replace h := h.drop.drop.drop
    -- v8, s
    refine Greatest_sp h.b1 fun K14 h => ?_
    try simp only [ew, Nat.reduceAdd, Nat.reduceMul, Nat.reduceLeDiff, Int.reduceBNe, Int.reduceBEq, Int.reduceLT, Int.reduceLE, show wk6.gr = 5 from by kernel_rfl, nb 5 5 rfl]
    refine numbers_sep h.b1 (fun K h => shw h) (by simp) fun K15 u3 h => ?_
    refine bslE_sep (E := intE) (vs := [_, _, _]) (l := [0, 1, 2]) h rfl rfl (fun i hi => ?_) (by decide) (by decide) fun K16 u4 h => ?_
    · match i, hi with
      | 0, _ => rfl
      | 1, _ => rfl
      | 2, _ => rfl
    refine eqInts_ev (shi h.b1) (shi h) ?_
    rw [show decide (ints [pk 0 10, pk 1 20, pk 2 30] = [0, 1, 2]) = true from by kernel_rfl]
    try simp only [ew, Nat.reduceAdd, Nat.reduceMul, Nat.reduceLeDiff, Int.reduceBNe, Int.reduceBEq, Int.reduceLT, Int.reduceLE]
    replace h := h.drop.drop.drop
    refine Loss_sp h fun K17 h => ?_
    try simp only [ew, Nat.reduceAdd, Nat.reduceMul, Nat.reduceLeDiff, Int.reduceBNe, Int.reduceBEq, Int.reduceLT, Int.reduceLE, show wk6.lo = -1 from by kernel_rfl, nb (-1) (-1) rfl]
    refine Flight_sp h fun K18 h => ?_
    try simp only [ew, Nat.reduceAdd, Nat.reduceMul, Nat.reduceLeDiff, Int.reduceBNe, Int.reduceBEq, Int.reduceLT, Int.reduceLE, show flight wk6.L = 0 from by kernel_rfl, nb 0 0 rfl, z16_g68]
    try simp only [ew, Nat.reduceAdd, Nat.reduceMul, Nat.reduceLeDiff, Int.reduceBNe, Int.reduceBEq, Int.reduceLT, Int.reduceLE, hb]
    refine ack1_sep h (fun h => absurd a3 h) (fun _ K19 v10 h => ?_)
    have t3 : told wk6 (ackOf [(0, 2)]) = [] := by kernel_rfl
    rw [t3] at h
    obtain ⟨T, o⟩ := h.list
    have hl0 : lenV v10 = some (iv 0) := o.len
    have eb : ∀ a b : Int, a = b → (a == b) = true := fun a b e => by subst e; simp
    try simp only [ew, Nat.reduceAdd, Nat.reduceMul, Nat.reduceLeDiff, Int.reduceBNe, Int.reduceBEq, Int.reduceLT, Int.reduceLE, z16_g69]
    try simp only [ew, Nat.reduceAdd, Nat.reduceMul, Nat.reduceLeDiff, Int.reduceBNe, Int.reduceBEq, Int.reduceLT, Int.reduceLE, hl0, eb 0 0 rfl]
    refine Greatest_sp h.drop fun K20 h => ?_
    try simp only [ew, Nat.reduceAdd, Nat.reduceMul, Nat.reduceLeDiff, Int.reduceBNe, Int.reduceBEq, Int.reduceLT, Int.reduceLE, show (ackS wk6 (ackOf [(0, 2)])).gr = 5 from by kernel_rfl, eb 5 5 rfl]
    refine All_sp h fun K21 v11 h => ?_
    rw [show (ackS wk6 (ackOf [(0, 2)])).L = [] from by kernel_rfl] at h
    obtain ⟨T, o⟩ := h.list
    have hl1 : lenV v11 = some (iv 0) := o.len
    try simp only [ew, Nat.reduceAdd, Nat.reduceMul, Nat.reduceLeDiff, Int.reduceBNe, Int.reduceBEq, Int.reduceLT, Int.reduceLE, hl1, eb 0 0 rfl]
    exact hR K21 h.drop.drop
end Go.Hc
set_option linter.unusedSimpArgs false
set_option linter.unusedVariables false
namespace Go.Hc
open Go

theorem allIn_iff {kn : List Rng} (h : Okr kn) {x : Rng} (hx : x.1 ≤ x.2) : allIn kn x = true ↔ ∀ n, x.1 ≤ n → n ≤ x.2 → Mem kn n := by
  unfold allIn
  rw [List.any_eq_true]
  constructor
  · rintro ⟨k, hk, he⟩ n h1 h2
    simp only [Bool.and_eq_true, decide_eq_true_eq] at he
    exact ⟨k, hk, by omega, by omega⟩
  · intro hm
    obtain ⟨i, hi, h1, h2⟩ := mem_ix.1 (hm x.1 (by omega) hx)
    refine ⟨kn[i], List.getElem_mem hi, ?_⟩
    simp only [Bool.and_eq_true, decide_eq_true_eq]
    refine ⟨h1, ?_⟩
    rcases Int.lt_or_le kn[i].2 x.2 with hlt | hle
    · obtain ⟨j, hj, g1, g2⟩ := mem_ix.1 (hm (kn[i].2 + 1) (by omega) (by omega))
      rcases Nat.lt_trichotomy i j with hij | hij | hij
      · have := h.lt hij hj; omega
      · subst hij; omega
      · have := h.lt hij hi; have := h.at hi; omega
    · exact hle
theorem ackE_un {s : Sp} {a : AckR} (hk : Okr s.kn) (h1 : okA a = true) {r : Rng} (hr : r ∈ a.rs) {n : Int} (hn : r.1 ≤ n ∧ n ≤ r.2) (hm : ¬ Mem s.kn n) : ackE s a = 170 := by
  unfold ackE
  rw [if_pos h1, if_neg]
  intro h
  have h2 := List.all_eq_true.1 h r hr
  exact hm ((allIn_iff hk (by omega)).1 h2 n hn.1 hn.2)
theorem ackE_in {s : Sp} {a : AckR} (hk : Okr s.kn) (h1 : okA a = true) (h : ∀ r ∈ a.rs, r.1 ≤ r.2 ∧ ∀ n, r.1 ≤ n → n ≤ r.2 → Mem s.kn n) : ackE s a = 0 := by
  unfold ackE
  rw [if_pos h1, if_pos]
  exact List.all_eq_true.2 fun r hr => (allIn_iff hk (h r hr).1).2 (h r hr).2
theorem okA1 {lo hi : Int} (h0 : 0 ≤ lo) (h1 : lo ≤ hi) (h2 : hi ≤ 9007199254740991) : okA (ackOf [(lo, hi)]) = true := by
  refine okA_of ⟨by simp [ackOf], by simp [ackOf], by show (0 : Int) ≤ 0 ∧ (0 : Int) ≤ 9007199254740991; omega⟩ (fun k h => ?_) (fun k h => ?_) (fun k h => ?_)
  · have hk : k = 0 := by simp only [ackOf, List.length_cons, List.length_nil] at h; omega
    subst hk
    exact okG_iff.2 ⟨h0, h1, h2⟩
  · have hk : k = 0 := by simp only [ackOf, List.length_cons, List.length_nil] at h; omega
    subst hk
    show (0 : Int) ≤ gapAt [(lo, hi)] 0
    unfold gapAt; simp
  · have : k = 0 ∨ k = 1 ∨ k = 2 := by omega
    rcases this with rfl | rfl | rfl <;> rfl
theorem okA2 {lo hi lo' hi' : Int} (h0 : 0 ≤ lo') (h1 : lo' ≤ hi') (h2 : hi' + 2 ≤ lo) (h3 : lo ≤ hi) (h4 : hi ≤ 9007199254740991) : okA (ackOf [(lo, hi), (lo', hi')]) = true := by
  refine okA_of ⟨by simp [ackOf], by simp [ackOf], by show (0 : Int) ≤ 0 ∧ (0 : Int) ≤ 9007199254740991; omega⟩ (fun k h => ?_) (fun k h => ?_) (fun k h => ?_)
  · have hk : k = 0 ∨ k = 1 := by simp only [ackOf, List.length_cons, List.length_nil] at h; omega
    rcases hk with rfl | rfl
    · exact okG_iff.2 ⟨show 0 ≤ lo by omega, h3, h4⟩
    · exact okG_iff.2 ⟨h0, h1, show hi' ≤ 9007199254740991 by omega⟩
  · have hk : k = 0 ∨ k = 1 := by simp only [ackOf, List.length_cons, List.length_nil] at h; omega
    rcases hk with rfl | rfl
    · show (0 : Int) ≤ gapAt [(lo, hi), (lo', hi')] 0
      unfold gapAt; simp
    · show (0 : Int) ≤ gapAt [(lo, hi), (lo', hi')] 1
      unfold gapAt; simp; omega
  · have : k = 0 ∨ k = 1 ∨ k = 2 := by omega
    rcases this with rfl | rfl | rfl <;> rfl
/-- a packet more: when it goes in, and what is known then -/
theorem addE_one {kn : List Rng} (hk : Okr kn) {n : Int} (h0 : 0 ≤ n) (h1 : n ≤ 9007199254740991) : addE 256 kn n n = 0 ∨ addE 256 kn n n = 5 := by
  unfold addE
  rw [if_neg (by unfold badR; omega)]
  split
  · exact .inr rfl
  · exact .inl rfl
theorem addE_few {kn : List Rng} (hk : Okr kn) {n : Int} (h0 : 0 ≤ n) (h1 : n ≤ 9007199254740991) (hl : kn.length < 256) : addE 256 kn n n = 0 := by
  unfold addE
  rw [if_neg (by unfold badR; omega), if_neg]
  have := addL_len hk (lo := n) (hi := n) (Int.le_refl _)
  omega
theorem addS_mem {kn : List Rng} (hk : Okr kn) {n m : Int} (h : addE 256 kn n n = 0) : Mem (addS 256 kn n n) m ↔ Mem kn m ∨ m = n := by
  unfold addS
  rw [if_pos h, addL_mem hk (Int.le_refl _)]
  constructor
  · rintro (h | h)
    · exact .inl h
    · exact .inr (by omega)
  · rintro (h | h)
    · exact .inl h
    · exact .inr (by omega)
theorem addS_len {kn : List Rng} (hk : Okr kn) {n : Int} : (addS 256 kn n n).length ≤ kn.length + 1 := by
  unfold addS
  split
  · have := addL_len hk (lo := n) (hi := n) (Int.le_refl _); omega
  · omega
theorem rise_app {L : List Pkt} {p : Pkt} (h : RiseL L) (hp : ∀ q ∈ L, q.num < p.num) : RiseL (L ++ [p]) := by
  unfold RiseL
  rw [List.pairwise_append]
  exact ⟨h, by simp, fun a ha b hb => by rw [List.mem_singleton.1 hb]; exact hp a ha⟩
theorem filter_one : ∀ {L : List Pkt}, RiseL L → ∀ {p : Pkt}, p ∈ L → L.filter (fun q => hasR [(p.num, p.num)] q.num) = [p]
  | q :: L, hr, p, hp => by
    have hc := List.pairwise_cons.1 hr
    have hh : ∀ n : Int, hasR [(p.num, p.num)] n = decide (n = p.num) := fun n => by
      rw [Bool.eq_iff_iff]; simp only [hasR, List.any_cons, List.any_nil, Bool.or_false, decide_eq_true_eq]; omega
    rcases List.mem_cons.1 hp with rfl | hp
    · have : L.filter (fun q => hasR [(p.num, p.num)] q.num) = [] := by
        rw [List.filter_eq_nil_iff]; intro x hx
        have := hc.1 x hx
        rw [hh]; simp; omega
      rw [List.filter_cons, this, if_pos (by rw [hh]; simp)]
    · have := hc.1 p hp
      rw [List.filter_cons, if_neg (by rw [hh]; simp; omega)]
      exact filter_one hc.2 hp
theorem mem_ints {L : List Pkt} {n : Int} : n ∈ ints L ↔ ∃ p ∈ L, p.num = n := by simp [ints]
end Go.Hc
