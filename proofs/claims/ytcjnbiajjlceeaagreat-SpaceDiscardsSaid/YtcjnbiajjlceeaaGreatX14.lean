/- The log: New, Put. -/
import Derived.Test.YtcjnbiajjlceeaaGreatX13
import Derived.Test.YtcjnbiajjlceeaaGreatX1
set_option linter.unusedSimpArgs false
set_option linter.unusedVariables false
namespace Go.Hc
open Go

theorem slot0_C : (#[.int .i64 0, .int .i64 0, .int .i64 0, .bool false, .bool false, .bool false, .bool false] : Array Value) = slotC (pkt0, false) := rfl
theorem slotC_s {s : Pkt × Bool} : (slotC s).size = 7 := rfl
theorem slotC_a {s : Pkt × Bool} : (slotC s).toList.all isCell = true := by simp [slotC, isCell]
theorem slotC_l {s : Pkt × Bool} : (slotC s).toList.length = 7 := rfl
theorem LogR.row {H : Heap} {b rb cap room fr : Nat} {top ma fl el : Int} {sl : List (Pkt × Bool)} (h : LogR H b rb cap room top fr sl ma fl el) {i : Nat} (hi : i < sl.length) :
    ldE true 7 (.pointer (some ⟨rb, (fr + i) % (2 * room) * 7, none⟩)) H = some (.agg (slotC sl[i])) := by
  obtain ⟨c, f, hc, hr, hcap, hf⟩ := h.ring
  have h1 := h.hroom
  have hlt : (fr + i) % (2 * room) < cap := Nat.lt_of_lt_of_le (Nat.mod_lt _ (by omega)) hcap
  have := hr.get hlt
  rw [hf i hi] at this
  simp only [ldE_t, rdA_u, own_blk hc, Option.bind_some, this, Option.map_some]

theorem New_ev {H : Heap} {r : Int} {R : Value → Heap → Prop}
    (hbad : ¬ (1 ≤ r ∧ r ≤ 256) → R (.tuple #[.pointer none, iv 2]) H)
    (hok : ∀ room : Nat, r = room → 1 ≤ room → room ≤ 256 → ∀ H', Ext [] H H' → LogOf H' (H.size + 1) H.size room (-1) [] → R (.tuple #[ptr (H.size + 1), iv 0]) H') :
    EvF P N.sent_New #[iv r] H R := by
  refine z43_ev _ _ _ ?_
  simp only [z43_g11, z43_g12, z43_g13, z43_g14, sent_New]
  try simp only [ew, Nat.reduceAdd, Nat.reduceMul, Nat.reduceLeDiff, Int.reduceBNe, Int.reduceBEq, Int.reduceLT, Int.reduceLE]
  have good : (1 ≤ r ∧ r ≤ 256) → bnd (some (Value.int .i64 (IntKind.i64.wrap (2 * r)))) fun v12 => mslE 137 #[(.int .i64 0), (.int .i64 0), (.int .i64 0), (.bool false), (.bool false), (.bool false), (.bool false)] 40 v12 v12 H fun v13 H1 =>
      bnd (buildV #[(.int .i64 0), (.int .i64 0), (.slice none 0 0), (.int .i64 0), (.int .i64 0), (.int .i64 0), (.int .i64 0), (.int .i64 0)] (places [(0, 1), (1, 1), (2, 1), (3, 1), (4, 1), (5, 1), (6, 1), (7, 1)]) [(0, iv r), (1, (.int .i64 (-1))), (2, v13)]) fun v14 =>
      newE 119 (Value.cells v14) H1 fun v15 H2 => R (.tuple #[v15, .int .i64 0]) H2 := by
    intro hr
    have w : IntKind.i64.wrap (2 * r) = 2 * r := wrap_in (by omega)
    rw [bnd_some, w]
    refine ⟨by omega, ?_⟩
    have hb : buildV #[(.int .i64 0), (.int .i64 0), (.slice none 0 0), (.int .i64 0), (.int .i64 0), (.int .i64 0), (.int .i64 0), (.int .i64 0)] (places [(0, 1), (1, 1), (2, 1), (3, 1), (4, 1), (5, 1), (6, 1), (7, 1)]) [(0, iv r), (1, (.int .i64 (-1))), (2, .slice (some ⟨H.size, 0, none⟩) (2 * r).toNat (2 * r).toNat)] =
        some (.agg (logC r (-1) H.size (2 * r).toNat (2 * r).toNat 0 0 0 0 0)) := rfl
    dsimp only
    rw [hb, bnd_some, cells_agg]
    have e : (2 * r).toNat = 2 * r.toNat := by omega
    have hn : ((r.toNat : Nat) : Int) = r := by omega
    simp only [newE_u]
    have hs1 : (newB H 137 (repZ #[(.int .i64 0), (.int .i64 0), (.int .i64 0), (.bool false), (.bool false), (.bool false), (.bool false)] (2 * r).toNat)).size = H.size + 1 := size_newB _ _ _
    rw [hs1]
    refine hok r.toNat hn.symm (by omega) (by omega) _ (((Ext.refl _ _).newB _ _).newB _ _) ⟨2 * r.toNat, 0, [], ?_⟩
    refine ⟨⟨?_, by omega, by omega, by omega, by simp, _, _, ?_, Rows.zero (2 * r.toNat) (z := slotC (pkt0, false)) rfl, Nat.le_refl _, by simp⟩, by simp [Up], rfl, by simp, by omega, by simp, by simp⟩
    · rw [← hs1, own_newB_self, hn, e]; rfl
    · rw [own_newB_ne (by omega), own_newB_self, e]; rfl
  refine brV_d (fun h => ?_) (fun h => ?_)
  · exact hbad (by omega)
  · refine brV_d (fun h2 => ?_) (fun h2 => ?_)
    · exact hbad (by omega)
    · have := good (by omega); rw [bnd_some] at this; rw [bin_mul, bnd_some]; exact this

theorem take_filter_succ {sl : List (Pkt × Bool)} {i : Nat} (hi : i < sl.length) : (sl.take (i + 1)).filter (·.2) = (sl.take i).filter (·.2) ++ (if sl[i].2 then [sl[i]] else []) := by
  rw [List.take_succ_eq_append_getElem hi, List.filter_append]
  cases h : sl[i].2 <;> simp [h]
theorem pack_ev {H : Heap} {b rb cap room fr : Nat} {top ma fl el : Int} {sl : List (Pkt × Bool)} {R : Value → Heap → Prop} (h : LogR H b rb cap room top fr sl ma fl el)
    (hR : ∀ H', Ext [b] H H' → LogR H' b H.size (2 * room) room top 0 (sl.filter (·.2)) ma fl el → R (.tuple #[]) H') : EvF P N.sent_Log_pack #[ptr b] H R := by
  refine z109_ev _ _ _ ?_
  have hroom := h.hroom
  have hlen := h.hlen
  have hlb := own_lt h.log
  obtain ⟨c0, f0, hc0, hr0, hcap0, hf0⟩ := h.ring
  have hlrb := own_lt hc0
  have hb2 : ldE false 1 (.pointer (some ⟨b, 2, none⟩)) H = some (.slice (some ⟨rb, 0, none⟩) (2 * room) cap) := ld_ptr (own_blk h.log) logC_2
  simp only [z109_g29, z109_g30, z109_g31, z109_g33, z109_g35, z109_s34, z109_g40, z109_g41, z109_g42, z109_g43, z109_g44, z109_g45, z109_s32, z109_l46, sent_Log_pack]
  try simp only [ew, Nat.reduceAdd, Nat.reduceMul, Nat.reduceLeDiff, Int.reduceBNe, Int.reduceBEq, Int.reduceLT, Int.reduceLE, hb2, slot0_C]
  refine ⟨by omega, ?_⟩
  simp only [Int.toNat_natCast]
  have e0 : Ext [] H (newB H 137 (repZ (slotC (pkt0, false)) (2 * room))) := (Ext.refl _ _).newB _ _
  have h0 := h.ext e0 (by simp) (by simp)
  have hb4 : ldE false 1 (.pointer (some ⟨b, 4, none⟩)) (newB H 137 (repZ (slotC (pkt0, false)) (2 * room))) = some (iv sl.length) := ld_ptr (own_blk h0.log) logC_4
  try simp only [ew, Nat.reduceAdd, Nat.reduceMul, Nat.reduceLeDiff, Int.reduceBNe, Int.reduceBEq, Int.reduceLT, Int.reduceLE, hb4]
  refine ⟨fun v3 v16 H' => ∃ i : Nat, i ≤ sl.length ∧ v16 = iv i ∧ v3 = iv ((sl.take i).filter (·.2)).length ∧ Ext [] H H' ∧ ∃ c f, own H' H.size = some c ∧ Rows 7 c (2 * room) f ∧ ∀ k (hk : k < ((sl.take i).filter (·.2)).length), f k = slotC ((sl.take i).filter (·.2))[k],
    fun _ v _ => (match v with | Value.int _ i => (sl.length - i).toNat | _ => 0),
    ⟨0, Nat.zero_le _, rfl, rfl, e0, _, _, own_newB_self, Rows.zero (2 * room) (z := slotC (pkt0, false)) rfl, by simp⟩, ?_⟩
  rintro v3 v16 H' ⟨i, hi, rfl, rfl, hE, c, f, hc, hr, hf⟩
  have h' := h.ext hE (by simp) (by simp)
  try simp only [ew, Nat.reduceAdd, Nat.reduceMul, Nat.reduceLeDiff, Int.reduceBNe, Int.reduceBEq, Int.reduceLT, Int.reduceLE]
  have w1 : binV .int .add (iv i) (.int .i64 1) = some (iv ((i + 1 : Nat) : Int)) := by rw [bin_addw (by omega)]; rfl
  refine brV_d (fun hlt => ?_) (fun hlt => ?_)
  · have hi' : i < sl.length := by omega
    refine h'.at hi' fun o c2 hc2 _ h6 _ ho => ?_
    have l6 : ldE false 1 (.pointer (some ⟨rb, o + 6, none⟩)) H' = some (.bool sl[i].2) := ld_ptr hc2 h6
    have l7 : ldE true 7 (.pointer (some ⟨rb, o, none⟩)) H' = some (.agg (slotC sl[i])) := by rw [ho]; exact h'.row hi'
    have hfl : ((sl.take i).filter (·.2)).length ≤ i := Nat.le_trans (List.length_filter_le _ _) (by rw [List.length_take]; omega)
    have w2 : binV .int .add (iv ((sl.take i).filter (·.2)).length) (.int .i64 1) = some (iv ((((sl.take i).filter (·.2)).length + 1 : Nat) : Int)) := by rw [bin_addw (by omega)]; rfl
    try simp only [ew, Nat.reduceAdd, Nat.reduceMul, Nat.reduceLeDiff, Int.reduceBNe, Int.reduceBEq, Int.reduceLT, Int.reduceLE, l6]
    refine brV_i (fun ht => ?_) (fun ht => ?_)
    · have hx : ixSV 7 (.slice (some ⟨H.size, 0, none⟩) (2 * room) (2 * room)) (iv ((sl.take i).filter (·.2)).length) = some (.pointer (some ⟨H.size, ((sl.take i).filter (·.2)).length * 7, none⟩)) := by
        rw [ixS_u (by omega)]; simp
      have hs := hr.size
      have hrl := row_lt (sz := 7) (show ((sl.take i).filter (·.2)).length < 2 * room by omega)
      have st : stE 7 (.pointer (some ⟨H.size, ((sl.take i).filter (·.2)).length * 7, none⟩)) (.agg (slotC sl[i])) H' = some (setB H' H.size (splice c (((sl.take i).filter (·.2)).length * 7) (slotC sl[i]).toList)) := by
        simp only [stE_p, cells_agg, slotC_s, if_true]
        rw [wrA_u hc (by rw [slotC_l]; omega) slotC_a]
      try simp only [ew, Nat.reduceAdd, Nat.reduceMul, Nat.reduceLeDiff, Int.reduceBNe, Int.reduceBEq, Int.reduceLT, Int.reduceLE, l7, hx, st, w1, w2]
      have ef := take_filter_succ hi'
      rw [ht] at ef
      simp only [if_true] at ef
      refine ⟨⟨i + 1, by omega, rfl, by rw [ef]; simp, hE.setB _ _ (Or.inr (Nat.le_refl _)), _, _, own_setB_same hc, hr.set (by omega) slotC_l, fun k hk => ?_⟩, by omega⟩
      by_cases hk2 : k = ((sl.take i).filter (·.2)).length
      · subst hk2; simp [ef]
      · have hk3 : k < ((sl.take i).filter (·.2)).length := by rw [ef] at hk; simp only [List.length_append, List.length_cons, List.length_nil] at hk; omega
        simp only [hk2, if_false]
        rw [hf k hk3]
        congr 1
        simp only [ef]
        rw [List.getElem_append_left hk3]
    · simp only [w1, bnd_some]
      have ef := take_filter_succ hi'
      rw [ht] at ef
      simp only [Bool.false_eq_true, if_false, List.append_nil] at ef
      refine ⟨⟨i + 1, by omega, rfl, by rw [ef], hE, c, f, hc, hr, fun k hk => ?_⟩, by omega⟩
      have hk3 : k < ((sl.take i).filter (·.2)).length := by rw [ef] at hk; exact hk
      rw [hf k hk3]; congr 1; simp only [ef]
  · have hil : i = sl.length := by omega
    subst hil
    simp only [List.take_length] at hf ⊢
    have s2 : stE 1 (.pointer (some ⟨b, 2, none⟩)) (.slice (some ⟨H.size, 0, none⟩) (2 * room) (2 * room)) H' = some (setB H' b (logC room top H.size (2 * room) (2 * room) fr sl.length ma fl el)) := by
      rw [st_ptr h'.log (by rw [logC_s]; omega) rfl rfl, logC_w2]
    have g2 := own_setB_same (c' := logC room top H.size (2 * room) (2 * room) fr sl.length ma fl el) h'.log
    have s3 : stE 1 (.pointer (some ⟨b, 3, none⟩)) (.int .i64 0) (setB H' b (logC room top H.size (2 * room) (2 * room) fr sl.length ma fl el)) = some (setB H' b (logC room top H.size (2 * room) (2 * room) 0 sl.length ma fl el)) := by
      rw [st_ptr g2 (by rw [logC_s]; omega) rfl rfl, logC_w3, setB_setB]
    have g3 := own_setB_same (c' := logC room top H.size (2 * room) (2 * room) 0 sl.length ma fl el) h'.log
    have s4 : stE 1 (.pointer (some ⟨b, 4, none⟩)) (iv (sl.filter (·.2)).length) (setB H' b (logC room top H.size (2 * room) (2 * room) 0 sl.length ma fl el)) = some (setB H' b (logC room top H.size (2 * room) (2 * room) 0 (sl.filter (·.2)).length ma fl el)) := by
      rw [st_ptr g3 (by rw [logC_s]; omega) rfl rfl, logC_w4, setB_setB]
    try simp only [ew, Nat.reduceAdd, Nat.reduceMul, Nat.reduceLeDiff, Int.reduceBNe, Int.reduceBEq, Int.reduceLT, Int.reduceLE, s2, s3, s4]
    refine hR _ ((hE.mono (by simp)).setB _ _ (Or.inl (by simp))) ⟨own_setB_same h'.log, by omega, hroom, by omega, Nat.le_trans (List.length_filter_le _ _) hlen, c, f, by rw [own_setB_ne (by omega)]; exact hc, hr, Nat.le_refl _, fun k hk => ?_⟩
    have : k < 2 * room := Nat.lt_of_lt_of_le hk (Nat.le_trans (List.length_filter_le _ _) hlen)
    rw [Nat.zero_add, Nat.mod_eq_of_lt this]; exact hf k hk
end Go.Hc
set_option linter.unusedSimpArgs false
set_option linter.unusedVariables false
namespace Go.Hc
open Go

/-- What Put answers. -/
def putE (room : Nat) (top : Int) (L : List Pkt) (p : Pkt) : Int := if May p then (if p.num ≤ top then 60 else if L.length = room then 5 else 0) else 2

theorem LogR.push {H : Heap} {b rb cap room fr : Nat} {top ma fl el : Int} {sl : List (Pkt × Bool)} (h : LogR H b rb cap room top fr sl ma fl el) (hl : sl.length < 2 * room) {p : Pkt} :
    ∃ H1, stE 7 (.pointer (some ⟨rb, (fr + sl.length) % (2 * room) * 7, none⟩)) (.agg (slotC (p, true))) H = some H1 ∧ Ext [rb] H H1 ∧ own H1 b = own H b ∧
      (∀ b', b' ≠ rb → own H1 b' = own H b') ∧
      ∃ c f, own H1 rb = some c ∧ Rows 7 c cap f ∧ 2 * room ≤ cap ∧ ∀ i (hi : i < (sl ++ [(p, true)]).length), f ((fr + i) % (2 * room)) = slotC (sl ++ [(p, true)])[i] := by
  obtain ⟨c, f, hc, hr, hcap, hf⟩ := h.ring
  have h1 := h.hroom
  have h4 := h.hfr
  have hlt : (fr + sl.length) % (2 * room) < cap := Nat.lt_of_lt_of_le (Nat.mod_lt _ (by omega)) hcap
  have hrl := row_lt (sz := 7) hlt
  have hsz := hr.size
  refine ⟨setB H rb (splice c ((fr + sl.length) % (2 * room) * 7) (slotC (p, true)).toList), ?_, (Ext.refl _ _).setB _ _ (Or.inl (by simp)), own_setB_ne h.ne, fun b' hb' => own_setB_ne hb', _, _, own_setB_same hc, hr.set hlt slotC_l, hcap, fun j hj => ?_⟩
  · simp only [stE_p, cells_agg, slotC_s, if_true]
    rw [wrA_u hc (by rw [slotC_l]; omega) slotC_a]
  · simp only [List.length_append, List.length_cons, List.length_nil] at hj
    by_cases hij : j = sl.length
    · subst hij; simp
    · have : (fr + j) % (2 * room) ≠ (fr + sl.length) % (2 * room) := by
        intro e
        rcases Nat.lt_or_ge (fr + sl.length) (2 * room) with h5 | h5 <;> rcases Nat.lt_or_ge (fr + j) (2 * room) with h6 | h6
        · rw [Nat.mod_eq_of_lt h5, Nat.mod_eq_of_lt h6] at e; omega
        · rw [Nat.mod_eq_of_lt h5, Nat.mod_eq_sub_mod h6, Nat.mod_eq_of_lt (by omega)] at e; omega
        · rw [Nat.mod_eq_of_lt h6, Nat.mod_eq_sub_mod h5, Nat.mod_eq_of_lt (by omega)] at e; omega
        · rw [Nat.mod_eq_sub_mod h5, Nat.mod_eq_sub_mod h6, Nat.mod_eq_of_lt (a := fr + j - 2 * room) (by omega), Nat.mod_eq_of_lt (by omega)] at e; omega
      have hj' : j < sl.length := by omega
      simp only [this, if_false, List.getElem_append_left hj']; exact hf j hj'

theorem up_push {sl : List (Pkt × Bool)} {top : Int} {p : Pkt} (h : Up sl) (hm : ∀ s ∈ sl, May s.1 ∧ s.1.num ≤ top) (hp : top < p.num) : Up (sl ++ [(p, true)]) := by
  refine List.pairwise_append.2 ⟨h, by simp, fun a ha b hb => ?_⟩
  have := (hm a ha).2
  simp only [List.mem_cons, List.not_mem_nil, or_false] at hb; subst hb
  simp only; omega
theorem filter_head {sl : List (Pkt × Bool)} : ∀ s ∈ (sl.filter (·.2)).head?, s.2 = true := by
  intro s hs
  have := List.mem_of_head? hs
  simpa using (List.mem_filter.1 this).2
theorem live_filter {sl : List (Pkt × Bool)} : live (sl.filter (·.2)) = live sl := by simp [live]

/-- The end of Put: the slot is laid, and the totals are told. -/
theorem Put_tail {H : Heap} {b rb cap room fr x : Nat} {top : Int} {sl : List (Pkt × Bool)} {L : List Pkt} {p : Pkt} {R : Value → Heap → Prop}
    (h : LogS H b rb cap room top fr sl L) (hl : sl.length < 2 * room) (hp : May p) (ht : top < p.num) (hf : L.length < room) (hx : own H x = some (pktC p)) (hxb : x ≠ b) (hxr : x ≠ rb)
    (hR : ∀ H', Ext [b, rb] H H' → LogOf H' b rb room p.num (L ++ [p]) → R (iv 0) H') : z62_s49 (ptr b) (ptr x) R H := by
  simp only [z62_s49, z62_g40, z62_g41, z62_g42, z62_g43, z62_g44, z62_g45, z62_g46, z62_g47, z62_g48, z62_g50, z62_g51, z62_g52, z62_g53, z62_g54, z62_g56, z62_g57, sent_Log_Put]
  have hroom := h.rep.hroom
  have hfr := h.rep.hfr
  have hlog := h.rep.log
  have l4 : ldE false 1 (.pointer (some ⟨b, 4, none⟩)) H = some (iv sl.length) := ld_ptr (own_blk hlog) logC_4
  have lx : ldE true 6 (ptr x) H = some (pv p) := by simp only [ldE_t, rdA_u, own_blk hx, Option.bind_some, pktC_g, Option.map_some]
  have hb : buildV #[(.int .i64 0), (.int .i64 0), (.int .i64 0), (.bool false), (.bool false), (.bool false), (.bool false)] (places [(0, 6), (6, 1)]) [(0, pv p), (1, (.bool true))] = some (.agg (slotC (p, true))) := rfl
  try simp only [ew, Nat.reduceAdd, Nat.reduceMul, Nat.reduceLeDiff, Int.reduceBNe, Int.reduceBEq, Int.reduceLT, Int.reduceLE, l4, lx, hb]
  refine at_ev hlog (by omega) (by omega) (by omega) ?_
  have e : (((fr : Int) + sl.length) % ((2 * room : Nat) : Int)).toNat = (fr + sl.length) % (2 * room) := by
    rw [← Int.natCast_add, ← Int.natCast_emod]; rfl
  rw [e]
  obtain ⟨H1, st1, e1, o1, o1', c1, f1, hc1, hr1, hcap1, hf1⟩ := h.rep.push hl (p := p)
  have lx2 : (bnd (ldE true 6 (ptr x) H) fun v' => v' = pv p) := by rw [lx, bnd_some]
  have hx1 : own H1 x = some (pktC p) := by rw [o1' _ hxr]; exact hx
  have hlog1 : own H1 b = some (logC room top rb (2 * room) cap fr sl.length L.length (flight L) (elic L)) := by rw [o1]; exact hlog
  have l41 : ldE false 1 (.pointer (some ⟨b, 4, none⟩)) H1 = some (iv sl.length) := ld_ptr (own_blk hlog1) logC_4
  have w1 : binV .int .add (iv sl.length) (.int .i64 1) = some (iv ((sl.length + 1 : Nat) : Int)) := by rw [bin_addw (by omega)]; rfl
  have s4 : stE 1 (.pointer (some ⟨b, 4, none⟩)) (iv ((sl.length + 1 : Nat) : Int)) H1 = some (setB H1 b (logC room top rb (2 * room) cap fr (sl.length + 1 : Nat) L.length (flight L) (elic L))) := by
    rw [st_ptr hlog1 (by rw [logC_s]; omega) rfl rfl, logC_w4]
  have hlog2 := own_setB_same (c' := logC room top rb (2 * room) cap fr (sl.length + 1 : Nat) L.length (flight L) (elic L)) hlog1
  have hx2 : own (setB H1 b (logC room top rb (2 * room) cap fr (sl.length + 1 : Nat) L.length (flight L) (elic L))) x = some (pktC p) := by rw [own_setB_ne hxb]; exact hx1
  have lx0 : ldE false 1 (ptr x) (setB H1 b (logC room top rb (2 * room) cap fr (sl.length + 1 : Nat) L.length (flight L) (elic L))) = some (iv p.num) := ld_ptr (own_blk hx2) pktC_0
  have s1 : stE 1 (.pointer (some ⟨b, 1, none⟩)) (iv p.num) (setB H1 b (logC room top rb (2 * room) cap fr (sl.length + 1 : Nat) L.length (flight L) (elic L))) = some (setB H1 b (logC room p.num rb (2 * room) cap fr (sl.length + 1 : Nat) L.length (flight L) (elic L))) := by
    rw [st_ptr hlog2 (by rw [logC_s]; omega) rfl rfl, logC_w1, setB_setB]
  have hlog3 := own_setB_same (c' := logC room p.num rb (2 * room) cap fr (sl.length + 1 : Nat) L.length (flight L) (elic L)) hlog1
  have hx3 : own (setB H1 b (logC room p.num rb (2 * room) cap fr (sl.length + 1 : Nat) L.length (flight L) (elic L))) x = some (pktC p) := by rw [own_setB_ne hxb]; exact hx1
  have lx3 : ldE true 6 (ptr x) (setB H1 b (logC room p.num rb (2 * room) cap fr (sl.length + 1 : Nat) L.length (flight L) (elic L))) = some (pv p) := by simp only [ldE_t, rdA_u, own_blk hx3, Option.bind_some, pktC_g, Option.map_some]
  refine ⟨lx2, ?_⟩
  try simp only [ew, Nat.reduceAdd, Nat.reduceMul, Nat.reduceLeDiff, Int.reduceBNe, Int.reduceBEq, Int.reduceLT, Int.reduceLE, st1, l41, w1, s4, lx0, s1, lx3]
  have hfl := flight_le (L := L) fun p hp => (h.mayL p hp).1
  have hel := elic_le (L := L)
  refine more_ev hlog3 (by omega) (by omega) (by omega) (by unfold May at hp; omega) fun H2 he2 ho2 hx2' => ?_
  have hrb := own_lt hc1
  refine hR H2 (((e1.mono (by simp)).setB _ _ (Or.inl (by simp))).trans (he2.mono (by simp))) ⟨cap, fr, sl ++ [(p, true)], ⟨?_, h.rep.ne, hroom, hfr, by simp; omega, c1, f1, ?_, hr1, hcap1, hf1⟩, up_push h.up h.may ht, by rw [live_app, h.liv]; rfl, ?_, by unfold May at hp; omega, by simp; omega, ?_⟩
  · rw [ho2, flight_app, elic_app]
    simp only [flight, elic, List.length_append, List.length_cons, List.length_nil]
    congr 2
    · cases p.fl <;> simp
    · cases p.fl <;> cases p.el <;> simp
  · rw [hx2' rb (Ne.symm h.rep.ne) (by rw [size_setB]; exact hrb), own_setB_ne (Ne.symm h.rep.ne)]; exact hc1
  · intro s hs
    rcases List.mem_append.1 hs with h1 | h1
    · have := h.may s h1; exact ⟨this.1, by omega⟩
    · simp only [List.mem_cons, List.not_mem_nil, or_false] at h1; subst h1; exact ⟨hp, Int.le_refl _⟩
  · intro s hs
    cases hsl : sl with
    | nil => rw [hsl] at hs; simp at hs; subst hs; rfl
    | cons s' sl' => rw [hsl] at hs; simp at hs; exact h.head s (by rw [hsl]; simp [hs])

theorem Put_ev {H : Heap} {b rb room : Nat} {top : Int} {L : List Pkt} {p : Pkt} {R : Value → Heap → Prop} (h : LogOf H b rb room top L)
    (hR : ∀ H' rb', Ext [b, rb] H H' → (rb' = rb ∨ H.size ≤ rb') → LogOf H' b rb' room (if putE room top L p = 0 then p.num else top) (if putE room top L p = 0 then L ++ [p] else L) → R (iv (putE room top L p)) H') :
    EvF P N.sent_Log_Put #[ptr b, pv p] H R := by
  have hlt := h.lt
  obtain ⟨cap, fr, sl, h⟩ := h
  have bad : ∀ (n : Int) (H' : Heap), n ≠ 0 → putE room top L p = n → Ext [] H H' → R (iv n) H' := fun n H' hn hp he => by
    have := hR H' rb (he.mono (by simp)) (Or.inl rfl)
    rw [hp, if_neg hn, if_neg hn] at this
    exact this ⟨cap, fr, sl, h.ext he (by simp) (by simp)⟩
  refine z62_ev _ _ _ _ ?_
  simp only [z62_g40, z62_g41, z62_g42, z62_g43, z62_g44, z62_g45, z62_g46, z62_g47, z62_g48, z62_g50, z62_g51, z62_g52, z62_g53, z62_g54, z62_g56, z62_g57, sent_Log_Put]
  have e0 : Ext [] H (newB H 40 (pktC p)) := (Ext.refl _ _).newB _ _
  have h0 := h.ext e0 (by simp) (by simp)
  have hroom := h.rep.hroom
  try simp only [ew, Nat.reduceAdd, Nat.reduceMul, Nat.reduceLeDiff, Int.reduceBNe, Int.reduceBEq, Int.reduceLT, Int.reduceLE]
  refine none_ev h0.rep.log (by omega) ?_
  have lx : ldE true 6 (ptr H.size) (newB H 40 (pktC p)) = some (pv p) := ld_pkt (Ext.refl _ _)
  try simp only [ew, Nat.reduceAdd, Nat.reduceMul, Nat.reduceLeDiff, Int.reduceBNe, Int.reduceBEq, Int.reduceLT, Int.reduceLE, lx]
  refine may_ev fun H' he => ?_
  have h' := h0.ext he (by simp) (by simp)
  have hx : own H' H.size = some (pktC p) := he.own own_newB_self (by simp)
  have eH : Ext [] H H' := e0.trans he
  have hmay : (Value.bool !decide (May p)) = .bool (decide (¬ May p)) := by by_cases hm : May p <;> simp [hm]
  try simp only [ew, Nat.reduceAdd, Nat.reduceMul, Nat.reduceLeDiff, Int.reduceBNe, Int.reduceBEq, Int.reduceLT, Int.reduceLE, hmay]
  refine brV_d (fun hm => ?_) (fun hm => ?_)
  · exact bad 2 H' (by decide) (by simp [putE, hm]) eH
  · have hm' : May p := Decidable.of_not_not hm
    have lx0 : ldE false 1 (ptr H.size) H' = some (iv p.num) := ld_ptr (own_blk hx) pktC_0
    have l1 : ldE false 1 (.pointer (some ⟨b, 1, none⟩)) H' = some (iv top) := ld_ptr (own_blk h'.rep.log) logC_1
    have l5 : ldE false 1 (.pointer (some ⟨b, 5, none⟩)) H' = some (iv L.length) := ld_ptr (own_blk h'.rep.log) logC_5
    have l00 : ldE false 1 (ptr b) H' = some (iv room) := ld_ptr (own_blk h'.rep.log) logC_0
    have l4 : ldE false 1 (.pointer (some ⟨b, 4, none⟩)) H' = some (iv sl.length) := ld_ptr (own_blk h'.rep.log) logC_4
    have l2 : ldE false 1 (.pointer (some ⟨b, 2, none⟩)) H' = some (.slice (some ⟨rb, 0, none⟩) (2 * room) cap) := ld_ptr (own_blk h'.rep.log) logC_2
    try simp only [ew, Nat.reduceAdd, Nat.reduceMul, Nat.reduceLeDiff, Int.reduceBNe, Int.reduceBEq, Int.reduceLT, Int.reduceLE, lx0, l1]
    refine brV_d (fun ht => ?_) (fun ht => ?_)
    · exact bad 60 H' (by decide) (by simp [putE, hm', ht]) eH
    · try simp only [ew, Nat.reduceAdd, Nat.reduceMul, Nat.reduceLeDiff, Int.reduceBNe, Int.reduceBEq, Int.reduceLT, Int.reduceLE, l5, l00]
      refine brV_i (fun hr => ?_) (fun hr => ?_)
      · have hr' : L.length = room := by have : (L.length : Int) = room := by simpa using hr
                                         omega
        exact bad 5 H' (by decide) (by simp [putE, hm', ht, hr']) eH
      · have hr' : L.length ≠ room := by have : (L.length : Int) ≠ room := by simpa using hr
                                         omega
        have hfew := h.few
        have hput : putE room top L p = 0 := by simp [putE, hm', ht, hr']
        rw [hput] at hR
        simp only [if_true] at hR
        try simp only [ew, Nat.reduceAdd, Nat.reduceMul, Nat.reduceLeDiff, Int.reduceBNe, Int.reduceBEq, Int.reduceLT, Int.reduceLE, l4, l2]
        refine brV_i (fun hlen => ?_) (fun hlen => ?_)
        · refine pack_ev h'.rep fun H2 he2 hr2 => ?_
          have hsz := eH.size
          have hx2 : own H2 H.size = some (pktC p) := he2.own hx (by simp; omega)
          have hxl := own_lt hx
          have hs2 : LogS H2 b H'.size (2 * room) room top 0 (sl.filter (·.2)) L := ⟨hr2, h.up.filter _, by rw [live_filter, h.liv], fun s hs => h.may s (List.mem_filter.1 hs).1, h.htop, h.few, filter_head⟩
          have hfl : (sl.filter (·.2)).length = L.length := by rw [← h.liv]; simp [live]
          refine Put_tail hs2 (by omega) hm' (by omega) (by omega) hx2 (by omega) (by omega) fun H3 he3 hl3 => ?_
          refine hR H3 H'.size (((eH.mono (by simp)).trans (he2.mono (by simp))).thru he3 ?_) (Or.inr hsz) hl3
          intro b' hb'
          simp only [List.mem_cons, List.not_mem_nil, or_false] at hb' ⊢
          omega
        · have hl' : (sl.length : Int) ≠ ((2 * room : Nat) : Int) := by simpa using hlen
          have h5 := h.rep.hlen
          refine Put_tail h' (by omega) hm' (by omega) (by omega) hx (by omega) (by omega) fun H3 he3 hl3 => ?_
          exact hR H3 rb ((eH.mono (by simp)).trans he3) (Or.inl rfl) hl3
end Go.Hc
set_option linter.unusedSimpArgs false
set_option linter.unusedVariables false
namespace Go.Hc
open Go

def within (lo hi : Int) (L : List Pkt) : List Pkt := L.filter fun p => decide (lo ≤ p.num) && decide (p.num ≤ hi)
theorem within_take_succ {sl : List (Pkt × Bool)} {i : Nat} (hi : i < sl.length) : live (sl.take (i + 1)) = live (sl.take i) ++ (if sl[i].2 then [sl[i].1] else []) := by
  rw [List.take_succ_eq_append_getElem hi, live_app]
  cases h : sl[i].2 <;> simp [live, h]
theorem live_len {sl : List (Pkt × Bool)} : (live sl).length ≤ sl.length := by simp [live]; exact List.length_filter_le _ _

theorem each_ev {H : Heap} {b rb cap room fr : Nat} {top ma fl el lo hi : Int} {sl : List (Pkt × Bool)} {f : Value} {R : Value → Heap → Prop} {Inv : List Pkt → Heap → Prop}
    (h0 : Inv [] H) (hI : ∀ l H', Inv l H' → LogR H' b rb cap room top fr sl ma fl el) (hu : Up sl)
    (hE : ∀ l H' H'', Inv l H' → Ext [] H' H'' → Inv l H'')
    (hdo : ∀ l p H' Q, l.length < 512 → Inv l H' → (∀ H'' v, Inv (l ++ [p]) H'' → Q v H'') → callV P f [pv p] H' Q)
    (hR : ∀ H', Inv (within lo hi (live sl)) H' → R (.tuple #[]) H') : EvF P N.sent_Log_each #[ptr b, iv lo, iv hi, f] H R := by
  have h := hI _ _ h0
  have hroom := h.hroom
  have hlen := h.hlen
  refine z136_ev _ _ _ _ _ _ ?_
  simp only [z136_g23, z136_g24, z136_g26, z136_g28, z136_s27, z136_g32, z136_g33, z136_g34, z136_s25, z136_l35, sent_Log_each]
  refine none_ev h.log (by omega) ?_
  try simp only [ew, Nat.reduceAdd, Nat.reduceMul, Nat.reduceLeDiff, Int.reduceBNe, Int.reduceBEq, Int.reduceLT, Int.reduceLE]
  refine find_ev h hu fun k H1 he hk ha hb => ?_
  have hk0 : within lo hi (live (sl.take k)) = [] := by
    unfold within
    rw [List.filter_eq_nil_iff]
    intro p hp
    have hm := mem_live.1 hp
    obtain ⟨j, hj, hjq⟩ := List.getElem_of_mem hm
    rw [List.length_take] at hj
    rw [List.getElem_take] at hjq
    have := ha j (by omega) (by omega)
    rw [hjq] at this
    simp only at this
    simp; omega
  refine ⟨fun v H' => ∃ i : Nat, k ≤ i ∧ i ≤ sl.length ∧ v = iv i ∧ Inv (within lo hi (live (sl.take i))) H',
    fun v _ => (match v with | Value.int _ i => (sl.length - i).toNat | _ => 0), ⟨k, Nat.le_refl _, hk, rfl, by rw [hk0]; exact hE _ _ _ h0 he⟩, ?_⟩
  rintro v H' ⟨i, hki, hil, rfl, hinv⟩
  have h' := hI _ _ hinv
  have l4 : ldE false 1 (.pointer (some ⟨b, 4, none⟩)) H' = some (iv sl.length) := ld_ptr (own_blk h'.log) logC_4
  have w1 : binV .int .add (iv i) (.int .i64 1) = some (iv ((i + 1 : Nat) : Int)) := by rw [bin_addw (by omega)]; rfl
  try simp only [ew, Nat.reduceAdd, Nat.reduceMul, Nat.reduceLeDiff, Int.reduceBNe, Int.reduceBEq, Int.reduceLT, Int.reduceLE, l4]
  refine brV_d (fun hlt => ?_) (fun hlt => ?_)
  · have hi' : i < sl.length := by omega
    refine h'.at hi' fun o c hc h0' h6 hg ho => ?_
    have ln : ldE false 1 (.pointer (some ⟨rb, o, none⟩)) H' = some (iv sl[i].1.num) := ld_ptr hc h0'
    try simp only [ew, Nat.reduceAdd, Nat.reduceMul, Nat.reduceLeDiff, Int.reduceBNe, Int.reduceBEq, Int.reduceLT, Int.reduceLE, ln]
    refine brV_d (fun hle => ?_) (fun hle => ?_)
    · refine h'.at hi' fun o c hc h0' h6 hg ho => ?_
      have l6 : ldE false 1 (.pointer (some ⟨rb, o + 6, none⟩)) H' = some (.bool sl[i].2) := ld_ptr hc h6
      have lp : ldE true 6 (.pointer (some ⟨rb, o, none⟩)) H' = some (pv sl[i].1) := by simp only [ldE_t, rdA_u, hc, Option.bind_some, hg, Option.map_some]
      try simp only [ew, Nat.reduceAdd, Nat.reduceMul, Nat.reduceLeDiff, Int.reduceBNe, Int.reduceBEq, Int.reduceLT, Int.reduceLE, l6]
      have es := within_take_succ hi'
      refine brV_i (fun ht => ?_) (fun ht => ?_)
      · simp only [nilV_p, faV_p, bnd_some, Nat.add_zero, lp]
        have hcnt : (within lo hi (live (sl.take i))).length < 512 := by
          have h1 : (within lo hi (live (sl.take i))).length ≤ (live (sl.take i)).length := List.length_filter_le _ _
          have h2 := live_len (sl := sl.take i)
          rw [List.length_take] at h2; omega
        refine hdo _ _ _ _ hcnt hinv fun H'' v hinv' => ?_
        simp only [w1, bnd_some]
        refine ⟨⟨i + 1, by omega, by omega, rfl, ?_⟩, by omega⟩
        have hge := hb i hi' hki
        have : within lo hi (live (sl.take (i + 1))) = within lo hi (live (sl.take i)) ++ [sl[i].1] := by
          rw [es, ht]; simp [within, hge, hle]
        rw [this]; exact hinv'
      · simp only [w1, bnd_some]
        refine ⟨⟨i + 1, by omega, by omega, rfl, ?_⟩, by omega⟩
        rw [es, ht]; simpa using hinv
    · have hend : within lo hi (live sl) = within lo hi (live (sl.take i)) := by
        conv => lhs; rw [← List.take_append_drop i sl, live_app]
        unfold within
        rw [List.filter_append]
        have : (live (sl.drop i)).filter (fun p => decide (lo ≤ p.num) && decide (p.num ≤ hi)) = [] := by
          rw [List.filter_eq_nil_iff]
          intro p hp
          obtain ⟨j, hj, hjq⟩ := List.getElem_of_mem (mem_live.1 hp)
          rw [List.length_drop] at hj
          rw [List.getElem_drop] at hjq
          rcases Nat.eq_zero_or_pos j with h1 | h1
          · subst h1
            simp only [Nat.add_zero] at hjq
            rw [hjq] at hle; simp only at hle; simp; omega
          · have := hu.lt hi' (show i + j < sl.length by omega) (by omega)
            rw [hjq] at this; simp only at this; simp; omega
        rw [this, List.append_nil]
      exact hR _ (by rw [hend]; exact hinv)
  · have hil' : i = sl.length := by omega
    subst hil'
    rw [List.take_length] at hinv
    exact hR _ hinv

theorem row_put_ev {H : Heap} {xb : Nat} {v : Value} {S : List Nat} {l : List Pkt} {p : Pkt} {R : Value → Heap → Prop} (hx : own H xb = some #[v]) (hv : OwnL pktE H v S l) (hxs : xb ∉ S) (hl : l.length < 512)
    (hR : ∀ H' v' S', Ext (xb :: S) H H' → own H' xb = some #[v'] → OwnL pktE H' v' S' (l ++ [p]) → (∀ b ∈ S', b ∈ S ∨ H.size ≤ b) → R (.tuple #[]) H') : EvF P N.sent_row_put #[ptr xb, pv p] H R := by
  refine z137_ev _ _ _ _ ?_
  simp only [z137_g4, z137_g5, sent_row_put]
  have e0 : Ext [] H (newB H 40 (pktC p)) := (Ext.refl _ _).newB _ _
  have hx0 : own (newB H 40 (pktC p)) xb = some #[v] := e0.own hx (by simp)
  have lx : ldE true 6 (ptr H.size) (newB H 40 (pktC p)) = some (pv p) := ld_pkt (Ext.refl _ _)
  have l0 : ldE false 1 (ptr xb) (newB H 40 (pktC p)) = some v := ld_ptr (own_blk hx0) rfl
  have hxl := own_lt hx
  try simp only [ew, Nat.reduceAdd, Nat.reduceMul, Nat.reduceLeDiff, Int.reduceBNe, Int.reduceBEq, Int.reduceLT, Int.reduceLE, lx, l0]
  refine bslE_1 (E := pktE) (a := p) rfl (fun H1 hs1 he1 ho1 => ?_) (by decide)
  have hx1 : own H1 xb = some #[v] := he1.own hx0 (by simp)
  have l1 : ldE false 1 (ptr xb) H1 = some v := ld_ptr (own_blk hx1) rfl
  have eH1 : Ext [] H H1 := e0.trans he1
  have hv1 : OwnL pktE H1 v S l := hv.ext eH1 (by simp)
  refine ⟨by rw [l1, bnd_some], ?_⟩
  refine appE_l (E := pktE) hv1 ho1.show (by simp only [List.length_cons, List.length_nil]; omega) (by decide) (by simp; omega) fun v' S' H2 he2 hs2 hv2 => ?_
  have hx2 : own H2 xb = some #[v] := he2.own hx1 hxs
  have hcell : v'.cells = #[v'] ∧ isCell v' = true := hv2.cell
  have st : stE 1 (ptr xb) v' H2 = some (setB H2 xb #[v']) := by
    rw [st_ptr hx2 (by simp) hcell.1 hcell.2]; rfl
  try simp only [ew, Nat.reduceAdd, Nat.reduceMul, Nat.reduceLeDiff, Int.reduceBNe, Int.reduceBEq, Int.reduceLT, Int.reduceLE, st]
  have hsz := eH1.size
  have hnx : xb ∉ S' := fun hm => (hs2 _ hm).elim hxs (fun h => by omega)
  refine hR _ v' S' (((eH1.mono (by simp)).trans (he2.mono (by simp; exact fun b hb => Or.inl (Or.inr hb)))).setB _ _ (Or.inl (by simp))) (own_setB_same hx2) (hv2.ext ((Ext.refl [xb] _).setB _ _ (Or.inl (by simp))) ?_) fun b hb => ?_
  · intro b hb hb'; simp only [List.mem_cons, List.not_mem_nil, or_false] at hb'; subst hb'; exact hnx hb
  · rcases hs2 b hb with h | h
    · exact Or.inl h
    · exact Or.inr (by omega)

theorem Between_ev {H : Heap} {b rb room : Nat} {top lo hi : Int} {L : List Pkt} {R : Value → Heap → Prop} (h : LogOf H b rb room top L)
    (hR : ∀ H' v S, Ext [] H H' → OwnL pktE H' v S (within lo hi L) → (∀ b ∈ S, H.size ≤ b) → R v H') : EvF P N.sent_Log_Between #[ptr b, iv lo, iv hi] H R := by
  obtain ⟨cap, fr, sl, h⟩ := h
  refine z92_ev _ _ _ _ _ ?_
  simp only [z92_g9, z92_g10, z92_g11, z92_g12, sent_Log_Between]
  have e0 : Ext [] H (newB H 153 #[.slice none 0 0]) := (Ext.refl _ _).newB _ _
  try simp only [ew, Nat.reduceAdd, Nat.reduceMul, Nat.reduceLeDiff, Int.reduceBNe, Int.reduceBEq, Int.reduceLT, Int.reduceLE]
  refine each_ev (Inv := fun l H' => Ext [] H H' ∧ ∃ v S, own H' H.size = some #[v] ∧ OwnL pktE H' v S l ∧ H.size ∉ S ∧ ∀ b ∈ S, H.size ≤ b)
    ⟨e0, _, [], own_newB_self, .nil, by simp, by simp⟩ (fun l H' hi => h.rep.ext hi.1 (by simp) (by simp)) h.up ?_ ?_ ?_
  · rintro l H' H'' ⟨a, v, S, hv, ho, hn, hs⟩ he
    exact ⟨a.trans he, v, S, he.own hv (by simp), ho.ext he (by simp), hn, hs⟩
  · rintro l p H' Q hl ⟨a, v, S, hv, ho, hn, hs⟩ hQ
    try simp only [ew, Nat.reduceAdd, Nat.reduceMul, Nat.reduceLeDiff, Int.reduceBNe, Int.reduceBEq, Int.reduceLT, Int.reduceLE, Array.toList_empty, List.nil_append, List.append_nil, List.cons_append]
    refine row_put_ev hv ho hn hl fun H'' v' S' he hv' ho' hs' => hQ _ _ ⟨a.thru he ?_, v', S', hv', ho', ?_, ?_⟩
    · intro b hb
      rcases List.mem_cons.1 hb with rfl | hb
      · exact Or.inr (Nat.le_refl _)
      · exact Or.inr (hs b hb)
    · have hsz := a.size
      have hxl := own_lt hv
      intro hm; rcases hs' _ hm with h1 | h1
      · exact hn h1
      · omega
    · have hsz := a.size
      intro b hb; rcases hs' b hb with h1 | h1
      · exact hs b h1
      · omega
  · rintro H' ⟨a, v, S, hv, ho, hn, hs⟩
    have l0 : ldE false 1 (ptr H.size) H' = some v := ld_ptr (own_blk hv) rfl
    try simp only [ew, Nat.reduceAdd, Nat.reduceMul, Nat.reduceLeDiff, Int.reduceBNe, Int.reduceBEq, Int.reduceLT, Int.reduceLE, l0]
    rw [h.liv] at ho
    exact hR H' v S a ho hs
theorem All_ev {H : Heap} {b rb room : Nat} {top : Int} {L : List Pkt} {R : Value → Heap → Prop} (h : LogOf H b rb room top L)
    (hR : ∀ H' v S, Ext [] H H' → OwnL pktE H' v S L → (∀ b ∈ S, H.size ≤ b) → R v H') : EvF P N.sent_Log_All #[ptr b] H R := by
  refine z50_ev _ _ _ ?_
  simp only [z50_g5, z50_g6, sent_Log_All]
  refine Between_ev h fun H' v S he ho hs => ?_
  have : within 0 9007199254740991 L = L := by
    obtain ⟨cap, fr, sl, h⟩ := h
    unfold within
    rw [List.filter_eq_self]; intro p hp
    have := (h.mayL p hp).1
    unfold May at this; simp; omega
  rw [this] at ho
  exact hR H' v S he ho hs

theorem Copy_ev {H : Heap} {b rb room : Nat} {top : Int} {L : List Pkt} {R : Value → Heap → Prop} (h : LogOf H b rb room top L)
    (hR : ∀ H' b' rb', Ext [] H H' → H.size ≤ b' → H.size ≤ rb' → LogOf H' b' rb' room top L → R (ptr b') H') : EvF P N.sent_Log_Copy #[ptr b] H R := by
  have hlt := h.lt
  obtain ⟨cap, fr, sl, h⟩ := h
  have hroom := h.rep.hroom
  refine z84_ev _ _ _ ?_
  simp only [z84_g15, z84_g16, z84_g17, z84_g18, z84_g19, z84_g20, sent_Log_Copy]
  refine none_ev h.rep.log (by omega) ?_
  have l8 : ldE true 8 (ptr b) H = some (.agg (logC room top rb (2 * room) cap fr sl.length L.length (flight L) (elic L))) := by
    simp only [ldE_t, rdA_u, own_blk h.rep.log, Option.bind_some]; rfl
  have s8 : ∀ c : Array Value, c.size = 8 → stE 8 (ptr H.size) (.agg (logC room top rb (2 * room) cap fr sl.length L.length (flight L) (elic L))) (newB H 119 c) =
      some (newB H 119 (logC room top rb (2 * room) cap fr sl.length L.length (flight L) (elic L))) := fun c hc => by
    simp only [stE_p, cells_agg, logC_s, if_true]
    rw [wrA_u own_newB_self (by rw [hc]; exact Nat.le_refl _) (by simp [logC, isCell]), setB_newB_self, splice_all (by rw [hc]; rfl)]
  try simp only [ew, Nat.reduceAdd, Nat.reduceMul, Nat.reduceLeDiff, Int.reduceBNe, Int.reduceBEq, Int.reduceLT, Int.reduceLE, l8]
  rw [s8 _ rfl, bnd_some]
  generalize hH1 : newB H 119 (logC room top rb (2 * room) cap fr sl.length L.length (flight L) (elic L)) = H1
  have e1 : Ext [] H H1 := by rw [← hH1]; exact (Ext.refl _ _).newB _ _
  have o1 : own H1 H.size = some (logC room top rb (2 * room) cap fr sl.length L.length (flight L) (elic L)) := by rw [← hH1]; exact own_newB_self
  have h1 := h.ext e1 (by simp) (by simp)
  have hs1 : H1.size = H.size + 1 := by rw [← hH1, size_newB]
  have l2 : ldE false 1 (.pointer (some ⟨b, 2, none⟩)) H1 = some (.slice (some ⟨rb, 0, none⟩) (2 * room) cap) := ld_ptr (own_blk h1.rep.log) logC_2
  try simp only [ew, Nat.reduceAdd, Nat.reduceMul, Nat.reduceLeDiff, Int.reduceBNe, Int.reduceBEq, Int.reduceLT, Int.reduceLE, l2]
  refine z131_ev _ _ _ ?_
  simp only [z131_g11, z131_g12, z131_g13, z131_g14, slices_Clone_slot]
  try simp only [ew, Nat.reduceAdd, Nat.reduceMul, Nat.reduceLeDiff, Int.reduceBNe, Int.reduceBEq, Int.reduceLT, Int.reduceLE]
  refine ⟨by decide, ?_⟩
  obtain ⟨c, f, hc, hr, hcap, hf⟩ := h1.rep.ring
  have hsz := hr.size
  have hrl : 2 * room * 7 ≤ cap * 7 := Nat.mul_le_mul_right 7 hcap
  simp only [fillA, bnd_some]
  generalize hH2 : newB H1 137 (repZ #[(.int .i64 0), (.int .i64 0), (.int .i64 0), (.bool false), (.bool false), (.bool false), (.bool false)] 0) = H2
  have e2 : Ext [] H1 H2 := by rw [← hH2]; exact (Ext.refl _ _).newB _ _
  have hs2 : H2.size = H1.size + 1 := by rw [← hH2, size_newB]
  have hc2 := e2.own hc (by simp)
  have o2 := e2.own o1 (by simp)
  have hread : rdS H2 7 (2 * room) (some ⟨rb, 0, none⟩) = some (c.extract 0 (2 * room * 7)) := by
    simp only [rdS, rdA, own_blk hc2, getC, Nat.zero_add]; rw [if_pos (by omega)]
  have hread0 : ∃ x, rdS H2 7 0 (some ⟨H1.size, 0, none⟩) = some x ∧ x = #[] := by
    have o : own H2 H1.size = some (repZ #[(.int .i64 0), (.int .i64 0), (.int .i64 0), (.bool false), (.bool false), (.bool false), (.bool false)] 0) := by rw [← hH2]; exact own_newB_self
    refine ⟨_, by simp only [rdS, rdA, own_blk o, getC, Nat.zero_add, Nat.zero_mul]; rw [if_pos (Nat.zero_le _)], by simp⟩
  obtain ⟨x0, hread0, rfl⟩ := hread0
  unfold appE
  dsimp only
  rw [hread, bnd_some, if_neg (by omega), hread0, bnd_some]
  refine ⟨by omega, fun cap' hcap' hcap2' => ?_⟩
  have hrows : Rows 7 (#[] ++ c.extract 0 (2 * room * 7) ++ repZ (slotC (pkt0, false)) (cap' - (0 + 2 * room))) cap' (fun i => if i < 2 * room then f i else slotC (pkt0, false)) := by
    have := (hr.take hcap).app (Rows.zero (sz := 7) (cap' - (0 + 2 * room)) (z := slotC (pkt0, false)) rfl)
    rw [show 2 * room + (cap' - (0 + 2 * room)) = cap' from by omega] at this
    rw [Array.empty_append]; exact this
  generalize hcs : (#[] ++ c.extract 0 (2 * room * 7) ++ repZ (slotC (pkt0, false)) (cap' - (0 + 2 * room))) = cs at hrows
  have hcs' : (#[] ++ c.extract 0 (2 * room * 7) ++ repZ #[(.int .i64 0), (.int .i64 0), (.int .i64 0), (.bool false), (.bool false), (.bool false), (.bool false)] (cap' - (0 + 2 * room))) = cs := hcs
  rw [hcs']
  have o3 : own (newB H2 137 cs) H.size = some (logC room top rb (2 * room) cap fr sl.length L.length (flight L) (elic L)) := by rw [own_newB_ne (by omega)]; exact o2
  have s2 : stE 1 (.pointer (some ⟨H.size, 2, none⟩)) (.slice (some ⟨H2.size, 0, none⟩) (2 * room) cap') (newB H2 137 cs) = some (setB (newB H2 137 cs) H.size (logC room top H2.size (2 * room) cap' fr sl.length L.length (flight L) (elic L))) := by
    rw [st_ptr o3 (by rw [logC_s]; omega) rfl rfl, logC_w2]
  try simp only [ew, Nat.reduceAdd, Nat.reduceMul, Nat.reduceLeDiff, Int.reduceBNe, Int.reduceBEq, Int.reduceLT, Int.reduceLE, s2]
  refine hR _ H.size H2.size (((e1.trans e2).newB _ _).setB _ _ (Or.inr (Nat.le_refl _))) (Nat.le_refl _) (by omega) ⟨cap', fr, sl, ⟨own_setB_same o3, by omega, hroom, h.rep.hfr, h.rep.hlen, cs, _, ?_, hrows, by omega, fun i hi => ?_⟩, h.up, h.liv, h.may, h.htop, h.few, h.head⟩
  · rw [own_setB_ne (by omega), own_newB_self]
  · rw [if_pos (Nat.mod_lt _ (by omega))]; exact hf i hi
end Go.Hc
set_option linter.unusedSimpArgs false
set_option linter.unusedVariables false
namespace Go.Hc
open Go

theorem LogOf.same {H H' : Heap} {b rb room : Nat} {top : Int} {L : List Pkt} (h : LogOf H b rb room top L) (h1 : H'.arr[b]? = H.arr[b]?) (h2 : H'.arr[rb]? = H.arr[rb]?) : LogOf H' b rb room top L := by
  obtain ⟨cap, fr, sl, h⟩ := h
  obtain ⟨c, f, hc, hr, hcap, hf⟩ := h.rep.ring
  exact ⟨cap, fr, sl, ⟨own_same h.rep.log h1, h.rep.ne, h.rep.hroom, h.rep.hfr, h.rep.hlen, c, f, own_same hc h2, hr, hcap, hf⟩, h.up, h.liv, h.may, h.htop, h.few, h.head⟩
def logA (b room : Nat) (top : Int) (L : List Pkt) : Asr where
  holds H T := ∃ rb, T = [b, rb] ∧ LogOf H b rb room top L
  stable := fun ⟨rb, a, h⟩ e => by subst a; exact ⟨rb, rfl, h.same (e _ (by simp)) (e _ (by simp))⟩
  lt := fun ⟨rb, a, h⟩ y hy => by
    subst a; have := h.lt
    simp only [List.mem_cons, List.not_mem_nil, or_false] at hy
    rcases hy with rfl | rfl
    · exact this.1
    · exact this.2
section
variable {H0 H : Heap} {Qs : List Asr} {b room : Nat} {top : Int} {L : List Pkt} {R : Value → Heap → Prop}
theorem New_sep {r : Int} (h : Sep H0 H Qs) (hbad : ¬ (1 ≤ r ∧ r ≤ 256) → R (.tuple #[.pointer none, iv 2]) H)
    (hok : ∀ (room b : Nat) H', r = room → 1 ≤ room → room ≤ 256 → Sep H0 H' (logA b room (-1) [] :: Qs) → R (.tuple #[ptr b, iv 0]) H') : EvF P N.sent_New #[iv r] H R :=
  New_ev hbad fun room hr h1 h2 H' he hl => hok room _ H' hr h1 h2 (h.new he (T := [H.size + 1, H.size]) ⟨H.size, rfl, hl⟩ (by simp))
theorem Put_sep {p : Pkt} (h : Sep H0 H (logA b room top L :: Qs))
    (hR : ∀ H', Sep H0 H' (logA b room (if putE room top L p = 0 then p.num else top) (if putE room top L p = 0 then L ++ [p] else L) :: Qs) → R (iv (putE room top L p)) H') :
    EvF P N.sent_Log_Put #[ptr b, pv p] H R := by
  obtain ⟨T, ⟨rb, rfl, hl⟩, hk⟩ := h.get
  refine Put_ev hl fun H' rb' he hrb hl' => hR H' (hk (logA _ _ _ _) H' [b, rb'] he ⟨rb', rfl, hl'⟩ fun x hx => ?_)
  simp only [List.mem_cons, List.not_mem_nil, or_false] at hx ⊢
  omega
theorem Drop_sep {n : Int} (h : Sep H0 H (logA b room top L :: Qs))
    (hR : ∀ H', Sep H0 H' (logA b room top (L.filter fun p => p.num != n) :: Qs) → R (opt (L.find? fun p => p.num == n)) H') : EvF P N.sent_Log_Drop #[ptr b, iv n] H R := by
  obtain ⟨T, ⟨rb, rfl, hl⟩, hk⟩ := h.get
  exact Drop_ev hl fun H' he hl' => hR H' (hk (logA _ _ _ _) H' [b, rb] he ⟨rb, rfl, hl'⟩ fun x hx => Or.inl hx)
theorem Clear_sep (h : Sep H0 H (logA b room top L :: Qs))
    (hR : ∀ H', Sep H0 H' (logA b room top [] :: Qs) → R (.tuple #[]) H') : EvF P N.sent_Log_Clear #[ptr b] H R := by
  obtain ⟨T, ⟨rb, rfl, hl⟩, hk⟩ := h.get
  refine Clear_ev hl fun H' he hl' => hR H' (hk (logA _ _ _ _) H' [b, rb] (he.mono fun x hx => Or.inl ?_) ⟨rb, rfl, hl'⟩ fun x hx => Or.inl hx)
  simp at hx; simp [hx]
theorem Oldest_sep (h : Sep H0 H (logA b room top L :: Qs))
    (hR : ∀ H', Sep H0 H' (logA b room top L :: Qs) → R (opt L.head?) H') : EvF P N.sent_Log_Oldest #[ptr b] H R := by
  obtain ⟨T, ⟨rb, rfl, hl⟩, _⟩ := h.get
  exact Oldest_ev hl fun H' he => hR H' (h.ext he)
theorem Last_sep (h : Sep H0 H (logA b room top L :: Qs)) (hR : R (iv top) H) : EvF P N.sent_Log_Last #[ptr b] H R := by
  obtain ⟨T, ⟨rb, rfl, hl⟩, _⟩ := h.get
  exact Last_ev hl hR
theorem Flight_sep (h : Sep H0 H (logA b room top L :: Qs))
    (hR : ∀ H', Sep H0 H' (logA b room top L :: Qs) → R (iv (flight L)) H') : EvF P N.sent_Log_Flight #[ptr b] H R := by
  obtain ⟨T, ⟨rb, rfl, hl⟩, _⟩ := h.get
  exact Flight_ev hl fun H' he => hR H' (h.ext he)
theorem Eliciting_sep (h : Sep H0 H (logA b room top L :: Qs))
    (hR : ∀ H', Sep H0 H' (logA b room top L :: Qs) → R (iv (elic L)) H') : EvF P N.sent_Log_Eliciting #[ptr b] H R := by
  obtain ⟨T, ⟨rb, rfl, hl⟩, _⟩ := h.get
  exact Eliciting_ev hl fun H' he => hR H' (h.ext he)
theorem Between_sep {lo hi : Int} (h : Sep H0 H (logA b room top L :: Qs))
    (hR : ∀ H' v, Sep H0 H' (lstA pktE v (within lo hi L) :: logA b room top L :: Qs) → R v H') : EvF P N.sent_Log_Between #[ptr b, iv lo, iv hi] H R := by
  obtain ⟨T, ⟨rb, rfl, hl⟩, _⟩ := h.get
  exact Between_ev hl fun H' v S he ho hs => hR H' v (h.new he (Q := lstA pktE v _) ho hs)
theorem All_sep (h : Sep H0 H (logA b room top L :: Qs))
    (hR : ∀ H' v, Sep H0 H' (lstA pktE v L :: logA b room top L :: Qs) → R v H') : EvF P N.sent_Log_All #[ptr b] H R := by
  obtain ⟨T, ⟨rb, rfl, hl⟩, _⟩ := h.get
  exact All_ev hl fun H' v S he ho hs => hR H' v (h.new he (Q := lstA pktE v _) ho hs)
theorem Copy_sep (h : Sep H0 H (logA b room top L :: Qs))
    (hR : ∀ H' b', Sep H0 H' (logA b' room top L :: logA b room top L :: Qs) → R (ptr b') H') : EvF P N.sent_Log_Copy #[ptr b] H R := by
  obtain ⟨T, ⟨rb, rfl, hl⟩, _⟩ := h.get
  exact Copy_ev hl fun H' b' rb' he h1 h2 hl' => hR H' b' (h.new he (Q := logA b' _ _ _) (T := [b', rb']) ⟨rb', rfl, hl'⟩ (by simp [h1, h2]))
end

def oneP (n : Int) : Pkt := ⟨n, 0, 100, true, true, false⟩
/-- a local packet -/
theorem newP_sep {H0 H : Heap} {Qs : List Asr} {p q : Pkt} {t : TypeId} (h : Sep H0 H Qs) : ∃ H', stE 6 (ptr H.size) (pv q) (newB H t (pktC p)) = some H' ∧ Sep H0 H' (cellsA H.size (pktC q) :: Qs) := by
  have er := Ext.refl [] (newB H t (pktC p))
  refine ⟨_, st_pkt er, ?_⟩
  exact (h.newC (t := t) (c := pktC p)).set
theorem ldP_sep {H0 H : Heap} {Qs : List Asr} {p : Pkt} {x : Nat} (h : Sep H0 H (cellsA x (pktC p) :: Qs)) : ldE true 6 (ptr x) H = some (pv p) := by
  simp only [ldE_t, rdA_u, own_blk h.cells, Option.bind_some, pktC_g, Option.map_some]
theorem bin_eqP {p q : Pkt} : binV (.agg [true, true, true, false, false, false]) .eql (pv p) (pv q) = some (.bool (decide (p = q))) := by
  obtain ⟨a, b, c, d, e, f⟩ := p
  obtain ⟨a', b', c', d', e', f'⟩ := q
  simp only [binV, eqV, isO, pktC, cellsEq, cellEq, if_true, Pkt.mk.injEq]
  congr 2
  rw [Bool.eq_iff_iff]; simp
theorem bin_neP {p q : Pkt} : binV (.agg [true, true, true, false, false, false]) .neq (pv p) (pv q) = some (.bool (!decide (p = q))) := by
  have := bin_eqP (p := p) (q := q)
  simp only [binV, isO] at this ⊢
  cases h : eqV (EqM.agg [true, true, true, false, false, false]) (pv p) (pv q) with
  | none => rw [h] at this; simp at this
  | some r => rw [h] at this; simp only [Option.some.injEq, Value.bool.injEq] at this; subst this; rfl
end Go.Hc
