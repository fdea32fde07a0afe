/- Part 3 of the proof: Slices, Ref17b, Gprog1, Ref17c, Ref17d, Maps, Gprog2, Gprog3. Conditions: those that each theorem names. -/
import Derived.Test.YtaemfafnmhndiaaGreatDoorPb1
import Derived.Test.YtaemfafnmhndiaaGreatDoorPb2
import Derived.Maps.Own
import Derived.Maps.OwnOps
import Derived.Maps.Views
import Derived.Maps.StringElems
namespace Go.Proofs.YtaemfafnmhndiaaGreatDoor
open Go.RowKit

theorem inB_eq (l : List Int) (x : Int) : inB l x = l.contains x := by
  induction l with
  | nil => rfl
  | cons y l ih =>
    simp only [inB, List.contains_cons, ih]
    by_cases h : y = x
    · simp [h]
    · have h' : (x == y) = false := by simp; exact fun e => h e.symm
      simp [h, h']

theorem IsInts.view {w : World} {oa : Option Addr} {len : Nat} {l : List Int} (h : IsInts w oa len l) (h0 : 0 < len) :
    ∃ b off, oa = some ⟨b, off, none⟩ ∧ b < w.heap.size ∧ ∀ j, j < l.length → w.cell? ⟨b, off + j, none⟩ = some (.int .i64 (l.getD j 0)) := by
  obtain ⟨b, off, e, hb, _⟩ := h.cells h0
  refine ⟨b, off, e, hb, fun j hj => ?_⟩
  obtain ⟨b', off', x, e', hc, _, _, _, hg⟩ := h.at_ (k := j) (by rw [← h.hlen]; exact hj)
  rw [e] at e'
  obtain ⟨rfl, rfl⟩ : b = b' ∧ off = off' := by simpa using e'
  rw [hc]; simp [List.getD, hg.out]

theorem contains_any (w : World) (oa : Option Addr) (len cap : Nat) (l : List Int) (x : Int) (h : IsInts w oa len l) :
    Calls Tryz.prog 57 #[.slice oa len cap, .int .i64 x] w fun e w' => e = .returned (.bool (inB l x)) ∧ ∃ m, w' = w.drewN m := by
  have hm := h.hmax
  rcases Nat.eq_zero_or_pos len with h0 | h0
  · subst h0
    have hl : l = [] := List.eq_nil_of_length_eq_zero h.hlen
    subst hl
    exact (Tryz.slices_Contains_int_empty oa cap x w).mono fun e w' ⟨h1, h2⟩ => ⟨h1, 0, h2⟩
  · obtain ⟨b, off, rfl, hb, hc⟩ := h.view h0
    refine (Tryz.slices_Contains_int b off len cap l x w (by rw [h.hlen]; exact Nat.le_refl _) (by omega) hc).mono fun e w' ⟨h1, h2⟩ => ⟨?_, 0, h2⟩
    rw [h1, inB_eq, List.take_of_length_le (by rw [h.hlen]; exact Nat.le_refl _)]

theorem index_any (w : World) (oa : Option Addr) (len cap : Nat) (l : List Int) (x : Int) (h : IsInts w oa len l) :
    Calls Tryz.prog 114 #[.slice oa len cap, .int .i64 x] w fun e w' => e = .returned (.int .i64 (Lib.idxOf l x)) ∧ ∃ m, w' = w.drewN m := by
  have hm := h.hmax
  rcases Nat.eq_zero_or_pos len with h0 | h0
  · subst h0
    have hl : l = [] := List.eq_nil_of_length_eq_zero h.hlen
    subst hl
    exact (Tryz.slices_Index_int_empty oa cap x w).mono fun e w' ⟨h1, h2⟩ => ⟨h1, 0, h2⟩
  · obtain ⟨b, off, rfl, hb, hc⟩ := h.view h0
    refine (Tryz.slices_Index_int b off len cap l x w (by rw [h.hlen]; exact Nat.le_refl _) (by omega) hc).mono fun e w' ⟨h1, h2⟩ => ⟨?_, 0, h2⟩
    rw [h1, List.take_of_length_le (by rw [h.hlen]; exact Nat.le_refl _)]

theorem min_any (w : World) (oa : Option Addr) (len cap : Nat) (l : List Int) (h : IsInts w oa len l) (h0 : 0 < len) :
    Calls Tryz.prog 162 #[.slice oa len cap] w fun e w' => e = .returned (.int .i64 (Lib.minOf l)) ∧ ∃ m, w' = w.drewN m := by
  have hm := h.hmax
  obtain ⟨b, off, rfl, hb, hc⟩ := h.view h0
  refine (Tryz.slices_Min_int b off len cap l w h0 (by rw [h.hlen]; exact Nat.le_refl _) (by omega) hc).mono fun e w' ⟨h1, h2⟩ => ⟨?_, 0, h2⟩
  rw [h1, List.take_of_length_le (by rw [h.hlen]; exact Nat.le_refl _)]

theorem bsearch_any (w : World) (oa : Option Addr) (len cap : Nat) (l : List Int) (x : Int) (h : IsInts w oa len l) (hs : l.Pairwise (· ≤ ·)) :
    Calls Tryz.prog 105 #[.slice oa len cap, .int .i64 x] w fun e w' => e = .returned (.tuple #[.int .i64 (l.countP (· < x) : Nat), .bool (inB l x)]) ∧ ∃ m, w' = w.drewN m := by
  have hm := h.hmax
  rcases Nat.eq_zero_or_pos len with h0 | h0
  · subst h0
    have hl : l = [] := List.eq_nil_of_length_eq_zero h.hlen
    subst hl
    exact (Tryz.slices_BinarySearch_int_empty oa cap x w).mono fun e w' ⟨h1, h2⟩ => ⟨h1, 0, h2⟩
  · obtain ⟨b, off, rfl, hb, hc⟩ := h.view h0
    have ht : l.take len = l := List.take_of_length_le (by rw [h.hlen]; exact Nat.le_refl _)
    refine (Tryz.slices_BinarySearch_int b off len cap l x w (by rw [h.hlen]; exact Nat.le_refl _) (by omega) hc (by rw [ht]; exact hs)).mono fun e w' ⟨h1, h2⟩ => ⟨?_, h2⟩
    rw [h1, inB_eq, ht]

theorem equal_any (w : World) (oa : Option Addr) (len cap : Nat) (l : List Int) (ob : Option Addr) (len2 cap2 : Nat) (l2 : List Int) (h : IsInts w oa len l) (h2 : IsInts w ob len2 l2) :
    Calls Tryz.prog 109 #[.slice oa len cap, .slice ob len2 cap2] w fun e w' => e = .returned (.bool (l == l2)) ∧ ∃ m, w' = w.drewN m := by
  have hm := h.hmax
  have hm2 := h2.hmax
  by_cases hlen : len = len2
  · subst hlen
    rcases Nat.eq_zero_or_pos len with h0 | h0
    · subst h0
      have hl : l = [] := List.eq_nil_of_length_eq_zero h.hlen
      have hl2 : l2 = [] := List.eq_nil_of_length_eq_zero h2.hlen
      subst hl; subst hl2
      exact (Tryz.slices_Equal_int_empty oa ob cap 0 cap2 w (by omega)).mono fun e w' ⟨h1, h2⟩ => ⟨by simpa using h1, 0, h2⟩
    · obtain ⟨b, off, rfl, hb, hc⟩ := h.view h0
      obtain ⟨b', off', rfl, hb', hc'⟩ := h2.view h0
      refine (Tryz.slices_Equal_int b off len cap b' off' len cap2 l l2 w (by rw [h.hlen]; exact Nat.le_refl _) (by rw [h2.hlen]; exact Nat.le_refl _) (by omega) (by omega) hc hc').mono fun e w' ⟨h1, h3⟩ => ⟨?_, h3⟩
      rw [h1, List.take_of_length_le (by rw [h.hlen]; exact Nat.le_refl _), List.take_of_length_le (by rw [h2.hlen]; exact Nat.le_refl _)]
  · refine (Tryz.slices_Equal_int_lens oa ob len cap len2 cap2 w hlen).mono fun e w' ⟨h1, h3⟩ => ⟨?_, 0, h3⟩
    rw [h1]
    have : l ≠ l2 := fun e => hlen (by rw [← h.hlen, ← h2.hlen, e])
    simp [this]
end Go.Proofs.YtaemfafnmhndiaaGreatDoor
namespace Go.Proofs.YtaemfafnmhndiaaGreatDoor
open Go.RowKit

def ruleErr (r : GRule) (n : Int) : Int :=
  if n < 0 ∨ 4000 < n then 2
  else if atomsGo n none r.head = false ∨ (r.choice = true ∧ r.head.length = 0) then 172
  else if litsGo n none r.body = false then 173
  else if r.sum = false then (if 0 < r.w.length ∨ r.bound ≠ 0 then 174 else 0)
  else if r.w.length ≠ r.body.length ∨ totalGo 1 0 r.w < 0 ∨ r.bound < 0 ∨ 1048576 < r.bound then 174 else 0

set_option maxHeartbeats 1000000 in
theorem rule17_any (w : World) (r : GRule) (oh : Option Addr) (lh ch : Nat) (ob : Option Addr) (lb cb : Nat) (ow : Option Addr) (lw cw : Nat) (n : Int)
    (hh : IsInts w oh lh r.head) (hb : IsInts w ob lb r.body) (hw : IsInts w ow lw r.w) (hr : I64 r.bound) :
    Calls Tryz.prog 100 #[.agg #[.bool r.choice, .slice oh lh ch, .bool r.sum, .int .i64 r.bound, .slice ob lb cb, .slice ow lw cw], .int .i64 n] w
      fun e w' => e = .returned (.int .i64 (ruleErr r n)) ∧ Below w.heap.size w w' := by
  obtain ⟨choice, head, sum, bound, body, ws⟩ := r
  simp only at hh hb hw hr ⊢
  have L1 := Lib.hid hh.hlen
  have L2 := Lib.hid hb.hlen
  have L3 := Lib.hid hw.hlen
  have M1 := hh.hmax
  have M2 := hb.hmax
  have M3 := hw.hmax
  obtain ⟨hr1, hr2⟩ := hr
  by_cases hn0 : n < 0
  · go_enter Tryz.func100, Tryz.ntmps100
    go_wp2_with fail
    go_ret
    exact ⟨ret_int (by simp [ruleErr, hn0]), (Below.refl _ _).alloc (Nat.le_refl _) _⟩
  by_cases hn1 : 4000 < n
  · go_enter Tryz.func100, Tryz.ntmps100
    go_wp2_with fail
    go_ret
    exact ⟨ret_int (by simp [ruleErr, hn1]), (Below.refl _ _).alloc (Nat.le_refl _) _⟩
  go_enter Tryz.func100, Tryz.ntmps100
  go_wp2_with (first
    | (go_at_call 67; refine (atoms_any _ _ _ _ _ _ (hh.below ?_)).mono ?_; (· (repeat (first | with_reducible exact Below.refl _ _ | with_reducible refine below_drewN_of ?_ _ | with_reducible refine below_alloc_of ?_ _ | with_reducible refine below_set_of ?_ _ _ _ (by simp) | with_reducible assumption | exact ⟨rfl, rfl, rfl, Nat.le_refl _, fun _ _ => rfl⟩))); rintro e w1 ⟨rfl, m1, rfl⟩)
    | (go_at_call 101; refine (lits_any _ _ _ _ _ _ (hb.below ?_) (by omega) (by omega)).mono ?_; (· (repeat (first | with_reducible exact Below.refl _ _ | with_reducible refine below_drewN_of ?_ _ | with_reducible refine below_alloc_of ?_ _ | with_reducible refine below_set_of ?_ _ _ _ (by simp) | with_reducible assumption | exact ⟨rfl, rfl, rfl, Nat.le_refl _, fun _ _ => rfl⟩))); rintro e w1 ⟨rfl, m1, rfl⟩)
    | (go_at_call 102; refine (total_any _ _ _ _ _ _ (hw.below ?_) (by omega)).mono ?_; (· (repeat (first | with_reducible exact Below.refl _ _ | with_reducible refine below_drewN_of ?_ _ | with_reducible refine below_alloc_of ?_ _ | with_reducible refine below_set_of ?_ _ _ _ (by simp) | with_reducible assumption | exact ⟨rfl, rfl, rfl, Nat.le_refl _, fun _ _ => rfl⟩))); rintro e w1 ⟨rfl, m1, rfl⟩))
  all_goals
    go_ret
    refine ⟨ret_int ?_, by (repeat (first | with_reducible exact Below.refl _ _ | with_reducible refine below_drewN_of ?_ _ | with_reducible refine below_alloc_of ?_ _ | with_reducible refine below_set_of ?_ _ _ _ (by simp) | with_reducible assumption | exact ⟨rfl, rfl, rfl, Nat.le_refl _, fun _ _ => rfl⟩))⟩
    have l1 := L1.out
    have l2 := L2.out
    have l3 := L3.out
    clear L1 L2 L3
    grind [ruleErr]
end Go.Proofs.YtaemfafnmhndiaaGreatDoor
namespace Go.Proofs.YtaemfafnmhndiaaGreatDoor
open Go.RowKit

set_option maxHeartbeats 400000 in
theorem gatom_any (w : World) (x : Int) (h1 : -9223372036854775808 < x) (h2 : x ≤ 9223372036854775807) :
    Calls Tryz.prog 163 #[.int .i64 x] w fun e w' => e = .returned (.int .i64 (atomOf x)) ∧ ∃ m, w' = w.drewN m := by
  unfold atomOf
  go_enter Tryz.func163, Tryz.ntmps163
  go_wp2
  all_goals (go_ret; exact ⟨ret_int (by grind), 0, rfl⟩)

def literalB (x n : Int) : Bool := x != 0 && decide (-n ≤ x) && decide (x ≤ n)

set_option maxHeartbeats 400000 in
theorem literal_any (w : World) (x n : Int) (h1 : 0 ≤ n) (h2 : n ≤ 4000) :
    Calls Tryz.prog 122 #[.int .i64 x, .int .i64 n] w fun e w' => e = .returned (.bool (literalB x n)) ∧ ∃ m, w' = w.drewN m := by
  go_enter Tryz.func122, Tryz.ntmps122
  go_wp2
  all_goals (go_ret; exact ⟨ret_bool (by grind [literalB]), 0, rfl⟩)

theorem litsGo_bad {y n : Int} {prev : Option Int} {l : List Int} (h : (!literalB y n) = true) : litsGo n prev (y :: l) = false := by
  have h' : y = 0 ∨ n < y ∨ y < -n := by
    simp only [literalB, Bool.not_eq_true', Bool.and_eq_false_iff, bne_eq_false_iff_eq, decide_eq_false_iff_not] at h
    omega
  simp only [litsGo, if_pos h']

def orGo : List Int → Int
  | [] => 0
  | x :: l => if x = 0 then orGo l else x

set_option maxHeartbeats 400000 in
theorem or_any (w : World) (oa : Option Addr) (len cap : Nat) (l : List Int) (h : IsInts w oa len l) :
    Calls Tryz.prog 148 #[.slice oa len cap] w fun e w' => e = .returned (.int .i64 (orGo l)) ∧ ∃ m, w' = w.drewN m := by
  have hm := h.hmax
  have hl' := Lib.hid h.hlen
  go_enter Tryz.func148, Tryz.ntmps148
  go_wp2
  go_loop [5, 8] (fun _ i => ∃ k : Nat, k ≤ len ∧ i = .int .i64 k ∧ Hid (orGo l = orGo (l.drop k))) (fun _ i => len - (intOf i).toNat)
  case atStart => exact ⟨0, Nat.zero_le _, rfl, rfl⟩
  case round =>
    obtain ⟨k, hk, rfl, hno⟩ := hrel
    by_cases hlt : k < len
    · obtain ⟨b, off, y, rfl, hc, hr1, hr2, hd, _⟩ := h.at_ hlt
      go_wp2
      · go_ret
        exact ⟨ret_int (by rw [hno.out, hd.out]; grind [orGo]), 0, rfl⟩
      · go_round
        case rel => exact ⟨k+1, by omega, by go_num, by rw [Hid, hno.out, hd.out]; grind [orGo]⟩
        case measure => simp [intOf]; omega
    · go_wp2
      go_ret
      exact ⟨ret_int (by rw [hno.out, List.drop_eq_nil_of_le (by rw [hl'.out]; omega)]; rfl), 0, rfl⟩

def orderI (a b : Int) : Int := orGo [Lib.compareInt (atomOf a) (atomOf b), Lib.compareInt b a]

theorem order_ge (a b : Int) : decide (0 ≤ orderI a b) = !beforeB a b := by
  simp only [orderI, orGo, Lib.compareInt, beforeB]
  grind

theorem cmp_i64 (a b : Int) : I64 (Lib.compareInt a b) := by unfold I64 Lib.compareInt; split <;> (try split) <;> omega

set_option maxHeartbeats 400000 in
theorem order_any (w : World) (a b : Int) (h1 : -9223372036854775808 < a) (h2 : a ≤ 9223372036854775807) (h3 : -9223372036854775808 < b) (h4 : b ≤ 9223372036854775807) :
    Calls Tryz.prog 123 #[.int .i64 a, .int .i64 b] w fun e w' => e = .returned (.int .i64 (orderI a b)) ∧ Below w.heap.size w w' := by
  go_enter Tryz.func123, Tryz.ntmps123
  go_wp2_with (first
    | (go_at_call 163; refine (gatom_any _ _ (by omega) (by omega)).mono ?_; rintro e w1 ⟨rfl, m1, rfl⟩)
    | (go_at_call 139; refine (Tryz.cmp_Compare_int _ _ _).mono ?_; rintro e w1 ⟨rfl, rfl⟩)
    | (go_at_call 148; refine (or_any _ _ _ _ [Lib.compareInt (atomOf a) (atomOf b), Lib.compareInt b a] (IsInts.fresh rfl rfl (by simp) rfl (by simp [cmp_i64]))).mono ?_; rintro e w1 ⟨rfl, m3, rfl⟩))
  go_ret
  exact ⟨rfl, by (repeat (first | with_reducible exact Below.refl _ _ | with_reducible refine below_drewN_of ?_ _ | with_reducible refine below_alloc_of ?_ _ | with_reducible refine below_set_of ?_ _ _ _ (by simp) | with_reducible assumption | exact ⟨rfl, rfl, rfl, Nat.le_refl _, fun _ _ => rfl⟩))⟩

set_option maxHeartbeats 1000000 in
theorem ordered_any (w : World) (oa : Option Addr) (len cap : Nat) (l : List Int) (n : Int) (h : IsInts w oa len l) (hn1 : 0 ≤ n) (hn2 : n ≤ 4000) :
    Calls Tryz.prog 73 #[.slice oa len cap, .int .i64 n] w fun e w' => e = .returned (.bool (litsGo n none l)) ∧ Below w.heap.size w w' := by
  have hm := h.hmax
  have hl' := Lib.hid h.hlen
  go_enter Tryz.func73, Tryz.ntmps73
  go_wp2
  go_loopw [5, 6, 9] (fun _ _ i wr => ∃ k : Nat, Hid (Below w.heap.size w wr) ∧ k ≤ len ∧ i = .int .i64 k ∧ Hid (litsGo n none l = litsGo n (prevOf l k) (l.drop k)) ∧ Hid (∀ p, prevOf l k = some p → -n ≤ p ∧ p ≤ n)) (fun _ _ i _ => len - (intOf i).toNat)
  case atStart => exact ⟨0, Below.refl _ _, Nat.zero_le _, rfl, rfl, by simp [prevOf, Hid]⟩
  case round =>
    obtain ⟨k, hB, hk, rfl, hno, Hb⟩ := hrel
    by_cases hlt : k < len
    · obtain ⟨b, off, y, rfl, hc, hr1, hr2, hd, hg⟩ := (h.below hB.out).at_ hlt
      have Hgo : Hid (litsGo n none l = litsGo n (prevOf l k) (y :: l.drop (k + 1))) := by rw [Hid, hno.out, hd.out]
      clear hno
      cases hy : (!literalB y n)
      · have hy2 : -n ≤ y ∧ y ≤ n ∧ ¬ (y = 0 ∨ n < y ∨ y < -n) := by grind [literalB]
        have Hy := Lib.hid hy2
        clear hy2
        rcases k with _ | k
        · simp only [Nat.add_zero] at hc
          go_wp2_with (go_at_call 122; refine (literal_any _ _ _ hn1 hn2).mono ?_; rintro e w1 ⟨rfl, m1, rfl⟩)
          go_roundw
          case rel => exact ⟨1, below_drewN_of hB.out _, by omega, by go_num, by rw [Hid, Hgo.out]; simp only [litsGo, prevOf_succ, hg.out]; rw [if_neg Hy.out.2.2]; simp [prevOf], fun p hp => by have := Hy.out; simp [prevOf_succ, hg.out] at hp; omega⟩
          case measure => simp [intOf]; omega
        · obtain ⟨b', off', p, he, hcp, hp1, hp2, hdp, hgp⟩ := (h.below hB.out).at_ (k := k) (by omega)
          obtain ⟨rfl, rfl⟩ : b = b' ∧ off = off' := by simpa using he
          clear he
          have hpb := Hb.out p (by rw [prevOf_succ, hgp.out])
          have hyb := Hy.out
          have g1 : decide ((0:Int) < (k:Int) + 1) = true := by simp
          go_wp2_with (first
            | (go_at_call 122; refine (literal_any _ _ _ hn1 hn2).mono ?_; rintro e w1 ⟨rfl, m1, rfl⟩)
            | (go_at_call 123; refine (order_any _ _ _ (by omega) (by omega) (by omega) (by omega)).mono ?_; rintro e w1 ⟨rfl, hb1⟩))
          · have hbf : beforeB p y = false := by
              have h1 := order_ge p y
              rw [show decide (0 ≤ orderI p y) = true by simpa using (show 0 ≤ orderI p y by assumption)] at h1
              simpa using h1.symm
            go_ret
            exact ⟨ret_bool (by rw [Hgo.out]; simp only [litsGo, prevOf_succ, hgp.out]; rw [if_neg Hy.out.2.2]; simp [hbf]), below_trans_of (below_drewN_of hB.out _) hb1⟩
          · have hbf : beforeB p y = true := by
              have h1 := order_ge p y
              rw [show decide (0 ≤ orderI p y) = false by simpa using (show orderI p y < 0 by assumption)] at h1
              simpa using h1.symm
            have Hbf := Lib.hid hbf
            clear hbf
            go_roundw
            case rel => exact ⟨k + 1 + 1, below_trans_of (below_drewN_of hB.out _) hb1, by omega, by go_num, by rw [Hid, Hgo.out]; simp only [litsGo, prevOf_succ, hg.out, hgp.out]; rw [if_neg Hy.out.2.2, if_pos Hbf.out], fun p hp => by have := Hy.out; simp [prevOf_succ, hg.out] at hp; omega⟩
            case measure => simp [intOf]; omega
      · have hfin : Hid (litsGo n none l = false) := by rw [Hid, Hgo.out]; exact litsGo_bad hy
        go_wp2_with (go_at_call 122; refine (literal_any _ _ _ hn1 hn2).mono ?_; rintro e w1 ⟨rfl, m1, rfl⟩)
        go_ret
        exact ⟨ret_bool hfin.out.symm, below_drewN_of hB.out _⟩
    · go_wp2
      go_ret
      exact ⟨ret_bool (by rw [hno.out, List.drop_eq_nil_of_le (by rw [hl'.out]; omega)]; cases prevOf l k <;> rfl), hB.out⟩
theorem before_pos {p x : Int} (hp : 0 < p) (hx : 0 < x) : beforeB p x = decide (p < x) := by
  unfold beforeB atomOf; grind
theorem lits_atoms (n : Int) (hn : 0 ≤ n) : ∀ (l : List Int) (prev : Option Int), (∀ p, prev = some p → 0 < p) → (∀ x ∈ l, 0 < x) → litsGo n prev l = atomsGo n prev l
  | [], prev, _, _ => by cases prev <;> rfl
  | x :: l, prev, hp, hx => by
    have h0 := hx x (by simp)
    have ih := lits_atoms n hn l (some x) (fun p e => by cases e; exact h0) (fun y hy => hx y (by simp [hy]))
    cases prev with
    | none =>
      simp only [litsGo, atomsGo, ih]
      by_cases h : n < x
      · rw [if_pos (by omega), if_pos (by omega)]
      · rw [if_neg (by omega), if_neg (by omega)]
    | some p =>
      have hp0 := hp p rfl
      simp only [litsGo, atomsGo, ih, before_pos hp0 h0]
      by_cases h : n < x
      · rw [if_pos (show x = 0 ∨ n < x ∨ x < -n by omega), if_pos (show x < 1 ∨ n < x by omega)]
      · rw [if_neg (show ¬ (x = 0 ∨ n < x ∨ x < -n) by omega), if_neg (show ¬ (x < 1 ∨ n < x) by omega)]
        by_cases h2 : p < x
        · rw [if_pos (show decide (p < x) = true by simpa using h2), if_neg (show ¬ x ≤ p by omega)]
        · rw [if_neg (show ¬ decide (p < x) = true by simpa using h2), if_pos (show x ≤ p by omega)]
theorem atoms_pos (n : Int) : ∀ (l : List Int) (prev : Option Int), atomsGo n prev l = true → ∀ x ∈ l, 0 < x
  | [], _, _ => by simp
  | x :: l, prev, h => by
    have h1 : ¬ (x < 1 ∨ n < x) := fun c => by simp [atomsGo, c] at h
    have h2 : atomsGo n (some x) l = true := by
      cases prev with
      | none => simp only [atomsGo, if_neg h1] at h; exact h
      | some p =>
        simp only [atomsGo, if_neg h1] at h
        by_cases c : x ≤ p
        · simp [c] at h
        · simpa [c] using h
    intro y hy
    rcases List.mem_cons.1 hy with rfl | hy
    · omega
    · exact atoms_pos n l _ h2 y hy
theorem foldl_min_pos : ∀ (l : List Int) (a : Int), 0 < l.foldl min a ↔ 0 < a ∧ ∀ x ∈ l, 0 < x
  | [], a => by simp
  | x :: l, a => by
    rw [List.foldl_cons, foldl_min_pos l (min a x)]; simp only [List.mem_cons, forall_eq_or_imp]
    rw [← and_assoc]; refine and_congr ?_ Iff.rfl; omega
theorem minOf_pos {l : List Int} (h : l ≠ []) : 0 < Lib.minOf l ↔ ∀ x ∈ l, 0 < x := by
  obtain ⟨x, l, rfl⟩ := List.exists_cons_of_ne_nil h
  simp only [Lib.minOf, List.headD_cons, foldl_min_pos, List.mem_cons, forall_eq_or_imp]
  constructor
  · rintro ⟨_, h2⟩; exact h2
  · intro h2; exact ⟨h2.1, h2⟩
theorem increasing_eq (l : List Int) (n : Int) (hn : 0 ≤ n) : (litsGo n none l && (l.length == 0 || decide (0 < Lib.minOf l))) = atomsGo n none l := by
  by_cases h0 : l = []
  · subst h0; rfl
  · have hl : (l.length == 0) = false := by simpa using h0
    rw [hl, Bool.false_or]
    by_cases hp : ∀ x ∈ l, 0 < x
    · rw [lits_atoms n hn l none (by simp) hp]
      simp [(minOf_pos h0).2 hp]
    · have h1 : decide (0 < Lib.minOf l) = false := by simpa [minOf_pos h0] using hp
      rw [h1, Bool.and_false]
      cases h2 : atomsGo n none l
      · rfl
      · exact absurd (atoms_pos n l none h2) hp

set_option maxHeartbeats 1000000 in
theorem increasing_any (w : World) (oa : Option Addr) (len cap : Nat) (l : List Int) (n : Int) (h : IsInts w oa len l) (hn1 : 0 ≤ n) (hn2 : n ≤ 4000) :
    Calls Tryz.prog 121 #[.slice oa len cap, .int .i64 n] w fun e w' => e = .returned (.bool (atomsGo n none l)) ∧ Below w.heap.size w w' := by
  have hm := h.hmax
  have hl' := Lib.hid h.hlen
  have heq := Lib.hid (increasing_eq l n hn1)
  cases hb : litsGo n none l
  · go_enter Tryz.func121, Tryz.ntmps121
    go_wp2_with (first
      | (go_at_call 73; refine (ordered_any _ _ _ _ _ _ h hn1 hn2).mono ?_; rintro e w1 ⟨rfl, hb1⟩))
    go_ret
    exact ⟨ret_bool (by rw [← heq.out, hb]; rfl), hb1⟩
  · rcases Nat.eq_zero_or_pos len with h0 | h0
    · subst h0
      go_enter Tryz.func121, Tryz.ntmps121
      go_wp2_with (first
        | (go_at_call 73; refine (ordered_any _ _ _ _ _ _ h hn1 hn2).mono ?_; rintro e w1 ⟨rfl, hb1⟩))
      go_ret
      exact ⟨ret_bool (by rw [← heq.out, hb, hl'.out]; rfl), hb1⟩
    · have h1 : ((len : Int) == 0) = false := by simp; omega
      go_enter Tryz.func121, Tryz.ntmps121
      go_wp2_with (first
        | (go_at_call 73; refine (ordered_any _ _ _ _ _ _ h hn1 hn2).mono ?_; rintro e w1 ⟨rfl, hb1⟩)
        | (go_at_call 162; refine (min_any _ _ _ _ _ (h.below hb1) h0).mono ?_; rintro e w2 ⟨rfl, m2, rfl⟩))
      go_ret
      exact ⟨ret_bool (by rw [← heq.out, hb, hl'.out]; have : (len == 0) = false := by simp; omega
                          rw [this]; rfl), below_drewN_of hb1 _⟩

def weightsB (w : List Int) (k : Int) : Bool := decide (0 ≤ totalGo 1 0 w) && ((w.length : Int) == k)

theorem total_neg (l : List Int) (s : Int) (hs : 0 ≤ s) : totalGo 1 s l = -1 ∨ 0 ≤ totalGo 1 s l := by
  induction l generalizing s with
  | nil => exact .inr hs
  | cons x l ih =>
    simp only [totalGo]
    split
    · exact .inl rfl
    · split
      · exact .inl rfl
      · exact ih (s + x) (by omega)

set_option maxHeartbeats 1000000 in
theorem weights_any (w : World) (oa : Option Addr) (len cap : Nat) (l : List Int) (n : Int) (h : IsInts w oa len l) :
    Calls Tryz.prog 74 #[.slice oa len cap, .int .i64 n] w fun e w' => e = .returned (.bool (weightsB l n)) ∧ ∃ m, w' = w.drewN m := by
  have hm := h.hmax
  have hl' := Lib.hid h.hlen
  go_enter Tryz.func74, Tryz.ntmps74
  go_wp2
  go_loop [5, 7, 10] (fun s _ i => ∃ (k : Nat) (S : Int), k ≤ len ∧ i = .int .i64 k ∧ s = .int .i64 S ∧ 0 ≤ S ∧ S ≤ 1048576 ∧ Hid (totalGo 1 0 l = totalGo 1 S (l.drop k))) (fun _ _ i => len - (intOf i).toNat)
  case atStart => exact ⟨0, 0, Nat.zero_le _, rfl, rfl, by omega, by omega, rfl⟩
  case round =>
    obtain ⟨k, S, hk, rfl, rfl, hS0, hS1, hno⟩ := hrel
    by_cases hlt : k < len
    · obtain ⟨b, off, y, rfl, hc, hr1, hr2, hd, hg⟩ := h.at_ hlt
      have Hgo : Hid (totalGo 1 0 l = totalGo 1 S (y :: l.drop (k + 1))) := by rw [Hid, hno.out, hd.out]
      clear hno
      by_cases hy1 : y < 1
      · go_wp2
        go_ret
        exact ⟨ret_bool (by rw [weightsB, Hgo.out]; simp [totalGo, hy1]), 0, rfl⟩
      by_cases hy2 : 1048576 - S < y
      · go_wp2
        go_ret
        exact ⟨ret_bool (by
          have : totalGo 1 0 l = -1 := by
            rw [Hgo.out]; simp only [totalGo]; by_cases c : 1048576 < y
            · simp [c]
            · rw [if_neg (by omega), if_pos (by omega)]
          rw [weightsB, this]; simp), 0, rfl⟩
      go_wp2
      go_round
      case rel => exact ⟨k+1, S + y, by omega, by go_num, rfl, by omega, by omega, by rw [Hid, Hgo.out]; simp only [totalGo]; rw [if_neg (by omega), if_neg (by omega)]⟩
      case measure => simp [intOf]; omega
    · have hfin : Hid (totalGo 1 0 l = S) := by rw [Hid, hno.out, List.drop_eq_nil_of_le (by rw [hl'.out]; omega)]; rfl
      go_wp2
      go_ret
      exact ⟨ret_bool (by rw [weightsB, hfin.out, hl'.out]; simp [hS0]), 0, rfl⟩
end Go.Proofs.YtaemfafnmhndiaaGreatDoor
namespace Go.Proofs.YtaemfafnmhndiaaGreatDoor
open Go.RowKit

theorem contains_nl (s : ByteArray) (w : World) :
    Calls Tryz.prog 35 #[.string s, .string ⟨#[10]⟩] w fun e w' => e = .returned (.bool (decide (0 ≤ Lib.indexByte s.data.toList 10))) ∧ ∃ m, w' = w.drewN m :=
  (Tryz.strings_Contains_one s 10 w).mono fun _ _ ⟨h1, h2⟩ => ⟨h1, 0, h2⟩

def hasNL (s : ByteArray) : Bool := decide (0 ≤ Lib.indexByte s.data.toList 10)
def pairBad (s t : ByteArray) : Bool := !s.toList.isEmpty && s.toList == t.toList
def nmOk (l : List ByteArray) (i : Nat) : Bool := decide ((l.getD i .empty).size ≤ 200) && !hasNL (l.getD i .empty) && (List.range i).all fun k => !pairBad (l.getD i .empty) (l.getD k .empty)
def namesB (l : List ByteArray) : Bool := (List.range l.length).all (nmOk l)

theorem names_no {l : List ByteArray} {len k : Nat} {s : ByteArray} (hl : l.length = len) (hk : k < len) (hg : l[k]? = some s)
    (h : 200 < (s.size : Int) ∨ hasNL s = true ∨ ∃ q, q < k ∧ pairBad s (l.getD q .empty) = true) : false = namesB l := by
  have hn : nmOk l k = false := by
    unfold nmOk
    simp only [List.getD, hg, Option.getD_some]
    rcases h with h | h | ⟨q, hq, h⟩
    · have : ¬ s.size ≤ 200 := by omega
      simp [this]
    · simp [h]
    · rw [Bool.and_eq_false_iff]; right
      rw [List.all_eq_false]
      exact ⟨q, List.mem_range.2 hq, by simpa [List.getD] using h⟩
  symm; unfold namesB; rw [List.all_eq_false]
  exact ⟨k, List.mem_range.2 (by omega), by rw [hn]; simp⟩
theorem nmOk_of {l : List ByteArray} {k : Nat} {s : ByteArray} (hg : l[k]? = some s) (h1 : (s.size : Int) ≤ 200) (h2 : hasNL s = false)
    (h3 : ∀ j, j < k → pairBad s (l.getD j .empty) = false) : nmOk l k = true := by
  unfold nmOk
  have : s.size ≤ 200 := by omega
  have e : l.getD k .empty = s := by simp [List.getD, hg]
  simp only [e, this, h2, decide_true, Bool.not_false, Bool.and_true, Bool.true_and, List.all_eq_true, List.mem_range]
  intro j hj
  simpa [List.getD] using h3 j hj

set_option maxHeartbeats 1000000 in
theorem names_any (w : World) (oa : Option Addr) (len cap : Nat) (l : List ByteArray) (h : IsStrs w oa len l) :
    Calls Tryz.prog 99 #[.slice oa len cap] w fun e w' => e = .returned (.bool (namesB l)) ∧ ∃ m, w' = w.drewN m := by
  have hm := h.hmax
  have hl' := Lib.hid h.hlen
  go_enter Tryz.func99, Tryz.ntmps99
  go_wp2
  go_loopw [3, 4] (fun i _ wr => ∃ k m : Nat, wr = w.drewN m ∧ k ≤ len ∧ i = .int .i64 k ∧ Hid (∀ j, j < k → nmOk l j = true)) (fun i _ _ => len - (intOf i).toNat)
  case atStart => exact ⟨0, 0, rfl, Nat.zero_le _, rfl, fun j hj => absurd hj (by omega)⟩
  case round =>
    obtain ⟨k, m, rfl, hk, rfl, hno⟩ := hrel
    by_cases hlt : k < len
    · obtain ⟨b, off, s, rfl, hc, hs, hd, hg⟩ := h.at_ hlt
      go_wp2_with (go_at_call 35; refine (contains_nl _ _).mono ?_; rintro e w1 ⟨rfl, m1, rfl⟩)
      · go_ret
        exact ⟨ret_bool (names_no hl'.out hlt hg.out (by grind [hasNL])), _, (by first | rfl | exact World.drewN_drewN _ _ _ | (simp only [World.drewN_drewN]; rfl))⟩
      · go_loopw [4] (fun i wr => ∃ q m : Nat, wr = w.drewN m ∧ q ≤ k ∧ i = .int .i64 q ∧ Hid (∀ j, j < q → pairBad s (l.getD j .empty) = false)) (fun i _ => k - (intOf i).toNat)
        case atStart => exact ⟨0, _, (by first | rfl | exact World.drewN_drewN _ _ _ | (simp only [World.drewN_drewN]; rfl)), Nat.zero_le _, rfl, fun j hj => absurd hj (by omega)⟩
        case round =>
          obtain ⟨q, m2, rfl, hq, rfl, hno2⟩ := hrel
          by_cases hlq : q < k
          · obtain ⟨b', off', t, he, hct, ht, hdt, hgt⟩ := h.at_ (k := q) (by omega)
            obtain ⟨rfl, rfl⟩ : b = b' ∧ off = off' := by simpa using he
            clear he
            have e0 : (0:Int) ≤ k := by omega
            have e1 : (k:Int) < len := by omega
            have e2 : (0:Int) ≤ q := by omega
            have e3 : (q:Int) < len := by omega
            cases t1 : s.toList.isEmpty
            · have t1' : (!s.toList.isEmpty) = true := by rw [t1]; rfl
              cases t2 : (s.toList == t.toList)
              · go_wp2
                go_quiet (fail)
                go_wp2
                go_roundw
                case rel => exact ⟨q + 1, _, (by first | rfl | exact World.drewN_drewN _ _ _ | (simp only [World.drewN_drewN]; rfl)), by omega, by go_num, fun j hj => by
                  rcases Nat.lt_or_ge j q with hjq | hjq
                  · exact hno2.out j hjq
                  · obtain rfl : j = q := by omega
                    simp [List.getD, hgt.out, pairBad, t2]⟩
                case measure => simp [intOf]; omega
              · go_wp2
                go_quiet (fail)
                go_wp2
                go_ret
                exact ⟨ret_bool (names_no hl'.out hlt hg.out (.inr (.inr ⟨q, hlq, by simp [List.getD, hgt.out, pairBad, t1', t2]⟩))), _, (by first | rfl | exact World.drewN_drewN _ _ _ | (simp only [World.drewN_drewN]; rfl))⟩
            · have t1' : (!s.toList.isEmpty) = false := by rw [t1]; rfl
              go_wp2
              go_quiet (fail)
              go_wp2
              go_roundw
              case rel => exact ⟨q + 1, _, (by first | rfl | exact World.drewN_drewN _ _ _ | (simp only [World.drewN_drewN]; rfl)), by omega, by go_num, fun j hj => by simp [pairBad, t1]⟩
              case measure => simp [intOf]; omega
          · go_wp2
            go_roundw
            case rel => exact ⟨k + 1, _, (by first | rfl | exact World.drewN_drewN _ _ _ | (simp only [World.drewN_drewN]; rfl)), by omega, by go_num, fun j hj => by
              rcases Nat.lt_or_ge j k with hjq | hjq
              · exact hno.out j hjq
              · obtain rfl : j = k := by omega
                obtain rfl : q = j := by omega
                exact nmOk_of hg.out (by grind) (by grind [hasNL]) hno2.out⟩
            case measure => simp [intOf]; omega
      · go_ret
        exact ⟨ret_bool (names_no hl'.out hlt hg.out (by grind [hasNL])), _, (by first | rfl | exact World.drewN_drewN _ _ _ | (simp only [World.drewN_drewN]; rfl))⟩
    · go_wp2
      go_ret
      exact ⟨ret_bool (by
        obtain rfl : k = len := by omega
        symm; rw [namesB, List.all_eq_true]; intro j hj; rw [List.mem_range, hl'.out] at hj; exact hno.out j hj), m, rfl⟩
end Go.Proofs.YtaemfafnmhndiaaGreatDoor
namespace Go.Proofs.YtaemfafnmhndiaaGreatDoor
open Go.RowKit

def firstErr (n : Int) : List GRule → Int
  | [] => 0
  | r :: l => if ruleErr r n = 0 then firstErr n l else ruleErr r n

def minBad (n : Int) (prev : Option Int) (m : GMin) : Bool :=
  !litsGo n none m.lits || m.w.length != m.lits.length || decide (totalGo 1 0 m.w < 0) || decide (m.level < -2147483647) || decide (2147483647 < m.level) ||
    (match prev with | none => false | some p => decide (p ≤ m.level))

def minsGo (n : Int) : Option Int → List GMin → Bool
  | _, [] => true
  | prev, m :: l => if minBad n prev m then false else minsGo n (some m.level) l

def validErr (p : GProg) : Int :=
  if p.n < 0 ∨ 4000 < p.n ∨ (p.names.length : Int) ≠ p.n ∨ namesB p.names = false ∨ atomsGo p.n none p.shown = false then 170
  else if 40000 < p.rules.length then 171
  else if firstErr p.n p.rules ≠ 0 then firstErr p.n p.rules
  else if 8 < p.min.length then 175
  else if minsGo p.n none p.min then 0 else 175

def prevLev (l : List GMin) (k : Nat) : Option Int := if k = 0 then none else (l[k-1]?).map (·.level)
theorem prevLev_succ (l : List GMin) (k : Nat) : prevLev l (k + 1) = (l[k]?).map (·.level) := rfl

theorem valid_mid {n : Int} {names : List ByteArray} {shown : List Int} {rules : List GRule} {mins : List GMin} (h1 : 0 ≤ n ∧ n ≤ 4000 ∧ (names.length : Int) = n) (h2 : namesB names = true)
    (h3 : atomsGo n none shown = true) (h4 : rules.length ≤ 40000) :
    Hid (validErr ⟨n, names, shown, rules, mins⟩ = if firstErr n rules ≠ 0 then firstErr n rules else if 8 < mins.length then 175 else if minsGo n none mins then 0 else 175) := by
  unfold Hid validErr
  simp only
  rw [if_neg (by simp [h2, h3, h1.2.2]; omega), if_neg (by omega)]

set_option maxRecDepth 100000 in
set_option maxHeartbeats 2000000 in
theorem valid17_any (w : World) (p : GProg) (n : Int) (on : Option Addr) (ln cn : Nat) (os : Option Addr) (ls cs : Nat) (or : Option Addr) (lr cr : Nat) (om : Option Addr) (lm cm : Nat)
    (h : IsProg w n on ln os ls or lr om lm p) :
    Calls Tryz.prog 46 #[.agg #[.int .i64 n, .slice on ln cn, .slice os ls cs, .slice or lr cr, .slice om lm cm]] w
      fun e w' => e = .returned (.int .i64 (validErr p)) ∧ Below w.heap.size w w' := by
  obtain ⟨rfl, hi, hn, hs, hr, hmn⟩ := h
  obtain ⟨n, names, shown, rules, mins⟩ := p
  simp only at hi hn hs hr hmn ⊢
  have L1 := Lib.hid hn.hlen
  have L2 := Lib.hid hs.hlen
  have L3 := Lib.hid hr.hlen
  have L4 := Lib.hid hmn.hlen
  have M1 := hn.hmax
  have M2 := hs.hmax
  have M3 := hr.hmax
  have M4 := hmn.hmax
  obtain ⟨hi1, hi2⟩ := hi
  by_cases hn0 : n < 0 ∨ 4000 < n
  · have fin : validErr ⟨n, names, shown, rules, mins⟩ = 170 := by grind [validErr]
    have Fin := Lib.hid fin
    clear fin
    rcases hn0 with hn0 | hn0
    all_goals
      go_enter Tryz.func46, Tryz.ntmps46
      go_wp2_with fail
      go_ret
      exact ⟨ret_int Fin.out.symm, by (repeat (first | with_reducible exact Below.refl _ _ | with_reducible refine below_drewN_of ?_ _ | with_reducible refine below_alloc_of ?_ _ | with_reducible refine below_set_of ?_ _ _ _ (by simp) | with_reducible assumption | exact ⟨rfl, rfl, rfl, Nat.le_refl _, fun _ _ => rfl⟩))⟩
  have hn1 : 0 ≤ n := by omega
  have hn2 : n ≤ 4000 := by omega
  clear hn0
  by_cases hbad : ¬ (ln : Int) = n ∨ namesB names = false ∨ atomsGo n none shown = false ∨ 40000 < lr
  · have fin : validErr ⟨n, names, shown, rules, mins⟩ = if (ln : Int) = n ∧ namesB names = true ∧ atomsGo n none shown = true then 171 else 170 := by
      have l1 := L1.out; have l3 := L3.out; clear L1 L2 L3 L4; grind [validErr]
    have Fin := Lib.hid fin
    have Hbad := Lib.hid hbad
    clear fin hbad
    go_enter Tryz.func46, Tryz.ntmps46
    go_wp2_with (first
      | (go_at_call 67; refine (atoms_any _ _ _ _ _ _ (hs.below ?_)).mono ?_; (· (repeat (first | with_reducible exact Below.refl _ _ | with_reducible refine below_drewN_of ?_ _ | with_reducible refine below_alloc_of ?_ _ | with_reducible refine below_set_of ?_ _ _ _ (by simp) | with_reducible assumption | exact ⟨rfl, rfl, rfl, Nat.le_refl _, fun _ _ => rfl⟩))); rintro e w1 ⟨rfl, m1, rfl⟩)
      | (go_at_call 99; refine (names_any _ _ _ _ _ (hn.below ?_)).mono ?_; (· (repeat (first | with_reducible exact Below.refl _ _ | with_reducible refine below_drewN_of ?_ _ | with_reducible refine below_alloc_of ?_ _ | with_reducible refine below_set_of ?_ _ _ _ (by simp) | with_reducible assumption | exact ⟨rfl, rfl, rfl, Nat.le_refl _, fun _ _ => rfl⟩))); rintro e w1 ⟨rfl, m1, rfl⟩))
    all_goals first
      | (go_ret; exact ⟨ret_int (by have f := Fin.out; rw [f]; clear L1 L2 L3 L4; grind), by (repeat (first | with_reducible exact Below.refl _ _ | with_reducible refine below_drewN_of ?_ _ | with_reducible refine below_alloc_of ?_ _ | with_reducible refine below_set_of ?_ _ _ _ (by simp) | with_reducible assumption | exact ⟨rfl, rfl, rfl, Nat.le_refl _, fun _ _ => rfl⟩))⟩)
      | (exfalso; have f := Hbad.out; clear L1 L2 L3 L4 Fin Hbad; grind)
  obtain ⟨g1, g2, g3, g4⟩ : (ln : Int) = n ∧ namesB names = true ∧ atomsGo n none shown = true ∧ lr ≤ 40000 := by
    refine ⟨?_, ?_, ?_, ?_⟩
    · exact Classical.byContradiction fun h => hbad (.inl h)
    · cases h : namesB names <;> simp_all
    · cases h : atomsGo n none shown <;> simp_all
    · omega
  have hfirst := valid_mid (mins := mins) (rules := rules) (shown := shown) (names := names) (n := n) ⟨hn1, hn2, by rw [L1.out]; exact g1⟩ g2 g3 (by have l3 := L3.out; omega)
  have g1' : ((ln : Int) != n) = false := by simpa using g1
  have g3' : (!atomsGo n none shown) = false := by rw [g3]; rfl
  clear hbad g1
  go_enter Tryz.func46, Tryz.ntmps46
  go_wp2_with (first
    | (go_at_call 67; refine (atoms_any _ _ _ _ _ _ (hs.below ?_)).mono ?_; (· (repeat (first | with_reducible exact Below.refl _ _ | with_reducible refine below_drewN_of ?_ _ | with_reducible refine below_alloc_of ?_ _ | with_reducible refine below_set_of ?_ _ _ _ (by simp) | with_reducible assumption | exact ⟨rfl, rfl, rfl, Nat.le_refl _, fun _ _ => rfl⟩))); rintro e w1 ⟨rfl, m1, rfl⟩)
    | (go_at_call 99; refine (names_any _ _ _ _ _ (hn.below ?_)).mono ?_; (· (repeat (first | with_reducible exact Below.refl _ _ | with_reducible refine below_drewN_of ?_ _ | with_reducible refine below_alloc_of ?_ _ | with_reducible refine below_set_of ?_ _ _ _ (by simp) | with_reducible assumption | exact ⟨rfl, rfl, rfl, Nat.le_refl _, fun _ _ => rfl⟩))); rintro e w1 ⟨rfl, m1, rfl⟩))
  go_loopw [3, 4] (fun i _ wr => ∃ k : Nat, k ≤ lr ∧ i = .int .i64 k ∧ Hid (firstErr n rules = firstErr n (rules.drop k)) ∧ Hid (Below (w.heap.size + 1) (w.alloc (.cells #[.int .i64 n, .slice on ln cn, .slice os ls cs, .slice or lr cr, .slice om lm cm] 27)) wr)) (fun i _ _ => lr - (intOf i).toNat)
  case atStart => exact ⟨0, Nat.zero_le _, rfl, rfl, by exact ⟨rfl, rfl, rfl, Nat.le_refl _, fun _ _ => rfl⟩⟩
  case round =>
    obtain ⟨k, hk, rfl, hno, hB⟩ := hrel
    have hbx := box_cells hB.out
    have hW := box_below hB.out
    have hWr := Lib.hid hW
    clear hW
    have hsz : w.heap.size < wr.heap.size := by have := hB.out.size; simp at this; omega
    by_cases hlt : k < lr
    · obtain ⟨b, off, r, oh, lh, ch, ob, lb, cb, ow, lw, cw, rfl, hb, c0, c1, c2, c3, c4, c5, i1, i2, i3, i4, hd, hg⟩ := (hr.below hWr.out).at_ hlt
      have e1 : (0:Int) ≤ k := by omega
      have e2 : (k:Int) < lr := by omega
      go_wp2
      go_still_tail 7, (by kernel_rfl)
      go_wp2_with (go_at_call 100; refine (rule17_any _ r _ _ _ _ _ _ _ _ _ _ (i1.below ?_) (i2.below ?_) (i3.below ?_) i4).mono ?_; (· (repeat (first | with_reducible exact Below.refl _ _ | with_reducible refine below_drewN_of ?_ _ | with_reducible refine below_alloc_of ?_ _ | with_reducible refine below_set_of ?_ _ _ _ (by simp) | with_reducible assumption | exact ⟨rfl, rfl, rfl, Nat.le_refl _, fun _ _ => rfl⟩))); (· (repeat (first | with_reducible exact Below.refl _ _ | with_reducible refine below_drewN_of ?_ _ | with_reducible refine below_alloc_of ?_ _ | with_reducible refine below_set_of ?_ _ _ _ (by simp) | with_reducible assumption | exact ⟨rfl, rfl, rfl, Nat.le_refl _, fun _ _ => rfl⟩))); (· (repeat (first | with_reducible exact Below.refl _ _ | with_reducible refine below_drewN_of ?_ _ | with_reducible refine below_alloc_of ?_ _ | with_reducible refine below_set_of ?_ _ _ _ (by simp) | with_reducible assumption | exact ⟨rfl, rfl, rfl, Nat.le_refl _, fun _ _ => rfl⟩))); rintro e w1 ⟨rfl, hb1⟩)
      · have hnz : ruleErr r n ≠ 0 := by simpa using (show (ruleErr r n != 0) = true by assumption)
        go_ret
        exact ⟨ret_int (by rw [hfirst.out, hno.out, hd.out]; simp [firstErr, hnz]), below_trans_of hWr.out (below_drawn hb1)⟩
      · have hz : ruleErr r n = 0 := by simpa using (show (ruleErr r n != 0) = false by assumption)
        go_roundw
        case rel => exact ⟨k + 1, by omega, by go_num, by rw [Hid, hno.out, hd.out]; simp [firstErr, hz], hB.out.trans ((below_drawn hb1).mono (Nat.succ_le_of_lt hsz))⟩
        case measure => simp [intOf]; omega
    · have hz : firstErr n rules = 0 := by rw [hno.out, List.drop_eq_nil_of_le (by rw [L3.out]; omega)]; rfl
      have hfin : Hid (validErr ⟨n, names, shown, rules, mins⟩ = if 8 < mins.length then 175 else if minsGo n none mins then 0 else 175) := by rw [Hid, hfirst.out]; simp [hz]
      clear hz hfirst hno
      by_cases h8 : 8 < lm
      · go_wp2_with fail
        go_ret
        exact ⟨ret_int (by rw [hfin.out, if_pos (by rw [L4.out]; exact h8)]), hWr.out⟩
      · go_wp2_with fail
        go_loopw [5, 6] (fun i _ wr => ∃ k : Nat, k ≤ lm ∧ i = .int .i64 k ∧ Hid (minsGo n none mins = minsGo n (prevLev mins k) (mins.drop k)) ∧ Hid (Below (w.heap.size + 1) (w.alloc (.cells #[.int .i64 n, .slice on ln cn, .slice os ls cs, .slice or lr cr, .slice om lm cm] 27)) wr)) (fun i _ _ => lm - (intOf i).toNat)
        case atStart => exact ⟨0, Nat.zero_le _, rfl, rfl, hB⟩
        case round =>
          clear hbx hWr hsz hB
          obtain ⟨q, hq, rfl, hno, hB⟩ := hrel
          have hbx := box_cells hB.out
          have hWr := Lib.hid (box_below hB.out)
          have hsz : w.heap.size < wr.heap.size := by have := hB.out.size; simp at this; omega
          by_cases hlt : q < lm
          · obtain ⟨b, off, r, ol, ll, cl, ow, lw, cw, rfl, hb, c0, c1, c2, i1, i2, i3, hd, hg⟩ := (hmn.below hWr.out).at_ hlt
            have e1 : (0:Int) ≤ q := by omega
            have e2 : (q:Int) < lm := by omega
            obtain ⟨i31, i32⟩ := i3
            have I1 := Lib.hid i1.hlen
            have I2 := Lib.hid i2.hlen
            have hgo := hno.out
            rw [hd.out] at hgo
            have Hgo := Lib.hid hgo
            clear hgo hno
            rcases q with _ | q
            · simp only [Nat.zero_mul, Nat.add_zero] at c0 c1 c2
              go_wp2_with fail
              (refine wp_region_quiet_lit (by kernel_rfl) (by kernel_rfl) ?_; (repeat (any_goals (first | go_big_quiet_step ((first
                | (go_at_call 101; exact Calls.quiet_of (lits_any _ _ _ _ _ _ ((i1.alloc _).drewN _) hn1 hn2))
                | (go_at_call 102; exact Calls.quiet_of (total_any _ _ _ _ _ _ ((i2.alloc _).drewN _) (by decide))))) | ((fail_if_success (refine split_guard (b := true) rfl rfl ?_ ?_)); (fail_if_success (refine split_guard (b := false) rfl rfl ?_ ?_)); (refine split_guard rfl rfl (fun hb => ?_) (fun hb => ?_) <;> rw [hb]))))); all_goals (refine wpQuiet_nil ?_; intro _ hw'; obtain ⟨nq, hw''⟩ := hw'; subst hw''))
              all_goals go_wp2
              all_goals first
                | (go_ret; exact ⟨ret_int (by have l1 := I1.out; have l2 := I2.out; have f := hfin.out; rw [if_neg (by rw [L4.out]; exact h8), Hgo.out] at f; rw [f]; clear f hfin Hgo L1 L2 L3 L4 I1 I2 hd hg; grind [minsGo, minBad, prevLev]), below_trans_of hWr.out (by (repeat (first | with_reducible exact Below.refl _ _ | with_reducible refine below_drewN_of ?_ _ | with_reducible refine below_alloc_of ?_ _ | with_reducible refine below_set_of ?_ _ _ _ (by simp) | with_reducible assumption | exact ⟨rfl, rfl, rfl, Nat.le_refl _, fun _ _ => rfl⟩)))⟩)
                | (go_roundw; (case rel => exact ⟨1, by omega, by go_num, by (have l1 := I1.out; have l2 := I2.out; have h5 := hg.out; have f := Hgo.out; unfold Hid; rw [f]; clear f hfin Hgo L1 L2 L3 L4 I1 I2 hd hg; grind [minsGo, minBad, prevLev]), hB.out.trans (Below.mono (B := wr.heap.size) (by (repeat (first | with_reducible exact Below.refl _ _ | with_reducible refine below_drewN_of ?_ _ | with_reducible refine below_alloc_of ?_ _ | with_reducible refine below_set_of ?_ _ _ _ (by simp) | with_reducible assumption | exact ⟨rfl, rfl, rfl, Nat.le_refl _, fun _ _ => rfl⟩))) (Nat.succ_le_of_lt hsz))⟩); (case measure => simp [intOf]; omega))
            · obtain ⟨b', off', rp, ol', ll', cl', ow', lw', cw', he, hb', d0, d1, d2, j1, j2, j3, hdp, hgp⟩ := (hmn.below hWr.out).at_ (k := q) (by omega)
              obtain ⟨rfl, rfl⟩ : b = b' ∧ off = off' := by simpa using he
              clear he d1 d2
              obtain ⟨j31, j32⟩ := j3
              have f1 : (0:Int) ≤ q := by omega
              have f2 : (q:Int) < lm := by omega
              have g6 : decide ((0:Int) < (q:Int) + 1) = true := by simp
              have f6 : ((q:Int) + 1).toNat = q + 1 := by omega
              go_wp2_with fail
              (refine wp_region_quiet_lit (by kernel_rfl) (by kernel_rfl) ?_; (repeat (any_goals (first | go_big_quiet_step ((first
                | (go_at_call 101; exact Calls.quiet_of (lits_any _ _ _ _ _ _ ((i1.alloc _).drewN _) hn1 hn2))
                | (go_at_call 102; exact Calls.quiet_of (total_any _ _ _ _ _ _ ((i2.alloc _).drewN _) (by decide))))) | ((fail_if_success (refine split_guard (b := true) rfl rfl ?_ ?_)); (fail_if_success (refine split_guard (b := false) rfl rfl ?_ ?_)); (refine split_guard rfl rfl (fun hb => ?_) (fun hb => ?_) <;> rw [hb]))))); all_goals (refine wpQuiet_nil ?_; intro _ hw'; obtain ⟨nq, hw''⟩ := hw'; subst hw''))
              all_goals go_wp2
              all_goals first
                | (go_ret; exact ⟨ret_int (by have l1 := I1.out; have l2 := I2.out; have f := hfin.out; rw [if_neg (by rw [L4.out]; exact h8), Hgo.out, prevLev_succ, hgp.out] at f; rw [f]; clear f hfin Hgo L1 L2 L3 L4 I1 I2 hd hg hgp hdp; grind [minsGo, minBad, prevLev]), below_trans_of hWr.out (by (repeat (first | with_reducible exact Below.refl _ _ | with_reducible refine below_drewN_of ?_ _ | with_reducible refine below_alloc_of ?_ _ | with_reducible refine below_set_of ?_ _ _ _ (by simp) | with_reducible assumption | exact ⟨rfl, rfl, rfl, Nat.le_refl _, fun _ _ => rfl⟩)))⟩)
                | (go_roundw; (case rel => exact ⟨q + 1 + 1, by omega, by go_num, by (have l1 := I1.out; have l2 := I2.out; have h5 := hg.out; have f := Hgo.out; have h6 := hgp.out; rw [prevLev_succ, h6] at f; unfold Hid; rw [f]; clear f hfin Hgo L1 L2 L3 L4 I1 I2 hd hg hgp hdp; grind [minsGo, minBad, prevLev]), hB.out.trans (Below.mono (B := wr.heap.size) (by (repeat (first | with_reducible exact Below.refl _ _ | with_reducible refine below_drewN_of ?_ _ | with_reducible refine below_alloc_of ?_ _ | with_reducible refine below_set_of ?_ _ _ _ (by simp) | with_reducible assumption | exact ⟨rfl, rfl, rfl, Nat.le_refl _, fun _ _ => rfl⟩))) (Nat.succ_le_of_lt hsz))⟩); (case measure => simp [intOf]; omega))
          · go_wp2_with fail
            go_ret
            exact ⟨ret_int (by rw [hfin.out, if_neg (by rw [L4.out]; exact h8), hno.out, List.drop_eq_nil_of_le (by rw [L4.out]; omega)]; cases prevLev mins q <;> rfl), hWr.out⟩
end Go.Proofs.YtaemfafnmhndiaaGreatDoor
namespace Go.Proofs.YtaemfafnmhndiaaGreatDoor
open Go.RowKit Go.Maps Go.WideMaps

noncomputable def updK {α : Type} (f : Lit → α) (k : Lit) (x : α) : Lit → α := fun j => open Classical in if j = k then x else f j
theorem updK_same {α : Type} (f : Lit → α) (k : Lit) (x : α) : updK f k x k = x := by unfold updK; rw [if_pos rfl]
theorem updK_other {α : Type} (f : Lit → α) {k j : Lit} (h : j ≠ k) (x : α) : updK f k x j = f j := by unfold updK; rw [if_neg h]

/-- Block b is a map of at most n entries that gives `f k` at key k (a value read by R, whose datum is `dat`). -/
def MapOf {α : Type} (P : Program) (K : TypeId) (R : Value → Option (DataW Unit × List MemPlace)) (dat : α → DataW Unit) (z : α) (w : World) (b n : Nat) (f : Lit → α) : Prop :=
  ∃ D : DataW Unit, w.ownsMap P K R b n D ∧ IsMap D ∧ ∀ k, D.atKey k (dat z) = dat (f k)

section
variable {α : Type} {P : Program} {K : TypeId} {R : Value → Option (DataW Unit × List MemPlace)} {dat : α → DataW Unit} {z : α} {w : World} {b n : Nat} {f : Lit → α}

theorem MapOf.made (w : World) : MapOf P K R dat z (w.alloc (.map #[] 0)) w.heap.size 0 (fun _ => z) :=
  ⟨.map [], World.ownsMap_made _ _ _ _, ⟨[], rfl⟩, fun _ => rfl⟩
theorem MapOf.kept {w' : World} {row : Option Nat} (h : MapOf P K R dat z w b n f) (hg : w.grownBy w' row) (hne : some b ≠ row) : MapOf P K R dat z w' b n f := by
  obtain ⟨D, h1, h2, h3⟩ := h; exact ⟨D, h1.kept hg hne, h2, h3⟩
theorem MapOf.block {w' : World} (h : MapOf P K R dat z w b n f) (hb : w'.heap[b]? = w.heap[b]?) : MapOf P K R dat z w' b n f := by
  obtain ⟨D, ⟨es, clock, h1, h1'⟩, h2, h3⟩ := h; exact ⟨D, ⟨es, clock, hb.trans h1, h1'⟩, h2, h3⟩
theorem MapOf.lt (h : MapOf P K R dat z w b n f) : b < w.heap.size := by obtain ⟨D, h1, _⟩ := h; exact h1.lt
theorem MapOf.below {w' : World} {B : Nat} (h : MapOf P K R dat z w b n f) (hb : Below B w w') (hB : b < B) : MapOf P K R dat z w' b n f := h.block (hb.block b hB)
theorem MapOf.alloc (h : MapOf P K R dat z w b n f) (o : Obj) : MapOf P K R dat z (w.alloc o) b n f := h.block (Below.heap_alloc _ _ _ h.lt)
theorem MapOf.drewN (h : MapOf P K R dat z w b n f) (m : Nat) : MapOf P K R dat z (w.drewN m) b n f := h
theorem MapOf.mono (h : MapOf P K R dat z w b n f) {n' : Nat} (hn : n ≤ n') : MapOf P K R dat z w b n' f := by
  obtain ⟨D, h1, h2, h3⟩ := h; exact ⟨D, h1.mono hn, h2, h3⟩

/-- 'm[k]': the run of the look-up. -/
theorem MapOf.look {t e : TypeId} (h : MapOf P K R dat z w b n f) (L : Keyed P K) (ht : P.underlying t = some (.map K e)) {zv : Value} (hz : (zeroValue e).run P w = .ok zv w) {zp : List MemPlace} (hzd : R zv = some (dat z, zp))
    (val : α → Value) (hinv : ∀ v x ps, R v = some (dat x, ps) → v = val x) {key : Value} {kl : Lit} (hkey : keyOf P K key = some kl) :
    (Instr.lookup t (.map (some b)) key false).run P w = .ok (val (f kl)) w := by
  obtain ⟨D, h1, _, h3⟩ := h
  obtain ⟨v, ps, hrun, hR⟩ := h1.lookup L ht hz hzd hkey
  rw [h3 kl] at hR
  rw [hrun, hinv v _ _ hR]

/-- 'm[k] = v': the run of the store. -/
theorem MapOf.put {t e : TypeId} (h : MapOf P K R dat z w b n f) (L : Keyed P K) (ht : P.underlying t = some (.map K e)) (hn : n < maxLen) {key v : Value} {kl : Lit} {x : α} {ps : List MemPlace}
    (hkey : keyOf P K key = some kl) (hk : WideAt.IsKeyLit kl) (hv : R v = some (dat x, ps)) :
    ∃ w', (Instr.mapUpdate t (.map (some b)) key v).run P w = .ok () w' ∧ MapOf P K R dat z w' b (n + 1) (updK f kl x) ∧ w.grownBy w' (some b) := by
  obtain ⟨D, h1, h2, h3⟩ := h
  obtain ⟨w', hrun, r1, r2⟩ := h1.update L ht hn hkey hv
  refine ⟨w', hrun, ⟨D.put kl (dat x), r1, ?_, fun k => ?_⟩, r2⟩
  · obtain ⟨es, rfl⟩ := h2; exact ⟨_, rfl⟩
  · by_cases hkk : k = kl
    · subst hkk; rw [atKey_put_same h2 hk, updK_same]
    · rw [atKey_put_other hkk, h3, updK_other _ hkk]

theorem wpList_map_look {ops : Array Oper} {rest : List Oper} {o : Oper} {a : Act} {Q : Exit → Act → World → Prop}
    (hg : o.guard = none) (m x : Operand) (t : TypeId) (hop : o.op = Op.lookup t m x false) (e : TypeId) (L : Keyed P K) (ht : P.underlying t = some (.map K e)) (h : MapOf P K R dat z w b n f)
    {zv : Value} (hz : (zeroValue e).run P w = .ok zv w) {zp : List MemPlace} (hzd : R zv = some (dat z, zp)) (val : α → Value) (hinv : ∀ v x ps, R v = some (dat x, ps) → v = val x)
    (hm : a.eval m = .map (some b)) (key : Value) (kl : Lit) (hx : a.eval x = key) (hkey : keyOf P K key = some kl)
    (hK : wpList P ops Q rest (a.put o.dst (val (f kl))) w) : wpList P ops Q (o :: rest) a w := by
  refine wpList_plain hg fun K' hK' => ?_
  have hrun := h.look L ht hz hzd val hinv hkey
  unfold Oper.wp
  simp [execOp, hop, hm, hx, hrun, Result.andThen]
  exact hK' _ _ hK

theorem wpList_map_put {ops : Array Oper} {rest : List Oper} {o : Oper} {a : Act} {Q : Exit → Act → World → Prop}
    (hg : o.guard = none) (m x v : Operand) (t : TypeId) (hop : o.op = Op.mapUpdate t m x v) (e : TypeId) (L : Keyed P K) (ht : P.underlying t = some (.map K e)) (h : MapOf P K R dat z w b n f) (hn : n < maxLen)
    (hm : a.eval m = .map (some b)) (key val : Value) (kl : Lit) (hx : a.eval x = key) (hv : a.eval v = val) (hkey : keyOf P K key = some kl) (hk : WideAt.IsKeyLit kl) (y : α) (ps : List MemPlace) (hval : R val = some (dat y, ps))
    (hK : ∀ w', MapOf P K R dat z w' b (n + 1) (updK f kl y) → w.grownBy w' (some b) → wpList P ops Q rest (a.put o.dst undef) w') : wpList P ops Q (o :: rest) a w := by
  refine wpList_plain hg fun K' hK' => ?_
  obtain ⟨w', hrun, r1, r2⟩ := h.put L ht hn hkey hk hval
  unfold Oper.wp
  simp [execOp, hop, hm, hx, hv, hrun, Result.andThen]
  exact hK' _ _ (hK w' r1 r2)
end

/-- The box stays, call after call. -/
theorem box_next {w w1 w2 : World} {o : Obj} (hB : Below (w.heap.size + 1) (w.alloc o) w1) (hb : Below w1.heap.size w1 w2) : Below (w.heap.size + 1) (w.alloc o) w2 :=
  hB.trans (hb.mono (by have := hB.size; simp at this; omega))
theorem box_first {w w1 : World} {o : Obj} (hb : Below (w.alloc o).heap.size (w.alloc o) w1) : Below (w.heap.size + 1) (w.alloc o) w1 := hb.mono (by simp)
theorem box_lt {w w1 : World} {o : Obj} (hB : Below (w.heap.size + 1) (w.alloc o) w1) : w.heap.size < w1.heap.size := by have := hB.size; simp at this; omega
theorem box_drewN {w w1 : World} {o : Obj} (hB : Below (w.heap.size + 1) (w.alloc o) w1) (m : Nat) : Below (w.heap.size + 1) (w.alloc o) (w1.drewN m) := below_drewN_of hB m

/-- Counters: elements are numbers. -/
def datI (x : Int) : DataW Unit := .lit (.int .i64 x)
abbrev Counts (P : Program) (K E : TypeId) := MapOf P K (plainElem P E) datI (0 : Int)
theorem count_inv {P : Program} {E : TypeId} (he : P.underlying E = some (.int .i64)) : ∀ v x ps, plainElem (H := Unit) P E v = some (datI x, ps) → v = .int .i64 x := by
  intro v x ps h
  obtain ⟨a, rfl, hz, _⟩ := plainElem_int_inv he h
  simp only [datI, Prod.mk.injEq, DataW.lit.injEq, Lit.int.injEq, true_and] at hz
  rw [hz.1]
theorem wf_i64' {x : Int} (h : I64 x) : (Lit.int .i64 x).wf = true := WalkArith.wf_i64 h
/-- What a number and a text read as, as keys. -/
def kI (x : Int) : Lit := .int .i64 x
def kS (s : ByteArray) : Lit := .string s.data.toList
end Go.Proofs.YtaemfafnmhndiaaGreatDoor
namespace Go.Proofs.YtaemfafnmhndiaaGreatDoor
open Go.RowKit Go.Maps Go.WideMaps

set_option maxRecDepth 100000 in
set_option maxHeartbeats 2000000 in
theorem grule_any (w : World) (r : GRule) (oh : Option Addr) (lh ch : Nat) (ob : Option Addr) (lb cb : Nat) (ow : Option Addr) (lw cw : Nat) (n : Int)
    (hh : IsInts w oh lh r.head) (hb : IsInts w ob lb r.body) (hw : IsInts w ow lw r.w) (hr : I64 r.bound) :
    Calls Tryz.prog 72 #[.agg #[.bool r.choice, .slice oh lh ch, .bool r.sum, .int .i64 r.bound, .slice ob lb cb, .slice ow lw cw], .int .i64 n] w
      fun e w' => e = .returned (.int .i64 (ruleErr r n)) ∧ Below w.heap.size w w' := by
  obtain ⟨choice, head, sum, bound, body, ws⟩ := r
  simp only at hh hb hw hr ⊢
  have L1 := Lib.hid hh.hlen
  have L2 := Lib.hid hb.hlen
  have L3 := Lib.hid hw.hlen
  have M1 := hh.hmax
  have M2 := hb.hmax
  have M3 := hw.hmax
  obtain ⟨hr1, hr2⟩ := hr
  by_cases hn0 : n < 0
  · go_enter Tryz.func72, Tryz.ntmps72
    go_wp2_with fail
    go_ret
    exact ⟨ret_int (by simp [ruleErr, hn0]), (Below.refl _ _).alloc (Nat.le_refl _) _⟩
  by_cases hn1 : 4000 < n
  · go_enter Tryz.func72, Tryz.ntmps72
    go_wp2_with fail
    go_ret
    exact ⟨ret_int (by simp [ruleErr, hn1]), (Below.refl _ _).alloc (Nat.le_refl _) _⟩
  go_enter Tryz.func72, Tryz.ntmps72
  go_wp2_with fail
  refine (increasing_any _ _ _ _ _ _ (hh.below ?_) (by omega) (by omega)).mono ?_
  · (repeat (first | with_reducible exact Below.refl _ _ | with_reducible refine below_drewN_of ?_ _ | with_reducible refine below_alloc_of ?_ _ | with_reducible refine below_set_of ?_ _ _ _ (by simp) | with_reducible assumption | exact ⟨rfl, rfl, rfl, Nat.le_refl _, fun _ _ => rfl⟩))
  rintro e w1 ⟨rfl, hb1⟩
  have hbx1 := box_cells (box_first hb1)
  have HB1 := Lib.hid (box_first hb1)
  clear hb1
  cases g1 : atomsGo n none head
  · go_wp2_with fail
    go_ret
    exact ⟨ret_int (by clear L1 L2 L3 hbx1 HB1; grind [ruleErr]), box_below HB1.out⟩
  go_wp2_with (first
    | (go_at_call 73; refine (ordered_any _ _ _ _ _ _ (hb.below (box_below HB1.out)) (by omega) (by omega)).mono ?_; rintro e w2 ⟨rfl, hb2⟩; have hbx2 := box_cells (box_next HB1.out hb2); have HB2 := Lib.hid (box_next HB1.out hb2); clear hb2)
    | (go_at_call 74; refine (weights_any _ _ _ _ _ _ (hw.below (box_below HB2.out))).mono ?_; rintro e w3 ⟨rfl, m3, rfl⟩))
  all_goals
    go_ret
    refine ⟨ret_int ?_, by first | exact box_below HB1.out | exact box_below HB2.out | exact below_drewN_of (box_below HB2.out) _⟩
    have l1 := L1.out
    have l2 := L2.out
    have l3 := L3.out
    clear L1 L2 L3 hbx1 HB1
    (try clear hbx2 HB2)
    grind [ruleErr, weightsB]
end Go.Proofs.YtaemfafnmhndiaaGreatDoor
namespace Go.Proofs.YtaemfafnmhndiaaGreatDoor
open Go.RowKit Go.Maps Go.WideMaps

def namedB (p : GProg) : Bool := decide (0 ≤ p.n) && decide (p.n ≤ 4000) && ((p.names.length : Int) == p.n) && atomsGo p.n none p.shown && namesB p.names

/-- What the map of names holds after k names. -/
def Met (l : List ByteArray) (k : Nat) (f : Lit → Int) : Prop := ∀ key, (f key = 0 ∨ f key = 1) ∧ (0 < f key ↔ ∃ j s, j < k ∧ l[j]? = some s ∧ s.toList.isEmpty = false ∧ kS s = key)

theorem Met.zero (l : List ByteArray) : Met l 0 (fun _ => 0) := fun key => ⟨.inl rfl, by simp⟩
theorem kS_inj {s t : ByteArray} (h : kS s = kS t) : s.toList = t.toList := by
  simp only [kS, Lit.string.injEq] at h
  rw [ByteArray.toList_eq, ByteArray.toList_eq, h]
theorem kS_of {s t : ByteArray} (h : s.toList = t.toList) : kS s = kS t := by
  rw [ByteArray.toList_eq, ByteArray.toList_eq] at h; simp [kS, h]

theorem Met.hit {l : List ByteArray} {k : Nat} {f : Lit → Int} {s : ByteArray} (hM : Met l k f) (hk : k < l.length) (hg : l[k]? = some s) (h : 0 < f (kS s)) : false = namesB l := by
  obtain ⟨j, t, hj, ht, hne, he⟩ := (hM (kS s)).2.1 h
  have e := kS_inj he
  refine names_no rfl hk hg (.inr (.inr ⟨j, hj, ?_⟩))
  simp only [List.getD, ht, Option.getD_some, pairBad, ← e, hne]
  simp
theorem Met.miss {l : List ByteArray} {k : Nat} {f : Lit → Int} {s : ByteArray} (hM : Met l k f) (hg : l[k]? = some s) (h1 : (s.size : Int) ≤ 200) (h2 : hasNL s = false) (h : f (kS s) = 0) : nmOk l k = true := by
  refine nmOk_of hg h1 h2 fun j hj => ?_
  have hlt : k < l.length := (List.getElem?_eq_some_iff.1 hg).1
  have ht : l[j]? = some (l[j]'(by omega)) := List.getElem?_eq_getElem (by omega)
  simp only [List.getD, ht, Option.getD_some, pairBad]
  cases c : s.toList.isEmpty
  · cases e : (s.toList == (l[j]'(by omega)).toList)
    · rfl
    · exfalso
      have e' : s.toList = (l[j]'(by omega)).toList := by simpa using e
      have := (hM (kS s)).2.2 ⟨j, _, hj, ht, by rw [← e']; exact c, (kS_of e').symm⟩
      omega
  · rfl
theorem Met.skip {l : List ByteArray} {k : Nat} {f : Lit → Int} {s : ByteArray} (hM : Met l k f) (hg : l[k]? = some s) (he : s.toList.isEmpty = true) : Met l (k + 1) f := fun key => by
  refine ⟨(hM key).1, (hM key).2.trans ⟨?_, ?_⟩⟩
  · rintro ⟨j, t, hj, r⟩; exact ⟨j, t, by omega, r⟩
  · rintro ⟨j, t, hj, ht, hne, r⟩
    rcases Nat.lt_or_ge j k with c | c
    · exact ⟨j, t, c, ht, hne, r⟩
    · obtain rfl : j = k := by omega
      rw [hg] at ht; cases ht; rw [he] at hne; cases hne
theorem Met.add {l : List ByteArray} {k : Nat} {f : Lit → Int} {s : ByteArray} (hM : Met l k f) (hg : l[k]? = some s) (he : s.toList.isEmpty = false) : Met l (k + 1) (updK f (kS s) 1) := fun key => by
  by_cases c : key = kS s
  · subst c
    rw [updK_same]
    exact ⟨.inr rfl, fun _ => ⟨k, s, by omega, hg, he, rfl⟩, fun _ => by omega⟩
  · rw [updK_other _ c]
    refine ⟨(hM key).1, (hM key).2.trans ⟨?_, ?_⟩⟩
    · rintro ⟨j, t, hj, r⟩; exact ⟨j, t, by omega, r⟩
    · rintro ⟨j, t, hj, ht, hne, r⟩
      rcases Nat.lt_or_ge j k with d | d
      · exact ⟨j, t, d, ht, hne, r⟩
      · obtain rfl : j = k := by omega
        rw [hg] at ht; cases ht; exact absurd r.symm c

set_option maxRecDepth 100000 in
set_option maxHeartbeats 2000000 in
theorem named_any (w : World) (p : GProg) (n : Int) (on : Option Addr) (ln cn : Nat) (os : Option Addr) (ls cs : Nat) (or : Option Addr) (lr cr : Nat) (om : Option Addr) (lm cm : Nat)
    (h : IsProg w n on ln os ls or lr om lm p) :
    Calls Tryz.prog 71 #[.agg #[.int .i64 n, .slice on ln cn, .slice os ls cs, .slice or lr cr, .slice om lm cm]] w
      fun e w' => e = .returned (.bool (namedB p)) ∧ Below w.heap.size w w' := by
  obtain ⟨rfl, hi, hn, hs, hr, hmn⟩ := h
  obtain ⟨n, names, shown, rules, mins⟩ := p
  simp only at hi hn hs hr hmn ⊢
  have L1 := Lib.hid hn.hlen
  have M1 := hn.hmax
  have hmm := @run_makeMap Tryz.prog
  obtain ⟨hi1, hi2⟩ := hi
  by_cases hn0 : n < 0
  · go_enter Tryz.func71, Tryz.ntmps71
    go_wp2_with fail
    go_ret
    exact ⟨ret_bool (by simp [namedB]; omega), by (repeat (first | with_reducible exact Below.refl _ _ | with_reducible refine below_drewN_of ?_ _ | with_reducible refine below_alloc_of ?_ _ | with_reducible refine below_set_of ?_ _ _ _ (by simp) | with_reducible assumption | exact ⟨rfl, rfl, rfl, Nat.le_refl _, fun _ _ => rfl⟩))⟩
  by_cases hn1 : 4000 < n
  · go_enter Tryz.func71, Tryz.ntmps71
    go_wp2_with fail
    go_ret
    exact ⟨ret_bool (by simp [namedB]; omega), by (repeat (first | with_reducible exact Below.refl _ _ | with_reducible refine below_drewN_of ?_ _ | with_reducible refine below_alloc_of ?_ _ | with_reducible refine below_set_of ?_ _ _ _ (by simp) | with_reducible assumption | exact ⟨rfl, rfl, rfl, Nat.le_refl _, fun _ _ => rfl⟩))⟩
  have g1 : 0 ≤ n := by omega
  have g2 : n ≤ 4000 := by omega
  clear hn0 hn1
  cases g3 : ((ln : Int) != n)
  · have G3 : Hid ((ln : Int) = n) := by simp at g3; exact g3
    go_enter Tryz.func71, Tryz.ntmps71
    go_wp2_with fail
    refine (increasing_any _ _ _ _ _ _ (hs.below ?_) (by omega) (by omega)).mono ?_
    · (repeat (first | with_reducible exact Below.refl _ _ | with_reducible refine below_drewN_of ?_ _ | with_reducible refine below_alloc_of ?_ _ | with_reducible refine below_set_of ?_ _ _ _ (by simp) | with_reducible assumption | exact ⟨rfl, rfl, rfl, Nat.le_refl _, fun _ _ => rfl⟩))
    rintro e w1 ⟨rfl, hb1⟩
    have hbx1 := box_cells (box_first hb1)
    have HB1 := Lib.hid (box_first hb1)
    clear hb1
    cases g4 : atomsGo n none shown
    · go_wp2_with fail
      go_ret
      exact ⟨ret_bool (by simp [namedB, g4]), box_below HB1.out⟩
    have hfin : Hid (namedB ⟨n, names, shown, rules, mins⟩ = namesB names) := by
      have l1 := L1.out; have l2 := G3.out; simp [Hid, namedB, g4, g1, g2, l1, l2]
    have hsz1 := box_lt HB1.out
    go_wp2_with fail
    go_loopw [5, 34] (fun _ i wr => ∃ (k : Nat) (f : Lit → Int), k ≤ ln ∧ i = .int .i64 k ∧ Hid (MapOf Tryz.prog 9 (plainElem Tryz.prog 3) datI (0 : Int) wr w1.heap.size k f) ∧ Hid (Met names k f) ∧ Hid (∀ j, j < k → nmOk names j = true) ∧
      Hid (Below (w.heap.size + 1) (w.alloc (.cells #[.int .i64 n, .slice on ln cn, .slice os ls cs, .slice or lr cr, .slice om lm cm] 27)) wr)) (fun _ i _ => ln - (intOf i).toNat)
    case atStart => exact ⟨0, _, Nat.zero_le _, rfl, MapOf.made w1, Met.zero _, fun j hj => absurd hj (by omega), HB1.out.alloc (Nat.succ_le_of_lt hsz1) _⟩
    case round =>
      obtain ⟨k, f, hk, rfl, HM, HMet, hno, HB⟩ := hrel
      clear hbx1
      have hbx := box_cells HB.out
      by_cases hlt : k < ln
      · obtain ⟨b, off, s, rfl, hc, hs1, hd, hg⟩ := (hn.below (box_below HB.out)).at_ hlt
        have hkey : keyOf Tryz.prog 9 (.string s) = some (kS s) := keyOf_string_mk Tryz.underlying9 (by unfold maxLen; omega)
        have hlook : ∀ m, (Instr.lookup 148 (.map (some w1.heap.size)) (.string s) false).run Tryz.prog (wr.drewN m) = .ok (.int .i64 (f (kS s))) (wr.drewN m) := fun m =>
          (HM.out.drewN m).look (string_keyed Tryz.underlying9) Tryz.underlying148 (Tryz.zeroValue3 _) (plainElem_int Tryz.underlying3 (by decide)) (Value.int .i64) (count_inv Tryz.underlying3) hkey
        have Hkey := Lib.hid hkey
        have hklt : k < names.length := by have l1 := L1.out; omega
        have Hklt := Lib.hid hklt
        clear hkey hklt
        rcases (HMet.out (kS s)).1 with hf | hf
        · rw [hf] at hlook
          have Hf := Lib.hid hf
          clear hf
          cases g6 : s.toList.isEmpty
          · have g6' : (!s.toList.isEmpty) = true := by rw [g6]; rfl
            go_wp2_with (first
              | (go_at_call 35; refine (contains_nl _ _).mono ?_; rintro e w2 ⟨rfl, m2, rfl⟩)
              | (at_mapUpdate; refine wpList_map_put rfl _ _ _ 148 rfl 3 (string_keyed Tryz.underlying9) Tryz.underlying148 (HM.out.drewN _) ?_ rfl _ _ _ rfl rfl Hkey.out ?_ 1 [] (plainElem_int Tryz.underlying3 (by decide)) ?_; (· unfold maxLen; omega); (· trivial); intro w3 HM3 hg3; have H3 := Lib.hid (And.intro HM3 hg3); clear HM3 hg3))
            all_goals first
              | (go_ret; exact ⟨ret_bool (by rw [hfin.out]; exact names_no rfl Hklt.out hg.out (by clear HM HMet hno HB hfin; grind [hasNL])), below_drewN_of (box_below HB.out) _⟩)
              | (go_ret; exact ⟨ret_bool (by rw [hfin.out]; exact names_no rfl Hklt.out hg.out (by clear HM HMet hno HB hfin; grind [hasNL])), box_below HB.out⟩)
              | (go_roundw; (case rel => exact ⟨k + 1, _, by omega, by go_num, H3.out.1, HMet.out.add hg.out g6, fun j hj => by
                  rcases Nat.lt_or_ge j k with c | c
                  · exact hno.out j c
                  · obtain rfl : j = k := by omega
                    exact HMet.out.miss hg.out (by omega) (by clear HM HMet hno HB hfin; grind [hasNL]) Hf.out, (box_drewN HB.out _).grown H3.out.2 (Nat.succ_le_of_lt (box_lt (box_drewN HB.out _))) (fun q hq => by cases hq; exact hsz1)⟩); (case measure => simp [intOf]; omega))
          · have g6' : (!s.toList.isEmpty) = false := by rw [g6]; rfl
            go_wp2_with (go_at_call 35; refine (contains_nl _ _).mono ?_; rintro e w2 ⟨rfl, m2, rfl⟩)
            all_goals first
              | (go_ret; exact ⟨ret_bool (by rw [hfin.out]; exact names_no rfl Hklt.out hg.out (by clear HM HMet hno HB hfin; grind [hasNL])), below_drewN_of (box_below HB.out) _⟩)
              | (go_ret; exact ⟨ret_bool (by rw [hfin.out]; exact names_no rfl Hklt.out hg.out (by clear HM HMet hno HB hfin; grind [hasNL])), box_below HB.out⟩)
              | (go_roundw; (case rel => exact ⟨k + 1, f, by omega, by go_num, (HM.out.drewN _).mono (Nat.le_succ _), HMet.out.skip hg.out g6, fun j hj => by
                  rcases Nat.lt_or_ge j k with c | c
                  · exact hno.out j c
                  · obtain rfl : j = k := by omega
                    exact HMet.out.miss hg.out (by omega) (by clear HM HMet hno HB hfin; grind [hasNL]) Hf.out, box_drewN HB.out _⟩); (case measure => simp [intOf]; omega))
        · rw [hf] at hlook
          have Hfin : Hid (false = namesB names) := HMet.out.hit Hklt.out hg.out (by rw [hf]; decide)
          go_wp2_with (go_at_call 35; refine (contains_nl _ _).mono ?_; rintro e w2 ⟨rfl, m2, rfl⟩)
          all_goals first
            | (go_ret; exact ⟨ret_bool (by rw [hfin.out]; exact Hfin.out), below_drewN_of (box_below HB.out) _⟩)
            | (go_ret; exact ⟨ret_bool (by rw [hfin.out]; exact Hfin.out), box_below HB.out⟩)
      · go_wp2_with fail
        go_ret
        exact ⟨ret_bool (by rw [hfin.out]; obtain rfl : k = ln := by omega
                            symm; rw [namesB, List.all_eq_true]; intro j hj; rw [List.mem_range, L1.out] at hj; exact hno.out j hj), box_below HB.out⟩
  · have G3 : Hid (¬ (ln : Int) = n) := by simp at g3; exact g3
    go_enter Tryz.func71, Tryz.ntmps71
    go_wp2_with fail
    go_ret
    exact ⟨ret_bool (by have l1 := L1.out; have l2 := G3.out; simp [namedB, l1, l2]), by (repeat (first | with_reducible exact Below.refl _ _ | with_reducible refine below_drewN_of ?_ _ | with_reducible refine below_alloc_of ?_ _ | with_reducible refine below_set_of ?_ _ _ _ (by simp) | with_reducible assumption | exact ⟨rfl, rfl, rfl, Nat.le_refl _, fun _ _ => rfl⟩))⟩

end Go.Proofs.YtaemfafnmhndiaaGreatDoor
