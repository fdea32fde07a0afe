/- Part 4 of the proof: Reduct1, Gprog4, Reduct2, Reduct3. Conditions: those that each theorem names. -/
import Derived.Test.YtaemfafnmhndiaaGreatDoorPb3
import Derived.Test.YtaemfafnmhndiaaGreatDoorPb1
import Derived.Laws.EntriesVeiled
namespace Go.Proofs.YtaemfafnmhndiaaGreatDoor
open Go.RowKit Go.Maps Go.WideMaps

/-- A function value that answers, at each number, what `q` says, and leaves old memory alone. -/
def FnPred (P : Program) (D : Int → Prop) (w : World) (fv : Value) (q : Int → Bool) : Prop :=
  ∃ (g : Nat) (lb : Array Value), fv = .func (.func g) #[] lb ∧ (∀ args w, (callFunc g args).run P w = .ok (.enter g args) w) ∧
    ∀ W, Below w.heap.size w W → ∀ x, D x → Calls P g (#[.int .i64 x] ++ lb) W fun e w' => e = .returned (.bool (q x)) ∧ Below W.heap.size W w'
theorem FnPred.below {P : Program} {D : Int → Prop} {w w' : World} {fv : Value} {q : Int → Bool} (h : FnPred P D w fv q) (hb : Below w.heap.size w w') : FnPred P D w' fv q := by
  obtain ⟨g, lb, e, eg, hc⟩ := h
  exact ⟨g, lb, e, eg, fun W hW x hx => hc W (below_trans_of hb hW) x hx⟩

set_option maxHeartbeats 1000000 in
theorem set_any (w : World) (oa : Option Addr) (len cap : Nat) (l : List Int) (n : Int) (h : IsInts w oa len l) :
    Calls Tryz.prog 30 #[.slice oa len cap, .int .i64 n] w fun e w' => e = .returned (.bool (atomsGo n none l)) ∧ ∃ m, w' = w.drewN m := by
  have hm := h.hmax
  have hl' := Lib.hid h.hlen
  go_enter Tryz.func30, Tryz.ntmps30
  go_wp2
  go_loopw [5, 6, 9] (fun _ _ i wr => ∃ k m : Nat, wr = w.drewN m ∧ k ≤ len ∧ i = .int .i64 k ∧ Hid (atomsGo n none l = atomsGo n (prevOf l k) (l.drop k))) (fun _ _ i _ => len - (intOf i).toNat)
  case atStart => exact ⟨0, 0, rfl, Nat.zero_le _, rfl, rfl⟩
  case round =>
    obtain ⟨k, m, rfl, hk, rfl, hno⟩ := hrel
    by_cases hlt : k < len
    · obtain ⟨b, off, y, rfl, hc, hr1, hr2, hd, hg⟩ := h.at_ hlt
      have Hgo : Hid (atomsGo n none l = atomsGo n (prevOf l k) (y :: l.drop (k + 1))) := by rw [Hid, hno.out, hd.out]
      clear hno
      obtain hk0 | ⟨k, rfl⟩ : k = 0 ∨ ∃ q, k = q + 1 := by rcases k with _ | k; exact .inl rfl; exact .inr ⟨k, rfl⟩
      · have g1 : k ≤ 0 := by omega
        have Hk := Lib.hid hk0
        clear hk0
        go_wp2
        all_goals first
          | (go_ret; exact ⟨ret_bool (by rw [Hgo.out, Hk.out]; clear Hgo hd hg hl' Hk; grind [atomsGo, prevOf]), _, rfl⟩)
          | (go_roundw; (case rel => exact ⟨k + 1, _, rfl, by omega, by go_num, by rw [Hid, Hgo.out, prevOf_succ, hg.out]; rw [Hk.out]; clear Hgo hd hg hl'; grind [atomsGo, prevOf]⟩); (case measure => simp [intOf]; omega))
      · obtain ⟨b', off', p, he, hcp, hp1, hp2, hdp, hgp⟩ := h.at_ (k := k) (by omega)
        obtain ⟨rfl, rfl⟩ : b = b' ∧ off = off' := by simpa using he
        clear he
        go_wp2
        all_goals first
          | (go_ret; exact ⟨ret_bool (by rw [Hgo.out, prevOf_succ, hgp.out]; clear Hgo hd hg hl' hdp hgp; grind [atomsGo]), _, rfl⟩)
          | (go_roundw; (case rel => exact ⟨k + 1 + 1, _, rfl, by omega, by go_num, by rw [Hid, Hgo.out, prevOf_succ, prevOf_succ, hgp.out, hg.out]; clear Hgo hd hg hl' hdp hgp; grind [atomsGo]⟩); (case measure => simp [intOf]; omega))
    · go_wp2
      go_ret
      exact ⟨ret_bool (by rw [hno.out, List.drop_eq_nil_of_le (by rw [hl'.out]; omega)]; cases prevOf l k <;> rfl), m, rfl⟩

/-- What the counting map holds after k numbers. -/
def Cnt (l : List Int) (k : Nat) (f : Lit → Int) : Prop := ∀ key, 0 ≤ f key ∧ f key ≤ k ∧ (0 < f key ↔ ∃ j x, j < k ∧ l[j]? = some x ∧ kI x = key)
theorem Cnt.zero (l : List Int) : Cnt l 0 (fun _ => 0) := fun key => by simp
theorem kI_inj {x y : Int} (h : kI x = kI y) : x = y := by simpa [kI] using h
theorem Cnt.add {l : List Int} {k : Nat} {f : Lit → Int} {x : Int} (hM : Cnt l k f) (hg : l[k]? = some x) : Cnt l (k + 1) (updK f (kI x) (f (kI x) + 1)) := fun key => by
  obtain ⟨h1, h2, h3⟩ := hM key
  by_cases c : key = kI x
  · subst c
    rw [updK_same]
    exact ⟨by omega, by omega, fun _ => ⟨k, x, by omega, hg, rfl⟩, fun _ => by omega⟩
  · rw [updK_other _ c]
    refine ⟨h1, by omega, h3.trans ⟨?_, ?_⟩⟩
    · rintro ⟨j, t, hj, r⟩; exact ⟨j, t, by omega, r⟩
    · rintro ⟨j, t, hj, ht, r⟩
      rcases Nat.lt_or_ge j k with d | d
      · exact ⟨j, t, d, ht, r⟩
      · obtain rfl : j = k := by omega
        rw [hg] at ht; cases ht; exact absurd r.symm c
theorem inB_iff (l : List Int) (x : Int) : inB l x = true ↔ x ∈ l := by rw [inB_eq]; simp
theorem Cnt.inB {l : List Int} {f : Lit → Int} (hM : Cnt l l.length f) (x : Int) : decide (0 < f (kI x)) = Go.Proofs.YtaemfafnmhndiaaGreatDoor.inB l x := by
  rw [Bool.eq_iff_iff, inB_iff, decide_eq_true_eq, (hM (kI x)).2.2]
  constructor
  · rintro ⟨j, y, hj, hy, e⟩; rw [← kI_inj e]; exact List.mem_of_getElem? hy
  · intro h
    obtain ⟨j, hj, e⟩ := List.getElem_of_mem h
    exact ⟨j, x, hj, by rw [List.getElem?_eq_getElem hj, e], rfl⟩

theorem int_look {w : World} {b n : Nat} {f : Lit → Int} (h : Counts Tryz.prog 3 3 w b n f) {x : Int} (hx : I64 x) :
    (Instr.lookup 133 (.map (some b)) (.int .i64 x) false).run Tryz.prog w = .ok (.int .i64 (f (kI x))) w :=
  h.look (int_keyed Tryz.underlying3) Tryz.underlying133 (Tryz.zeroValue3 _) (plainElem_int Tryz.underlying3 (by decide)) (Value.int .i64) (count_inv Tryz.underlying3) (keyOf_int_mk Tryz.underlying3 (wf_i64' hx))

set_option maxHeartbeats 1000000 in
theorem member1_any (w : World) (B bm n : Nat) (f : Lit → Int) (x : Int) (hx : I64 x) (hB : w.cell? ⟨B, 0, none⟩ = some (.map (some bm))) (hM : Counts Tryz.prog 3 3 w bm n f) :
    Calls Tryz.prog 128 #[.int .i64 x, .pointer (some ⟨B, 0, none⟩)] w fun e w' => e = .returned (.bool (decide (0 < f (kI x)))) ∧ ∃ m, w' = w.drewN m := by
  have hlook := int_look hM hx
  clear hM
  obtain ⟨hx1, hx2⟩ := hx
  go_enter Tryz.func128, Tryz.ntmps128
  go_wp2
  go_ret
  exact ⟨rfl, 0, rfl⟩

set_option maxHeartbeats 1000000 in
theorem member_any (w : World) (oa : Option Addr) (len cap : Nat) (l : List Int) (h : IsInts w oa len l) :
    Calls Tryz.prog 79 #[.slice oa len cap] w fun e w' => ∃ fv, e = .returned fv ∧ FnPred Tryz.prog I64 w' fv (inB l) ∧ Below w.heap.size w w' := by
  have hm := h.hmax
  have hl' := Lib.hid h.hlen
  have hmk : ∀ w, (Instr.makeMap 133 (some (.int .i64 (len : Int)))).run Tryz.prog w = .ok (.map (some w.heap.size)) (w.alloc (.map #[] 0)) := fun w => by
    simp [Instr.makeMap, run_underlying Tryz.underlying133]; rfl
  go_enter Tryz.func79, Tryz.ntmps79
  go_wp2
  go_loopw [5, 11] (fun _ i wr => ∃ (k : Nat) (f : Lit → Int), k ≤ len ∧ i = .int .i64 k ∧ Hid (Counts Tryz.prog 3 3 wr w.heap.size k f) ∧ Hid (Cnt l k f) ∧ Hid (Below w.heap.size w wr) ∧
      wr.cell? ⟨w.heap.size + 1, 0, none⟩ = some (.map (some w.heap.size)) ∧ w.heap.size + 1 < wr.heap.size) (fun _ i _ => len - (intOf i).toNat)
  case atStart => exact ⟨0, _, Nat.zero_le _, rfl, (MapOf.made w).alloc _, Cnt.zero _, (by show Below _ _ _; (repeat (first | with_reducible exact Below.refl _ _ | with_reducible refine below_drewN_of ?_ _ | with_reducible refine below_alloc_of ?_ _ | with_reducible refine below_set_of ?_ _ _ _ (by simp) | with_reducible assumption | exact ⟨rfl, rfl, rfl, Nat.le_refl _, fun _ _ => rfl⟩))), by simp, by simp⟩
  case round =>
    obtain ⟨k, f, hk, rfl, HM, HC, HB, hcell, hsz⟩ := hrel
    by_cases hlt : k < len
    · obtain ⟨b, off, y, rfl, hc, hr1, hr2, hd, hg⟩ := (h.below HB.out).at_ hlt
      have hlook := int_look HM.out (x := y) ⟨hr1, hr2⟩
      have hf := HC.out (kI y)
      obtain ⟨hf0, hf1, _⟩ := hf
      go_wp2_with (at_mapUpdate; refine wpList_map_put rfl _ _ _ 133 rfl 3 (int_keyed Tryz.underlying3) Tryz.underlying133 HM.out ?_ rfl _ _ _ rfl rfl (keyOf_int_mk Tryz.underlying3 (wf_i64' (x := y) ⟨hr1, hr2⟩)) ?_ (f (kI y) + 1) [] (plainElem_int Tryz.underlying3 (wf_i64' (by unfold I64; omega))) ?_; (· unfold maxLen; omega); (· trivial); intro w3 HM3 hg3; have H3 := Lib.hid (And.intro HM3 hg3); clear HM3 hg3)
      go_roundw
      case rel => exact ⟨k + 1, _, by omega, by go_num, H3.out.1, HC.out.add hg.out, HB.out.grown H3.out.2 (by omega) (fun q hq => by cases hq; exact Nat.le_refl _), H3.out.2.cell hcell (by simp), Nat.lt_of_lt_of_le hsz H3.out.2.size⟩
      case measure => simp [intOf]; omega
    · obtain rfl : k = len := by omega
      go_wp2
      go_ret
      refine ⟨_, rfl, ⟨_, _, rfl, Tryz.call128, fun W hW x hx => ?_⟩, HB.out⟩
      have hE : decide (0 < f (kI x)) = inB l x := by have := HC.out; rw [← hl'.out] at this; exact this.inB x
      rw [← hE]
      exact (member1_any W _ _ _ f x hx ((hW.cell (p := ⟨w.heap.size + 1, 0, none⟩) hsz).trans hcell) (HM.out.below hW (by omega))).mono fun e w' ⟨h1, m, h2⟩ => ⟨h1, h2 ▸ below_drewN W m⟩

def holdsB (q : Int → Bool) (x : Int) : Bool := if 0 < x then q x else !q (-x)

set_option maxHeartbeats 1000000 in
theorem holds_any (w : World) (fv : Value) (q : Int → Bool) (x : Int) (hx : -9223372036854775808 < x ∧ x ≤ 9223372036854775807) (h : FnPred Tryz.prog I64 w fv q) :
    Calls Tryz.prog 127 #[.int .i64 x, fv] w fun e w' => e = .returned (.bool (holdsB q x)) ∧ Below w.heap.size w w' := by
  obtain ⟨g, lb, rfl, eg, hc⟩ := h
  have Hc := Lib.hid hc
  clear hc
  obtain ⟨hx1, hx2⟩ := hx
  by_cases h0 : 0 < x
  · go_enter Tryz.func127, Tryz.ntmps127
    go_wp2_with (go_at_fn g; refine (Hc.out _ (Below.refl _ _) x ⟨by omega, by omega⟩).mono ?_; rintro e w1 ⟨rfl, hb1⟩)
    go_ret
    exact ⟨ret_bool (by rw [holdsB, if_pos h0]), hb1⟩
  · go_enter Tryz.func127, Tryz.ntmps127
    go_wp2_with (go_at_fn g; refine (Hc.out _ (Below.refl _ _) (-x) ⟨by omega, by omega⟩).mono ?_; rintro e w1 ⟨rfl, hb1⟩)
    go_ret
    exact ⟨ret_bool (by rw [holdsB, if_neg (by omega)]), hb1⟩

/-- The first place at which p holds, or -1. -/
def firstI {α : Type} (p : α → Bool) : List α → Int → Int
  | [], _ => -1
  | x :: l, k => if p x then k else firstI p l (k + 1)

set_option maxHeartbeats 1000000 in
theorem indexFuncI_any (w : World) (oa : Option Addr) (len cap : Nat) (l : List Int) (fv : Value) (q : Int → Bool) (D : Int → Prop) (h : IsInts w oa len l) (hf : FnPred Tryz.prog D w fv q) (hD : ∀ x ∈ l, D x) :
    Calls Tryz.prog 108 #[.slice oa len cap, fv] w fun e w' => e = .returned (.int .i64 (firstI q l 0)) ∧ Below w.heap.size w w' := by
  have hm := h.hmax
  have hl' := Lib.hid h.hlen
  obtain ⟨g, lb, rfl, eg, hc⟩ := hf
  have Hc := Lib.hid hc
  clear hc
  go_enter Tryz.func108, Tryz.ntmps108
  go_wp2
  go_loopw [5, 8] (fun _ i wr => ∃ k : Nat, Hid (Below w.heap.size w wr) ∧ k ≤ len ∧ i = .int .i64 k ∧ Hid (firstI q l 0 = firstI q (l.drop k) k)) (fun _ i _ => len - (intOf i).toNat)
  case atStart => exact ⟨0, Below.refl _ _, Nat.zero_le _, rfl, rfl⟩
  case round =>
    obtain ⟨k, HB, hk, rfl, hno⟩ := hrel
    by_cases hlt : k < len
    · obtain ⟨b, off, y, rfl, hc, hr1, hr2, hd, hg⟩ := (h.below HB.out).at_ hlt
      have Hgo : Hid (firstI q l 0 = firstI q (y :: l.drop (k + 1)) k) := by rw [Hid, hno.out, hd.out]
      clear hno
      go_wp2_with (go_at_fn g; refine (Hc.out _ HB.out y (hD y (List.mem_of_getElem? hg.out))).mono ?_; rintro e w1 ⟨rfl, hb1⟩)
      · go_ret
        exact ⟨ret_int (by rw [Hgo.out]; clear Hgo; grind [firstI]), below_trans_of HB.out hb1⟩
      · go_roundw
        case rel => exact ⟨k + 1, below_trans_of HB.out hb1, by omega, by go_num, by rw [Hid, Hgo.out]; clear Hgo; grind [firstI]⟩
        case measure => simp [intOf]; omega
    · go_wp2
      go_ret
      exact ⟨ret_int (by rw [hno.out, List.drop_eq_nil_of_le (by rw [hl'.out]; omega)]; rfl), HB.out⟩

theorem firstI_ge {α : Type} (p : α → Bool) (l : List α) (k : Int) (hk : 0 ≤ k) : decide (0 ≤ firstI p l k) = l.any p := by
  induction l generalizing k with
  | nil => rfl
  | cons x l ih =>
    by_cases h : p x = true
    · have e : firstI p (x :: l) k = k := by rw [firstI, if_pos h]
      rw [e]; simp [h, hk]
    · have h' : p x = false := by simpa using h
      have e : firstI p (x :: l) k = firstI p l (k + 1) := by rw [firstI, if_neg h]
      rw [e, ih (k + 1) (by omega)]; simp [h']

set_option maxHeartbeats 1000000 in
theorem containsFuncI_any (w : World) (oa : Option Addr) (len cap : Nat) (l : List Int) (fv : Value) (q : Int → Bool) (D : Int → Prop) (h : IsInts w oa len l) (hf : FnPred Tryz.prog D w fv q) (hD : ∀ x ∈ l, D x) :
    Calls Tryz.prog 76 #[.slice oa len cap, fv] w fun e w' => e = .returned (.bool (l.any q)) ∧ Below w.heap.size w w' := by
  have hge := Lib.hid (firstI_ge q l 0 (Int.le_refl 0))
  go_enter Tryz.func76, Tryz.ntmps76
  go_wp2_with (go_at_call 108; refine (indexFuncI_any _ _ _ _ _ _ _ _ h hf hD).mono ?_; rintro e w1 ⟨rfl, hb1⟩)
  go_ret
  exact ⟨ret_bool hge.out, hb1⟩
end Go.Proofs.YtaemfafnmhndiaaGreatDoor
namespace Go.Proofs.YtaemfafnmhndiaaGreatDoor
open Go.RowKit

theorem minBad_iff (n : Int) (prev : Option Int) (m : GMin) : minBad n prev m = (!litsGo n none m.lits || !weightsB m.w m.lits.length || decide (m.level < -2147483647) || decide (2147483647 < m.level) ||
    (match prev with | none => false | some p => decide (p ≤ m.level))) := by
  have h : (m.w.length != m.lits.length || decide (totalGo 1 0 m.w < 0)) = !weightsB m.w m.lits.length := by
    unfold weightsB
    rw [Bool.eq_iff_iff]
    simp
    omega
  unfold minBad
  rw [← h]
  cases prev <;> simp only [Bool.or_assoc]

set_option maxRecDepth 100000 in
set_option maxHeartbeats 4000000 in
theorem gvalid_any (w : World) (p : GProg) (n : Int) (on : Option Addr) (ln cn : Nat) (os : Option Addr) (ls cs : Nat) (or : Option Addr) (lr cr : Nat) (om : Option Addr) (lm cm : Nat)
    (h : IsProg w n on ln os ls or lr om lm p) :
    Calls Tryz.prog 27 #[.agg #[.int .i64 n, .slice on ln cn, .slice os ls cs, .slice or lr cr, .slice om lm cm]] w
      fun e w' => e = .returned (.int .i64 (validErr p)) ∧ Below w.heap.size w w' := by
  have hp := h
  obtain ⟨rfl, hi, hn, hs, hr, hmn⟩ := h
  obtain ⟨n, names, shown, rules, mins⟩ := p
  simp only at hi hn hs hr hmn hp ⊢
  have L1 := Lib.hid hn.hlen
  have L3 := Lib.hid hr.hlen
  have L4 := Lib.hid hmn.hlen
  have M1 := hn.hmax
  have M3 := hr.hmax
  have M4 := hmn.hmax
  obtain ⟨hi1, hi2⟩ := hi
  have Hv := Lib.hid (valid_mid (mins := mins) (rules := rules) (shown := shown) (names := names) (n := n))
  cases hnm : namedB ⟨n, names, shown, rules, mins⟩
  · have fin : validErr ⟨n, names, shown, rules, mins⟩ = 170 := by clear Hv L1 L3 L4; grind [validErr, namedB]
    have Fin := Lib.hid fin
    clear fin
    go_enter Tryz.func27, Tryz.ntmps27
    go_wp2_with (go_at_call 71; refine (named_any _ _ _ _ _ _ _ _ _ _ _ _ _ _ _ (hp.below ?_)).mono ?_; (· (repeat (first | with_reducible exact Below.refl _ _ | with_reducible refine below_drewN_of ?_ _ | with_reducible refine below_alloc_of ?_ _ | with_reducible refine below_set_of ?_ _ _ _ (by simp) | with_reducible assumption | exact ⟨rfl, rfl, rfl, Nat.le_refl _, fun _ _ => rfl⟩))); rintro e w1 ⟨rfl, hb1⟩)
    go_ret
    exact ⟨ret_int Fin.out.symm, box_below (box_first hb1)⟩
  have hnb : 0 ≤ n ∧ n ≤ 4000 ∧ (names.length : Int) = n ∧ namesB names = true ∧ atomsGo n none shown = true := by
    simp only [namedB, Bool.and_eq_true, decide_eq_true_eq, beq_iff_eq] at hnm; exact ⟨hnm.1.1.1.1, hnm.1.1.1.2, hnm.1.1.2, hnm.2, hnm.1.2⟩
  obtain ⟨hn1, hn2, k1, k2, k3⟩ := hnb
  by_cases h40 : 40000 < lr
  · have fin : validErr ⟨n, names, shown, rules, mins⟩ = 171 := by have l3 := L3.out; clear Hv L1 L3 L4; grind [validErr]
    have Fin := Lib.hid fin
    clear fin k1
    go_enter Tryz.func27, Tryz.ntmps27
    go_wp2_with (go_at_call 71; refine (named_any _ _ _ _ _ _ _ _ _ _ _ _ _ _ _ (hp.below ?_)).mono ?_; (· (repeat (first | with_reducible exact Below.refl _ _ | with_reducible refine below_drewN_of ?_ _ | with_reducible refine below_alloc_of ?_ _ | with_reducible refine below_set_of ?_ _ _ _ (by simp) | with_reducible assumption | exact ⟨rfl, rfl, rfl, Nat.le_refl _, fun _ _ => rfl⟩))); rintro e w1 ⟨rfl, hb1⟩; have hbx1 := box_cells (box_first hb1); have HB1 := Lib.hid (box_first hb1); clear hb1)
    go_ret
    exact ⟨ret_int Fin.out.symm, box_below HB1.out⟩
  have hfirst := Hv.out ⟨hn1, hn2, k1⟩ k2 k3 (by have l3 := L3.out; omega)
  have hnm' : (!namedB ⟨n, names, shown, rules, mins⟩) = false := by rw [hnm]; rfl
  clear Hv k1 k2 k3
  go_enter Tryz.func27, Tryz.ntmps27
  go_wp2_with (go_at_call 71; refine (named_any _ _ _ _ _ _ _ _ _ _ _ _ _ _ _ (hp.below ?_)).mono ?_; (· (repeat (first | with_reducible exact Below.refl _ _ | with_reducible refine below_drewN_of ?_ _ | with_reducible refine below_alloc_of ?_ _ | with_reducible refine below_set_of ?_ _ _ _ (by simp) | with_reducible assumption | exact ⟨rfl, rfl, rfl, Nat.le_refl _, fun _ _ => rfl⟩))); rintro e w1 ⟨rfl, hb1⟩; have hbx1 := box_cells (box_first hb1); have HB1 := Lib.hid (box_first hb1); clear hb1)
  go_loopw [4, 5, 20] (fun _ _ i wr => ∃ k : Nat, k ≤ lr ∧ i = .int .i64 k ∧ Hid (firstErr n rules = firstErr n (rules.drop k)) ∧ Hid (Below (w.heap.size + 1) (w.alloc (.cells #[.int .i64 n, .slice on ln cn, .slice os ls cs, .slice or lr cr, .slice om lm cm] 27)) wr)) (fun _ _ i _ => lr - (intOf i).toNat)
  case atStart => exact ⟨0, Nat.zero_le _, rfl, rfl, HB1.out⟩
  case round =>
    clear hbx1
    obtain ⟨k, hk, rfl, hno, HB⟩ := hrel
    have hbx := box_cells HB.out
    have hsz := box_lt HB.out
    by_cases hlt : k < lr
    · obtain ⟨b, off, r, oh, lh, ch, ob, lb, cb, ow, lw, cw, rfl, hb, c0, c1, c2, c3, c4, c5, i1, i2, i3, i4, hd, hg⟩ := (hr.below (box_below HB.out)).at_ hlt
      go_wp2_with (go_at_call 72; refine (grule_any _ r _ _ _ _ _ _ _ _ _ _ (i1.below ?_) (i2.below ?_) (i3.below ?_) i4).mono ?_; (· (repeat (first | with_reducible exact Below.refl _ _ | with_reducible refine below_drewN_of ?_ _ | with_reducible refine below_alloc_of ?_ _ | with_reducible refine below_set_of ?_ _ _ _ (by simp) | with_reducible assumption | exact ⟨rfl, rfl, rfl, Nat.le_refl _, fun _ _ => rfl⟩))); (· (repeat (first | with_reducible exact Below.refl _ _ | with_reducible refine below_drewN_of ?_ _ | with_reducible refine below_alloc_of ?_ _ | with_reducible refine below_set_of ?_ _ _ _ (by simp) | with_reducible assumption | exact ⟨rfl, rfl, rfl, Nat.le_refl _, fun _ _ => rfl⟩))); (· (repeat (first | with_reducible exact Below.refl _ _ | with_reducible refine below_drewN_of ?_ _ | with_reducible refine below_alloc_of ?_ _ | with_reducible refine below_set_of ?_ _ _ _ (by simp) | with_reducible assumption | exact ⟨rfl, rfl, rfl, Nat.le_refl _, fun _ _ => rfl⟩))); rintro e w2 ⟨rfl, hb2⟩)
      · have hnz : ruleErr r n ≠ 0 := by simpa using (show (ruleErr r n != 0) = true by assumption)
        go_ret
        exact ⟨ret_int (by rw [hfirst.out, hno.out, hd.out]; simp [firstErr, hnz]), below_trans_of (box_below HB.out) (below_trans_of (below_alloc _ _) hb2)⟩
      · have hz : ruleErr r n = 0 := by simpa using (show (ruleErr r n != 0) = false by assumption)
        go_roundw
        case rel => exact ⟨k + 1, by omega, by go_num, by rw [Hid, hno.out, hd.out]; simp [firstErr, hz], box_next HB.out (below_trans_of (below_alloc _ _) hb2)⟩
        case measure => simp [intOf]; omega
    · have hz : firstErr n rules = 0 := by rw [hno.out, List.drop_eq_nil_of_le (by rw [L3.out]; omega)]; rfl
      have hfin : Hid (validErr ⟨n, names, shown, rules, mins⟩ = if 8 < mins.length then 175 else if minsGo n none mins then 0 else 175) := by rw [Hid, hfirst.out]; simp [hz]
      clear hz hfirst hno
      by_cases h8 : 8 < lm
      · go_wp2_with fail
        go_ret
        exact ⟨ret_int (by rw [hfin.out, if_pos (by rw [L4.out]; exact h8)]), box_below HB.out⟩
      · go_wp2_with fail
        go_loopw [6, 7, 39] (fun _ _ i wr => ∃ k : Nat, k ≤ lm ∧ i = .int .i64 k ∧ Hid (minsGo n none mins = minsGo n (prevLev mins k) (mins.drop k)) ∧ Hid (Below (w.heap.size + 1) (w.alloc (.cells #[.int .i64 n, .slice on ln cn, .slice os ls cs, .slice or lr cr, .slice om lm cm] 27)) wr)) (fun _ _ i _ => lm - (intOf i).toNat)
        case atStart => exact ⟨0, Nat.zero_le _, rfl, rfl, HB.out⟩
        case round =>
          clear hbx hsz HB
          obtain ⟨q, hq, rfl, hno, HB⟩ := hrel
          have hbx := box_cells HB.out
          have hsz := box_lt HB.out
          by_cases hlt : q < lm
          · obtain ⟨b, off, r, ol, ll, cl, ow, lw, cw, rfl, hb, c0, c1, c2, i1, i2, i3, hd, hg⟩ := (hmn.below (box_below HB.out)).at_ hlt
            have e1 : (0:Int) ≤ q := by omega
            have e2 : (q:Int) < lm := by omega
            obtain ⟨i31, i32⟩ := i3
            have I1 := Lib.hid i1.hlen
            have Hgo : Hid (minsGo n none mins = minsGo n (prevLev mins q) (r :: mins.drop (q + 1))) := by rw [Hid, hno.out, hd.out]
            clear hno
            have A1 : ∀ x o, (later (wr.alloc (.cells #[.int .i64 r.level, .slice ol ll cl, .slice ow lw cw] 80)) x).cell? ⟨w.heap.size, o, none⟩ = (#[.int .i64 n, .slice on ln cn, .slice os ls cs, .slice or lr cr, .slice (some ⟨b, off, none⟩) lm cm] : Array Value)[o]? := laterA (by simp [Nat.lt_succ_of_lt hsz]) (fun o => by rw [World.cell?_alloc_lt _ _ _ (by exact hsz)]; exact hbx o)
            have A2 : ∀ x o, (later (wr.alloc (.cells #[.int .i64 r.level, .slice ol ll cl, .slice ow lw cw] 80)) x).cell? ⟨wr.heap.size, o, none⟩ = (#[.int .i64 r.level, .slice ol ll cl, .slice ow lw cw] : Array Value)[o]? := laterA (by simp) (fun o => by simp)
            rcases q with _ | q
            · simp only [Nat.zero_mul, Nat.add_zero] at c0 c1 c2
              go_wp2_with fail
              (refine wp_region_later (by kernel_rfl) (by kernel_rfl) ?_; (repeat (any_goals (first | go_big_quiet_step ((first
                | (go_at_call 73; exact call_later (ordered_any _ _ _ _ _ _ ((i1.alloc _).below (later_below _ _)) hn1 hn2))
                | (go_at_call 74; exact call_quiet (weights_any _ _ _ _ _ _ ((i2.alloc _).below (later_below _ _)))))) | ((fail_if_success (refine split_guard (b := true) rfl rfl ?_ ?_)); (fail_if_success (refine split_guard (b := false) rfl rfl ?_ ?_)); (refine split_guard rfl rfl (fun hb => ?_) (fun hb => ?_) <;> rw [hb]))))); all_goals (refine wpQuiet_nil ?_; intro wq hbq))
              all_goals go_wp2
              all_goals first
                | (go_ret; exact ⟨ret_int (by have l1 := I1.out; have f := hfin.out; rw [if_neg (by rw [L4.out]; exact h8), Hgo.out] at f; rw [f]; clear f hfin Hgo L1 L3 L4 I1 hd hg; grind [minsGo, minBad_iff, prevLev]), below_trans_of (box_below HB.out) (below_trans_of (below_alloc _ _) hbq)⟩)
                | (go_roundw; (case rel => exact ⟨1, by omega, by go_num, by (have l1 := I1.out; have h5 := hg.out; have f := Hgo.out; unfold Hid; rw [f]; clear f hfin Hgo L1 L3 L4 I1 hd hg; grind [minsGo, minBad_iff, prevLev]), box_next HB.out (below_trans_of (below_alloc _ _) hbq)⟩); (case measure => simp [intOf]; omega))
            · obtain ⟨b', off', rp, ol', ll', cl', ow', lw', cw', he, hb', d0, d1, d2, j1, j2, j3, hdp, hgp⟩ := (hmn.below (box_below HB.out)).at_ (k := q) (by omega)
              obtain ⟨rfl, rfl⟩ : b = b' ∧ off = off' := by simpa using he
              clear he d1 d2
              obtain ⟨j31, j32⟩ := j3
              have A3 := laterC (w := wr.alloc (.cells #[.int .i64 r.level, .slice ol ll cl, .slice ow lw cw] 80)) (by rw [World.cell?_alloc_lt _ _ _ (by exact hb)]; exact d0)
              have f1 : (0:Int) ≤ q := by omega
              have f2 : (q:Int) < lm := by omega
              have g6 : decide ((0:Int) < (q:Int) + 1) = true := by simp
              have f6 : ((q:Int) + 1).toNat = q + 1 := by omega
              go_wp2_with fail
              (refine wp_region_later (by kernel_rfl) (by kernel_rfl) ?_; (repeat (any_goals (first | go_big_quiet_step ((first
                | (go_at_call 73; exact call_later (ordered_any _ _ _ _ _ _ ((i1.alloc _).below (later_below _ _)) hn1 hn2))
                | (go_at_call 74; exact call_quiet (weights_any _ _ _ _ _ _ ((i2.alloc _).below (later_below _ _)))))) | ((fail_if_success (refine split_guard (b := true) rfl rfl ?_ ?_)); (fail_if_success (refine split_guard (b := false) rfl rfl ?_ ?_)); (refine split_guard rfl rfl (fun hb => ?_) (fun hb => ?_) <;> rw [hb]))))); all_goals (refine wpQuiet_nil ?_; intro wq hbq))
              all_goals go_wp2
              all_goals first
                | (go_ret; exact ⟨ret_int (by have l1 := I1.out; have f := hfin.out; rw [if_neg (by rw [L4.out]; exact h8), Hgo.out, prevLev_succ, hgp.out] at f; rw [f]; clear f hfin Hgo L1 L3 L4 I1 hd hg hgp hdp; grind [minsGo, minBad_iff, prevLev]), below_trans_of (box_below HB.out) (below_trans_of (below_alloc _ _) hbq)⟩)
                | (go_roundw; (case rel => exact ⟨q + 1 + 1, by omega, by go_num, by (have l1 := I1.out; have h5 := hg.out; have f := Hgo.out; have h6 := hgp.out; rw [prevLev_succ, h6] at f; unfold Hid; rw [f]; clear f hfin Hgo L1 L3 L4 I1 hd hg hgp hdp; grind [minsGo, minBad_iff, prevLev]), box_next HB.out (below_trans_of (below_alloc _ _) hbq)⟩); (case measure => simp [intOf]; omega))
          · go_wp2_with fail
            go_ret
            exact ⟨ret_int (by rw [hfin.out, if_neg (by rw [L4.out]; exact h8), hno.out, List.drop_eq_nil_of_le (by rw [L4.out]; omega)]; cases prevLev mins q <;> rfl), box_below HB.out⟩
end Go.Proofs.YtaemfafnmhndiaaGreatDoor
namespace Go.Proofs.YtaemfafnmhndiaaGreatDoor
open Go.RowKit Go.Maps Go.WideMaps

def DLit (x : Int) : Prop := -9223372036854775808 < x ∧ x ≤ 9223372036854775807
def sumGo (q : Int → Bool) : Int → List Int → List Int → Int
  | S, x :: b, w :: ws => sumGo q (if holdsB q x then S + w else S) b ws
  | S, _, _ => S
def bodyB (q : Int → Bool) (r : GRule) : Bool := if r.sum then decide (r.bound ≤ sumGo q 0 r.body r.w) else r.body.all (holdsB q)
structure OkBody (r : GRule) : Prop where
  lits : ∀ x ∈ r.body, DLit x
  len : r.sum = true → r.w.length = r.body.length
  ws : r.sum = true → ∀ y ∈ r.w, 0 ≤ y ∧ y ≤ 1048576
  few : r.sum = true → r.body.length ≤ 8000

set_option maxHeartbeats 1000000 in
theorem body1_any (w : World) (B : Nat) (fv : Value) (q : Int → Bool) (x : Int) (hx : DLit x) (hB : w.cell? ⟨B, 0, none⟩ = some fv) (hf : FnPred Tryz.prog I64 w fv q) :
    Calls Tryz.prog 126 #[.int .i64 x, .pointer (some ⟨B, 0, none⟩)] w fun e w' => e = .returned (.bool (!holdsB q x)) ∧ Below w.heap.size w w' := by
  go_enter Tryz.func126, Tryz.ntmps126
  go_wp2_with (go_at_call 127; refine (holds_any _ _ _ _ hx hf).mono ?_; rintro e w1 ⟨rfl, hb1⟩)
  go_ret
  exact ⟨rfl, hb1⟩

theorem not_any_not {α : Type} (p : α → Bool) (l : List α) : (!l.any fun x => !p x) = l.all p := by
  induction l with
  | nil => rfl
  | cons x l ih => simp only [List.any_cons, List.all_cons, ← ih]; cases p x <;> simp

set_option maxRecDepth 100000 in
set_option maxHeartbeats 2000000 in
theorem body_any (w : World) (r : GRule) (oh : Option Addr) (lh ch : Nat) (ob : Option Addr) (lb cb : Nat) (ow : Option Addr) (lw cw : Nat) (fv : Value) (q : Int → Bool)
    (hh : IsInts w oh lh r.head) (hb : IsInts w ob lb r.body) (hw : IsInts w ow lw r.w) (hr : I64 r.bound) (hok : OkBody r) (hf : FnPred Tryz.prog I64 w fv q) :
    Calls Tryz.prog 78 #[.agg #[.bool r.choice, .slice oh lh ch, .bool r.sum, .int .i64 r.bound, .slice ob lb cb, .slice ow lw cw], fv] w
      fun e w' => e = .returned (.bool (bodyB q r)) ∧ Below w.heap.size w w' := by
  obtain ⟨choice, head, sum, bound, body, ws⟩ := r
  obtain ⟨h1, h2, h3, h4⟩ := hok
  simp only at hh hb hw hr h1 h2 h3 h4 ⊢
  have L2 := Lib.hid hb.hlen
  have L3 := Lib.hid hw.hlen
  have M2 := hb.hmax
  have M3 := hw.hmax
  obtain ⟨hr1, hr2⟩ := hr
  have hfv : fv.oneCell' = true := by obtain ⟨g, l', rfl, _⟩ := hf; rfl
  cases sum
  · clear h2 h3 h4
    go_enter Tryz.func78, Tryz.ntmps78
    go_wp2_with (go_at_call 76; fail)
    refine (containsFuncI_any _ _ _ _ body _ (fun x => !holdsB q x) DLit ((hb.alloc _).alloc _) ⟨126, _, rfl, Tryz.call126, fun W hW x hx => ?_⟩ h1).mono ?_
    · have hWw := below_trans_of (below_alloc_of (below_alloc w _) _) hW
      exact body1_any W (w.heap.size + 1) fv q x hx ((hW.cell (p := ⟨w.heap.size + 1, 0, none⟩) (by simp)).trans (by simp)) (hf.below hWw)
    · rintro e w1 ⟨rfl, hb1⟩
      go_wp2
      go_ret
      exact ⟨ret_bool (by rw [not_any_not]; simp [bodyB]), below_trans_of (below_alloc_of (below_alloc w _) _) hb1⟩
  · have h2 := h2 rfl
    have h3 := h3 rfl
    have h4 := h4 rfl
    have H3 := Lib.hid h3
    have H2 := Lib.hid h2
    have H1 := Lib.hid h1
    clear h2 h3 h1
    have h4' : lb ≤ 8000 := by rw [← L2.out]; exact h4
    go_enter Tryz.func78, Tryz.ntmps78
    go_wp2_with fail
    go_loopw [5, 6, 7, 19] (fun s _ _ i wr => ∃ (k : Nat) (S : Int), k ≤ lb ∧ i = .int .i64 k ∧ s = .int .i64 S ∧ 0 ≤ S ∧ S ≤ k * 1048576 ∧ Hid (sumGo q 0 body ws = sumGo q S (body.drop k) (ws.drop k)) ∧
      Hid (Below (w.heap.size + 2) ((w.alloc (.cells #[.bool choice, .slice oh lh ch, .bool true, .int .i64 bound, .slice ob lb cb, .slice ow lw cw] 60)).alloc (.cells #[fv] 92)) wr)) (fun _ _ _ i _ => lb - (intOf i).toNat)
    case atStart => exact ⟨0, 0, Nat.zero_le _, rfl, rfl, by omega, by omega, rfl, by show Below _ _ _; exact Below.refl _ _⟩
    case round =>
      obtain ⟨k, S, hk, rfl, rfl, hS0, hS1, hno, HB⟩ := hrel
      have hbx : ∀ j, wr.cell? ⟨w.heap.size, j, none⟩ = _ := fun j => (HB.out.cell (p := ⟨w.heap.size, j, none⟩) (by simp)).trans (World.cell?_alloc_lt _ _ _ (by simp))
      have hbx2 : wr.cell? ⟨w.heap.size + 1, 0, none⟩ = some fv := (HB.out.cell (p := ⟨w.heap.size + 1, 0, none⟩) (by simp)).trans (by simp)
      have HW := Lib.hid ((below_alloc_of (below_alloc w (.cells #[.bool choice, .slice oh lh ch, .bool true, .int .i64 bound, .slice ob lb cb, .slice ow lw cw] 60)) (.cells #[fv] 92)).trans (HB.out.mono (by omega)))
      have hsz : w.heap.size + 2 ≤ wr.heap.size := by have := HB.out.size; simpa using this
      by_cases hlt : k < lb
      · obtain ⟨b, off, y, rfl, hc, hr1, hr2, hd, hg⟩ := (hb.below HW.out).at_ hlt
        have hlw : k < lw := by rw [← L3.out, H2.out, L2.out]; exact hlt
        obtain ⟨b', off', z, rfl, hc', _, _, hd', hg'⟩ := (hw.below HW.out).at_ hlw
        obtain ⟨hz0, hz1⟩ := H3.out z (List.mem_of_getElem? hg'.out)
        have Hgo : Hid (sumGo q 0 body ws = sumGo q S (y :: body.drop (k + 1)) (z :: ws.drop (k + 1))) := by rw [Hid, hno.out, hd.out, hd'.out]
        clear hno
        have hdl := Lib.hid (H1.out y (List.mem_of_getElem? hg.out))
        cases hp : holdsB q y
        · go_wp2_with (go_at_call 127; refine (holds_any _ _ _ _ hdl.out (hf.below HW.out)).mono ?_; rintro e w1 ⟨rfl, hb1⟩)
          go_roundw
          case rel => exact ⟨k + 1, S, by omega, by go_num, rfl, by omega, by omega, by rw [Hid, Hgo.out, sumGo, hp]; rfl, HB.out.trans (hb1.mono hsz)⟩
          case measure => simp [intOf]; omega
        · go_wp2_with (go_at_call 127; refine (holds_any _ _ _ _ hdl.out (hf.below HW.out)).mono ?_; rintro e w1 ⟨rfl, hb1⟩; have hbx3 : ∀ j, w1.cell? ⟨w.heap.size, j, none⟩ = _ := fun j => (hb1.cell (p := ⟨w.heap.size, j, none⟩) (by show w.heap.size < wr.heap.size; omega)).trans (hbx j); have hc3 := (hb1.cell (p := ⟨b', off' + k, none⟩) (cell_lt hc')).trans hc')
          go_roundw
          case rel => exact ⟨k + 1, S + z, by omega, by go_num, by go_num, by omega, by omega, by rw [Hid, Hgo.out, sumGo, hp]; rfl, HB.out.trans (hb1.mono hsz)⟩
          case measure => simp [intOf]; omega
      · have hfin : Hid (sumGo q 0 body ws = S) := by rw [Hid, hno.out, List.drop_eq_nil_of_le (by rw [L2.out]; omega)]; cases ws.drop k <;> rfl
        go_wp2
        go_ret
        exact ⟨ret_bool (by simp [bodyB, hfin.out]), HW.out⟩

set_option maxHeartbeats 1000000 in
theorem bigW_any (w : World) (x : Int) : Calls Tryz.prog 77 #[.int .i64 x] w fun e w' => e = .returned (.bool (decide (x < 0) || decide (1048576 < x))) ∧ Below w.heap.size w w' := by
  go_enter Tryz.func77, Tryz.ntmps77
  go_wp2
  all_goals (go_ret; exact ⟨ret_bool (by grind), Below.refl _ _⟩)

def checkErr (p : GProg) (m : List Int) : Int := if validErr p ≠ 0 then validErr p else if atomsGo p.n none m then 0 else 2

set_option maxHeartbeats 1000000 in
theorem rcheck_any (w : World) (p : GProg) (n : Int) (on : Option Addr) (ln cn : Nat) (os : Option Addr) (ls cs : Nat) (or : Option Addr) (lr cr : Nat) (om : Option Addr) (lm cm : Nat)
    (oa : Option Addr) (len cap : Nat) (m : List Int) (h : IsProg w n on ln os ls or lr om lm p) (hm : IsInts w oa len m) :
    Calls Tryz.prog 80 #[.agg #[.int .i64 n, .slice on ln cn, .slice os ls cs, .slice or lr cr, .slice om lm cm], .slice oa len cap] w
      fun e w' => e = .returned (.int .i64 (checkErr p m)) ∧ Below w.heap.size w w' := by
  have hn := h.hn
  subst hn
  have hi := h.i64
  obtain ⟨hi1, hi2⟩ := hi
  cases hv : (validErr p != 0)
  · have hv' : Hid (validErr p = 0) := by simpa [Hid] using hv
    go_enter Tryz.func80, Tryz.ntmps80
    go_wp2_with (first
      | (go_at_call 27; refine (gvalid_any _ _ _ _ _ _ _ _ _ _ _ _ _ _ _ (h.below ?_)).mono ?_; (· (repeat (first | with_reducible exact Below.refl _ _ | with_reducible refine below_drewN_of ?_ _ | with_reducible refine below_alloc_of ?_ _ | with_reducible refine below_set_of ?_ _ _ _ (by simp) | with_reducible assumption | exact ⟨rfl, rfl, rfl, Nat.le_refl _, fun _ _ => rfl⟩))); rintro e w1 ⟨rfl, hb1⟩; have hbx1 := box_cells (box_first hb1); have HB1 := Lib.hid (box_first hb1); clear hb1)
      | (go_at_call 30; refine (set_any _ _ _ _ _ _ (hm.below (box_below HB1.out))).mono ?_; rintro e w2 ⟨rfl, m2, rfl⟩))
    all_goals
      go_ret
      exact ⟨ret_int (by have := hv'.out; clear hv' HB1 hbx1; grind [checkErr]), below_drewN_of (box_below HB1.out) _⟩
  · have hv' : Hid (¬ validErr p = 0) := by simpa [Hid] using hv
    go_enter Tryz.func80, Tryz.ntmps80
    go_wp2_with (go_at_call 27; refine (gvalid_any _ _ _ _ _ _ _ _ _ _ _ _ _ _ _ (h.below ?_)).mono ?_; (· (repeat (first | with_reducible exact Below.refl _ _ | with_reducible refine below_drewN_of ?_ _ | with_reducible refine below_alloc_of ?_ _ | with_reducible refine below_set_of ?_ _ _ _ (by simp) | with_reducible assumption | exact ⟨rfl, rfl, rfl, Nat.le_refl _, fun _ _ => rfl⟩))); rintro e w1 ⟨rfl, hb1⟩; have hbx1 := box_cells (box_first hb1); have HB1 := Lib.hid (box_first hb1); clear hb1)
    go_ret
    exact ⟨ret_int (by rw [checkErr, if_pos hv'.out]), box_below HB1.out⟩

def satB (q : Int → Bool) (r : GRule) : Bool := r.choice || !bodyB q r || r.head.any q

set_option maxRecDepth 100000 in
set_option maxHeartbeats 400000 in
theorem satisfied_any (w : World) (r : GRule) (oh : Option Addr) (lh ch : Nat) (ob : Option Addr) (lb cb : Nat) (ow : Option Addr) (lw cw : Nat) (fv : Value) (q : Int → Bool)
    (hh : IsInts w oh lh r.head) (hb : IsInts w ob lb r.body) (hw : IsInts w ow lw r.w) (hr : I64 r.bound) (hok : OkBody r) (hD : ∀ x ∈ r.head, I64 x) (hf : FnPred Tryz.prog I64 w fv q) :
    Calls Tryz.prog 125 #[.agg #[.bool r.choice, .slice oh lh ch, .bool r.sum, .int .i64 r.bound, .slice ob lb cb, .slice ow lw cw], fv] w
      fun e w' => e = .returned (.bool (satB q r)) ∧ Below w.heap.size w w' := by
  obtain ⟨choice, head, sum, bound, body, ws⟩ := r
  simp only at hh hb hw hr hD ⊢
  have HH := Lib.hid hD
  clear hD
  cases choice
  · go_enter Tryz.func125, Tryz.ntmps125
    go_wp2_with (first
      | (go_at_call 78; refine (body_any _ ⟨false, head, sum, bound, body, ws⟩ _ _ _ _ _ _ _ _ _ _ q (hh.below ?_) (hb.below ?_) (hw.below ?_) hr hok (hf.below ?_)).mono ?_; (· (repeat (first | with_reducible exact Below.refl _ _ | with_reducible refine below_drewN_of ?_ _ | with_reducible refine below_alloc_of ?_ _ | with_reducible refine below_set_of ?_ _ _ _ (by simp) | with_reducible assumption | exact ⟨rfl, rfl, rfl, Nat.le_refl _, fun _ _ => rfl⟩))); (· (repeat (first | with_reducible exact Below.refl _ _ | with_reducible refine below_drewN_of ?_ _ | with_reducible refine below_alloc_of ?_ _ | with_reducible refine below_set_of ?_ _ _ _ (by simp) | with_reducible assumption | exact ⟨rfl, rfl, rfl, Nat.le_refl _, fun _ _ => rfl⟩))); (· (repeat (first | with_reducible exact Below.refl _ _ | with_reducible refine below_drewN_of ?_ _ | with_reducible refine below_alloc_of ?_ _ | with_reducible refine below_set_of ?_ _ _ _ (by simp) | with_reducible assumption | exact ⟨rfl, rfl, rfl, Nat.le_refl _, fun _ _ => rfl⟩))); (· (repeat (first | with_reducible exact Below.refl _ _ | with_reducible refine below_drewN_of ?_ _ | with_reducible refine below_alloc_of ?_ _ | with_reducible refine below_set_of ?_ _ _ _ (by simp) | with_reducible assumption | exact ⟨rfl, rfl, rfl, Nat.le_refl _, fun _ _ => rfl⟩))); rintro e w1 ⟨rfl, hb1⟩; have hbx1 := box_cells (box_first hb1); have HB1 := Lib.hid (box_first hb1); clear hb1)
      | (go_at_call 76; refine (containsFuncI_any _ _ _ _ _ _ q I64 (hh.below (box_below HB1.out)) (hf.below (box_below HB1.out)) HH.out).mono ?_; rintro e w2 ⟨rfl, hb2⟩))
    all_goals
      go_ret
      refine ⟨ret_bool ?_, by first | exact box_below HB1.out | exact box_below (box_next HB1.out hb2)⟩
      (try clear HB1 hbx1)
      grind [satB]
  · go_enter Tryz.func125, Tryz.ntmps125
    go_wp2_with fail
    go_ret
    exact ⟨ret_bool (by simp [satB]), below_alloc _ _⟩
end Go.Proofs.YtaemfafnmhndiaaGreatDoor
namespace Go.Proofs.YtaemfafnmhndiaaGreatDoor
open Go.RowKit Go.Maps Go.WideMaps

theorem ret_ii {k k' : IntKind} {a a' b b' : Int} (h1 : a = a') (h2 : b = b') : Ending.returned (.tuple #[.int k a, .int k' b]) = .returned (.tuple #[.int k a', .int k' b']) := by rw [h1, h2]
theorem ret_bi {k' : IntKind} {a a' : Bool} {b b' : Int} (h1 : a = a') (h2 : b = b') : Ending.returned (.tuple #[.bool a, .int k' b]) = .returned (.tuple #[.bool a', .int k' b']) := by rw [h1, h2]
theorem ret_vi {k' : IntKind} {a a' : Value} {b b' : Int} (h1 : a = a') (h2 : b = b') : Ending.returned (.tuple #[a, .int k' b]) = .returned (.tuple #[a', .int k' b']) := by rw [h1, h2]

/-- A function value that answers, at each rule, what `p` says, and leaves old memory alone. -/
def FnRule (P : Program) (D : GRule → Prop) (w : World) (fv : Value) (p : GRule → Bool) : Prop :=
  ∃ (g : Nat) (lb : Array Value), fv = .func (.func g) #[] lb ∧ (∀ args w, (callFunc g args).run P w = .ok (.enter g args) w) ∧
    ∀ W, Below w.heap.size w W → ∀ (r : GRule) (oh : Option Addr) (lh ch : Nat) (ob : Option Addr) (lb' cb : Nat) (ow : Option Addr) (lw cw : Nat),
      IsInts W oh lh r.head → IsInts W ob lb' r.body → IsInts W ow lw r.w → I64 r.bound → D r →
      Calls P g (#[.agg #[.bool r.choice, .slice oh lh ch, .bool r.sum, .int .i64 r.bound, .slice ob lb' cb, .slice ow lw cw]] ++ lb) W fun e w' => e = .returned (.bool (p r)) ∧ Below W.heap.size W w'

set_option maxHeartbeats 1000000 in
theorem indexFuncR_any (w : World) (oa : Option Addr) (len cap : Nat) (l : List GRule) (fv : Value) (p : GRule → Bool) (D : GRule → Prop) (h : IsRules w oa len l) (hf : FnRule Tryz.prog D w fv p) (hD : ∀ r ∈ l, D r) :
    Calls Tryz.prog 52 #[.slice oa len cap, fv] w fun e w' => e = .returned (.int .i64 (firstI p l 0)) ∧ Below w.heap.size w w' := by
  have hm := h.hmax
  have hl' := Lib.hid h.hlen
  obtain ⟨g, lb, rfl, eg, hc⟩ := hf
  have Hc := Lib.hid hc
  clear hc
  go_enter Tryz.func52, Tryz.ntmps52
  go_wp2
  go_loopw [5, 8] (fun _ i wr => ∃ k : Nat, Hid (Below w.heap.size w wr) ∧ k ≤ len ∧ i = .int .i64 k ∧ Hid (firstI p l 0 = firstI p (l.drop k) k)) (fun _ i _ => len - (intOf i).toNat)
  case atStart => exact ⟨0, Below.refl _ _, Nat.zero_le _, rfl, rfl⟩
  case round =>
    obtain ⟨k, HB, hk, rfl, hno⟩ := hrel
    by_cases hlt : k < len
    · obtain ⟨b, off, r, oh, lh, ch, ob, lb', cb, ow, lw, cw, rfl, hb, c0, c1, c2, c3, c4, c5, i1, i2, i3, i4, hd, hg⟩ := (h.below HB.out).at_ hlt
      have Hgo : Hid (firstI p l 0 = firstI p (r :: l.drop (k + 1)) k) := by rw [Hid, hno.out, hd.out]
      clear hno
      go_wp2_with (go_at_fn g; refine (Hc.out _ HB.out r _ _ _ _ _ _ _ _ _ i1 i2 i3 i4 (hD r (List.mem_of_getElem? hg.out))).mono ?_; rintro e w1 ⟨rfl, hb1⟩)
      · go_ret
        exact ⟨ret_int (by rw [Hgo.out]; clear Hgo; grind [firstI]), below_trans_of HB.out hb1⟩
      · go_roundw
        case rel => exact ⟨k + 1, below_trans_of HB.out hb1, by omega, by go_num, by rw [Hid, Hgo.out]; clear Hgo; grind [firstI]⟩
        case measure => simp [intOf]; omega
    · go_wp2
      go_ret
      exact ⟨ret_int (by rw [hno.out, List.drop_eq_nil_of_le (by rw [hl'.out]; omega)]; rfl), HB.out⟩

theorem lits_in (n : Int) : ∀ (l : List Int) (prev : Option Int), litsGo n prev l = true → ∀ x ∈ l, -n ≤ x ∧ x ≤ n ∧ x ≠ 0
  | [], _, _ => by simp
  | x :: l, prev, h => by
    have h1 : ¬ (x = 0 ∨ n < x ∨ x < -n) := fun c => by simp [litsGo, c] at h
    have h2 : litsGo n (some x) l = true := by
      cases prev with
      | none => simp only [litsGo, if_neg h1] at h; exact h
      | some p =>
        simp only [litsGo, if_neg h1] at h
        cases c : beforeB p x
        · rw [c] at h; cases h
        · rw [c] at h; exact h
    intro y hy
    rcases List.mem_cons.1 hy with rfl | hy
    · omega
    · exact lits_in n l _ h2 y hy
theorem atoms_in (n : Int) : ∀ (l : List Int) (prev : Option Int), atomsGo n prev l = true → ∀ x ∈ l, 1 ≤ x ∧ x ≤ n
  | [], _, _ => by simp
  | x :: l, prev, h => by
    have h1 : ¬ (x < 1 ∨ n < x) := fun c => by simp [atomsGo, c] at h
    have h2 : atomsGo n (some x) l = true := by
      cases prev with
      | none => simp only [atomsGo, if_neg h1] at h; exact h
      | some p =>
        simp only [atomsGo, if_neg h1] at h
        by_cases c : x ≤ p
        · rw [if_pos c] at h; cases h
        · rw [if_neg c] at h; exact h
    intro y hy
    rcases List.mem_cons.1 hy with rfl | hy
    · omega
    · exact atoms_in n l _ h2 y hy
theorem total_ok : ∀ (l : List Int) (s : Int), 0 ≤ s → 0 ≤ totalGo 1 s l → ∀ y ∈ l, 0 ≤ y ∧ y ≤ 1048576
  | [], _, _, _ => by simp
  | x :: l, s, hs, h => by
    simp only [totalGo] at h
    by_cases c1 : x < 1 ∨ 1048576 < x
    · rw [if_pos c1] at h; omega
    · rw [if_neg c1] at h
      by_cases c2 : 1048576 < s + x
      · rw [if_pos c2] at h; omega
      · rw [if_neg c2] at h
        intro y hy
        rcases List.mem_cons.1 hy with rfl | hy
        · omega
        · exact total_ok l (s + x) (by omega) h y hy
def keyOfLit (x : Int) : Int := 2 * atomOf x - if 0 < x then 1 else 0
theorem key_le {x n : Int} (h1 : -n ≤ x) (h2 : x ≤ n) (h3 : x ≠ 0) : keyOfLit x ≤ 2 * n := by unfold keyOfLit atomOf; grind
theorem key_pos {x : Int} (h3 : x ≠ 0) : 1 ≤ keyOfLit x := by unfold keyOfLit atomOf; grind
theorem key_before {a b : Int} (h : beforeB a b = true) : keyOfLit a < keyOfLit b := by
  unfold beforeB at h; unfold keyOfLit; simp only [Bool.or_eq_true, Bool.and_eq_true, decide_eq_true_eq, beq_iff_eq] at h
  unfold atomOf at *; grind
theorem lits_key (n : Int) : ∀ (l : List Int) (p : Int), litsGo n (some p) l = true → keyOfLit p ≤ 2 * n → (l.length : Int) + keyOfLit p ≤ 2 * n
  | [], p, _, h => by simpa using h
  | x :: l, p, h, _ => by
    have h1 : ¬ (x = 0 ∨ n < x ∨ x < -n) := fun c => by simp [litsGo, c] at h
    simp only [litsGo, if_neg h1] at h
    cases c : beforeB p x
    · rw [c] at h; cases h
    · rw [c] at h
      have := lits_key n l x h (key_le (by omega) (by omega) (by omega))
      have := key_before c
      simp only [List.length_cons]; omega
/-- A strictly ordered list of literals of n atoms is short. -/
theorem lits_few {n : Int} {l : List Int} (h0 : 0 ≤ n) (hn : n ≤ 4000) (h : litsGo n none l = true) : l.length ≤ 8000 := by
  cases l with
  | nil => simp
  | cons x l =>
    have h1 : ¬ (x = 0 ∨ n < x ∨ x < -n) := fun c => by simp [litsGo, c] at h
    have h2 : litsGo n (some x) l = true := by simp only [litsGo, if_neg h1] at h; exact h
    have h3 := lits_key n l x h2 (key_le (by omega) (by omega) (by omega))
    have h4 := key_pos (x := x) (by omega)
    simp only [List.length_cons]
    omega

/-- What a rule without an error is good for. -/
theorem okBody_of {r : GRule} {n : Int} (h0 : 0 ≤ n) (h : ruleErr r n = 0) : OkBody r ∧ (∀ x ∈ r.head, 1 ≤ x ∧ x ≤ n) ∧ (∀ x ∈ r.body, -n ≤ x ∧ x ≤ n ∧ x ≠ 0) := by
  unfold ruleErr at h
  split at h
  · omega
  · rename_i hn
    split at h
    · omega
    · rename_i hh
      split at h
      · omega
      · rename_i hb
        have hat : atomsGo n none r.head = true := by cases c : atomsGo n none r.head; exact absurd (.inl c) hh; rfl
        have hlt : litsGo n none r.body = true := by cases c : litsGo n none r.body; exact absurd c hb; rfl
        have b1 := lits_in n r.body none hlt
        have hs' : r.sum = true → r.w.length = r.body.length ∧ 0 ≤ totalGo 1 0 r.w := fun hs => by
          rw [if_neg (by rw [hs]; decide)] at h
          split at h
          · omega
          · rename_i hw
            exact ⟨Classical.byContradiction fun c => hw (.inl c), by omega⟩
        exact ⟨⟨fun x hx => by have := b1 x hx; unfold DLit; omega, fun hs => (hs' hs).1, fun hs => total_ok r.w 0 (Int.le_refl 0) (hs' hs).2, fun _ => lits_few h0 (by omega) hlt⟩, atoms_in n r.head none hat, b1⟩

set_option maxRecDepth 100000 in
set_option maxHeartbeats 1000000 in
theorem broken1_any (w : World) (r : GRule) (oh : Option Addr) (lh ch : Nat) (ob : Option Addr) (lb cb : Nat) (ow : Option Addr) (lw cw : Nat) (B : Nat) (fv : Value) (q : Int → Bool)
    (hh : IsInts w oh lh r.head) (hb : IsInts w ob lb r.body) (hw : IsInts w ow lw r.w) (hr : I64 r.bound) (hok : OkBody r) (hD : ∀ x ∈ r.head, I64 x) (hB : w.cell? ⟨B, 0, none⟩ = some fv) (hf : FnPred Tryz.prog I64 w fv q) :
    Calls Tryz.prog 124 #[.agg #[.bool r.choice, .slice oh lh ch, .bool r.sum, .int .i64 r.bound, .slice ob lb cb, .slice ow lw cw], .pointer (some ⟨B, 0, none⟩)] w
      fun e w' => e = .returned (.bool (!satB q r)) ∧ Below w.heap.size w w' := by
  have hlt := cell_lt hB
  go_enter Tryz.func124, Tryz.ntmps124
  go_wp2_with (go_at_call 125; refine (satisfied_any _ r _ _ _ _ _ _ _ _ _ _ q (hh.below ?_) (hb.below ?_) (hw.below ?_) hr hok hD (hf.below ?_)).mono ?_; (· (repeat (first | with_reducible exact Below.refl _ _ | with_reducible refine below_drewN_of ?_ _ | with_reducible refine below_alloc_of ?_ _ | with_reducible refine below_set_of ?_ _ _ _ (by simp) | with_reducible assumption | exact ⟨rfl, rfl, rfl, Nat.le_refl _, fun _ _ => rfl⟩))); (· (repeat (first | with_reducible exact Below.refl _ _ | with_reducible refine below_drewN_of ?_ _ | with_reducible refine below_alloc_of ?_ _ | with_reducible refine below_set_of ?_ _ _ _ (by simp) | with_reducible assumption | exact ⟨rfl, rfl, rfl, Nat.le_refl _, fun _ _ => rfl⟩))); (· (repeat (first | with_reducible exact Below.refl _ _ | with_reducible refine below_drewN_of ?_ _ | with_reducible refine below_alloc_of ?_ _ | with_reducible refine below_set_of ?_ _ _ _ (by simp) | with_reducible assumption | exact ⟨rfl, rfl, rfl, Nat.le_refl _, fun _ _ => rfl⟩))); (· (repeat (first | with_reducible exact Below.refl _ _ | with_reducible refine below_drewN_of ?_ _ | with_reducible refine below_alloc_of ?_ _ | with_reducible refine below_set_of ?_ _ _ _ (by simp) | with_reducible assumption | exact ⟨rfl, rfl, rfl, Nat.le_refl _, fun _ _ => rfl⟩))); rintro e w1 ⟨rfl, hb1⟩)
  go_ret
  exact ⟨rfl, below_trans_of (below_alloc _ _) hb1⟩

def brokenI (p : GProg) (m : List Int) : Int := firstI (fun r => !satB (inB m) r) p.rules 0

theorem rules_ok {n : Int} : ∀ {l : List GRule}, firstErr n l = 0 → ∀ r ∈ l, ruleErr r n = 0
  | [], _ => by simp
  | r :: l, h => by
    simp only [firstErr] at h
    by_cases c : ruleErr r n = 0
    · rw [if_pos c] at h
      intro r' hr'
      rcases List.mem_cons.1 hr' with rfl | hr'
      · exact c
      · exact rules_ok h r' hr'
    · rw [if_neg c] at h; exact absurd h c
theorem valid_rules {p : GProg} (h : validErr p = 0) : 0 ≤ p.n ∧ p.n ≤ 4000 ∧ firstErr p.n p.rules = 0 := by
  unfold validErr at h
  split at h
  · omega
  · split at h
    · omega
    · split at h
      · omega
      · refine ⟨by omega, by omega, ?_⟩
        rename_i h3 _ h4
        exact Classical.byContradiction fun c => h4 c

set_option maxRecDepth 100000 in
set_option maxHeartbeats 2000000 in
theorem broken_any (w : World) (p : GProg) (n : Int) (on : Option Addr) (ln cn : Nat) (os : Option Addr) (ls cs : Nat) (or : Option Addr) (lr cr : Nat) (om : Option Addr) (lm cm : Nat)
    (oa : Option Addr) (len cap : Nat) (m : List Int) (h : IsProg w n on ln os ls or lr om lm p) (hm : IsInts w oa len m) :
    Calls Tryz.prog 75 #[.agg #[.int .i64 n, .slice on ln cn, .slice os ls cs, .slice or lr cr, .slice om lm cm], .slice oa len cap] w
      fun e w' => e = .returned (.tuple #[.int .i64 (if checkErr p m = 0 then brokenI p m else 0), .int .i64 (checkErr p m)]) ∧ Below w.heap.size w w' := by
  cases hv : (checkErr p m != 0)
  · have hv0 : checkErr p m = 0 := by simpa using hv
    have hck : Hid (checkErr p m = 0) := hv0
    have hval : validErr p = 0 := by
      unfold checkErr at hv0; split at hv0
      · contradiction
      · rename_i c; exact Classical.byContradiction fun d => c d
    obtain ⟨hn0, hn1, hfe⟩ := valid_rules hval
    have hrs := Lib.hid (rules_ok hfe)
    clear hv0 hval hfe
    go_enter Tryz.func75, Tryz.ntmps75
    go_wp2_with (first
      | (go_at_call 80; refine (rcheck_any _ _ _ _ _ _ _ _ _ _ _ _ _ _ _ _ _ _ _ (h.below ?_) (hm.below ?_)).mono ?_; (· (repeat (first | with_reducible exact Below.refl _ _ | with_reducible refine below_drewN_of ?_ _ | with_reducible refine below_alloc_of ?_ _ | with_reducible refine below_set_of ?_ _ _ _ (by simp) | with_reducible assumption | exact ⟨rfl, rfl, rfl, Nat.le_refl _, fun _ _ => rfl⟩))); (· (repeat (first | with_reducible exact Below.refl _ _ | with_reducible refine below_drewN_of ?_ _ | with_reducible refine below_alloc_of ?_ _ | with_reducible refine below_set_of ?_ _ _ _ (by simp) | with_reducible assumption | exact ⟨rfl, rfl, rfl, Nat.le_refl _, fun _ _ => rfl⟩))); rintro e w1 ⟨rfl, hb1⟩; have hbx1 := box_cells (box_first hb1); have HB1 := Lib.hid (box_first hb1); clear hb1)
      | (go_at_call 79; refine (member_any _ _ _ _ _ (hm.below (box_below HB1.out))).mono ?_; rintro e w2 ⟨fv, rfl, ⟨g, lb, rfl, eg, hcc⟩, hb2⟩; have HB2 := Lib.hid (box_next HB1.out hb2); have hbx2 := box_cells HB2.out; have hsz2 := box_lt HB2.out; have Hfv := Lib.hid (show FnPred Tryz.prog I64 w2 (.func (.func g) #[] lb) (inB m) from ⟨g, lb, rfl, eg, hcc⟩); clear hb2 hcc)
      | (go_at_call 52; fail))
    refine (indexFuncR_any _ _ _ _ p.rules _ (fun r => !satB (inB m) r) (fun r => ruleErr r p.n = 0) (h.rules.below ?_) ⟨124, _, rfl, Tryz.call124, fun W hW r oh lh ch ob lb' cb ow lw cw i1 i2 i3 i4 hr => ?_⟩ hrs.out).mono ?_
    · exact (box_below HB2.out).trans ((below_alloc w2 _).mono (by omega))
    · obtain ⟨k1, k2, k3⟩ := okBody_of hn0 hr
      exact broken1_any W r _ _ _ _ _ _ _ _ _ w2.heap.size _ (inB m) i1 i2 i3 i4 k1 (fun x hx => ⟨by have := k2 x hx; omega, by have := k2 x hx; omega⟩) ((hW.cell (p := ⟨w2.heap.size, 0, none⟩) (by simp)).trans (by simp)) (Hfv.out.below (below_trans_of (below_alloc w2 _) hW))
    · rintro e w3 ⟨rfl, hb3⟩
      go_wp2
      go_ret2
      exact ⟨ret_ii (by first | rfl | (rw [if_pos hck.out]; rfl)) (by first | rfl | exact hck.out.symm), (box_below HB2.out).trans (((below_alloc w2 _).trans (hb3.mono (by simp))).mono (by omega))⟩
  · have hck : Hid (¬ checkErr p m = 0) := by simpa [Hid] using hv
    go_enter Tryz.func75, Tryz.ntmps75
    go_wp2_with (go_at_call 80; refine (rcheck_any _ _ _ _ _ _ _ _ _ _ _ _ _ _ _ _ _ _ _ (h.below ?_) (hm.below ?_)).mono ?_; (· (repeat (first | with_reducible exact Below.refl _ _ | with_reducible refine below_drewN_of ?_ _ | with_reducible refine below_alloc_of ?_ _ | with_reducible refine below_set_of ?_ _ _ _ (by simp) | with_reducible assumption | exact ⟨rfl, rfl, rfl, Nat.le_refl _, fun _ _ => rfl⟩))); (· (repeat (first | with_reducible exact Below.refl _ _ | with_reducible refine below_drewN_of ?_ _ | with_reducible refine below_alloc_of ?_ _ | with_reducible refine below_set_of ?_ _ _ _ (by simp) | with_reducible assumption | exact ⟨rfl, rfl, rfl, Nat.le_refl _, fun _ _ => rfl⟩))); rintro e w1 ⟨rfl, hb1⟩; have hbx1 := box_cells (box_first hb1); have HB1 := Lib.hid (box_first hb1); clear hb1)
    go_ret2
    exact ⟨ret_ii (by first | rfl | rw [if_neg hck.out]) rfl, box_below HB1.out⟩

def modelsB (p : GProg) (m : List Int) : Bool := checkErr p m == 0 && decide (brokenI p m < 0)

set_option maxHeartbeats 2000000 in
theorem models_any (w : World) (p : GProg) (n : Int) (on : Option Addr) (ln cn : Nat) (os : Option Addr) (ls cs : Nat) (or : Option Addr) (lr cr : Nat) (om : Option Addr) (lm cm : Nat)
    (oa : Option Addr) (len cap : Nat) (m : List Int) (h : IsProg w n on ln os ls or lr om lm p) (hm : IsInts w oa len m) :
    Calls Tryz.prog 31 #[.agg #[.int .i64 n, .slice on ln cn, .slice os ls cs, .slice or lr cr, .slice om lm cm], .slice oa len cap] w
      fun e w' => e = .returned (.tuple #[.bool (modelsB p m), .int .i64 (checkErr p m)]) ∧ Below w.heap.size w w' := by
  cases hv : (checkErr p m == 0)
  · have hck : Hid (¬ checkErr p m = 0) := by simpa [Hid] using hv
    go_enter Tryz.func31, Tryz.ntmps31
    go_wp2_with (go_at_call 75; refine (broken_any _ _ _ _ _ _ _ _ _ _ _ _ _ _ _ _ _ _ _ (h.below ?_) (hm.below ?_)).mono ?_; (· (repeat (first | with_reducible exact Below.refl _ _ | with_reducible refine below_drewN_of ?_ _ | with_reducible refine below_alloc_of ?_ _ | with_reducible refine below_set_of ?_ _ _ _ (by simp) | with_reducible assumption | exact ⟨rfl, rfl, rfl, Nat.le_refl _, fun _ _ => rfl⟩))); (· (repeat (first | with_reducible exact Below.refl _ _ | with_reducible refine below_drewN_of ?_ _ | with_reducible refine below_alloc_of ?_ _ | with_reducible refine below_set_of ?_ _ _ _ (by simp) | with_reducible assumption | exact ⟨rfl, rfl, rfl, Nat.le_refl _, fun _ _ => rfl⟩))); rintro e w1 ⟨rfl, hb1⟩)
    go_ret2
    exact ⟨ret_bi (by simp [modelsB, hv]) (by first | rfl | exact hck.out.symm), box_below (box_first hb1)⟩
  · have hck : Hid (checkErr p m = 0) := by simpa [Hid] using hv
    go_enter Tryz.func31, Tryz.ntmps31
    go_wp2_with (go_at_call 75; refine (broken_any _ _ _ _ _ _ _ _ _ _ _ _ _ _ _ _ _ _ _ (h.below ?_) (hm.below ?_)).mono ?_; (· (repeat (first | with_reducible exact Below.refl _ _ | with_reducible refine below_drewN_of ?_ _ | with_reducible refine below_alloc_of ?_ _ | with_reducible refine below_set_of ?_ _ _ _ (by simp) | with_reducible assumption | exact ⟨rfl, rfl, rfl, Nat.le_refl _, fun _ _ => rfl⟩))); (· (repeat (first | with_reducible exact Below.refl _ _ | with_reducible refine below_drewN_of ?_ _ | with_reducible refine below_alloc_of ?_ _ | with_reducible refine below_set_of ?_ _ _ _ (by simp) | with_reducible assumption | exact ⟨rfl, rfl, rfl, Nat.le_refl _, fun _ _ => rfl⟩))); rw [if_pos hck.out]; rintro e w1 ⟨rfl, hb1⟩)
    go_ret2
    exact ⟨ret_bi (by simp [modelsB, hv]) (by first | rfl | exact hck.out.symm), box_below (box_first hb1)⟩
end Go.Proofs.YtaemfafnmhndiaaGreatDoor
