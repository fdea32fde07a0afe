/- Part 11 of the proof: LawB3, LawB4, Read, Row, CardB. Conditions: those that each theorem names. -/
import Derived.Test.YtaemfafnmhndiaaGreatDoorPb10
import Derived.Test.YtaemfafnmhndiaaGreatDoorPb1
import Derived.Test.YtaemfafnmhndiaaGreatDoorProg
import Derived.Deep.Slices
import Derived.Deep.Fields
import Derived.Lib.SmallJoins
import Derived.ChangeSame
import Derived.WideKeyArgs
import Derived.Test.YtaemfafnmhndiaaGreatDoorPb9
import Derived.Test.YtaemfafnmhndiaaGreatDoorRows
import Derived.ProofKit
import Derived.OpenShut
import Derived.Deep.DeepHandedRow
import Derived.Lib.LaidTab
import Derived.LaidMore
import Derived.Test.YtaemfafnmhndiaaGreatDoorCards
import Derived.Test.YtaemfafnmhndiaaGreatDoorTie
namespace Go.Proofs.YtaemfafnmhndiaaGreatDoor
open Go.RowKit Go.Maps Go.WideMaps Go.Sort

set_option maxRecDepth 100000 in
set_option maxHeartbeats 8000000 in
theorem lawB_main (w : World) (N : Nat) (names : List ByteArray) (shown : List Int) (rules : List GRule) (mins : List GMin) (on : Option Addr) (ln cn : Nat) (os : Option Addr) (ls cs : Nat) (or : Option Addr) (lr cr : Nat) (om : Option Addr) (lm cm : Nat) (bits at_ : Int)
    (h : IsProg w N on ln os ls or lr om lm ⟨N, names, shown, rules, mins⟩) (ht : Tab w) (hf : fewB ⟨N, names, shown, rules, mins⟩ = true) (hv : validErr ⟨N, names, shown, rules, mins⟩ = 0) (hN1 : 1 ≤ N) (hN2 : N ≤ 12)
    (hb0 : 0 ≤ bits) (hb1 : bits ≤ 65535) (ha0 : 0 ≤ at_) (ha1 : at_ ≤ 255) :
    Calls Tryz.prog 6 #[.agg #[.int .i64 N, .slice on ln cn, .slice os ls cs, .slice or lr cr, .slice om lm cm], .int .u16 bits, .int .u8 at_] w fun e w' => e = .returned (.bool true) ∧ Below w.heap.size w w' := by
  have HT := Lib.hid ht
  have HW0 : Hid (Below w.heap.size w (w.alloc (.cells #[.int .i64 N, .slice on ln cn, .slice os ls cs, .slice or lr cr, .slice om lm cm] 27))) := below_alloc w _
  have Hf := Lib.hid hf
  have Hv := Lib.hid hv
  have HRl := Lib.hid h.rules.hlen
  have hlr : lr ≤ 40000 := by have := (valid_n hv).2.2; have := h.rules.hlen; simp only at *; omega
  have hne0 : ((N : Int) == 0) = false := by simp; omega
  have e0 : (1 : Int) ≤ N := by omega
  have hA0 : 0 ≤ at_ % (N : Int) := Int.emod_nonneg _ (by omega)
  have hA1 : at_ % (N : Int) < N := Int.emod_lt_of_pos _ (by omega)
  clear ht hf hv
  go_enter Tryz.func6, Tryz.ntmps6
  go_wp2_with fail
  refine (few_any _ _ _ _ _ _ _ _ _ _ _ _ _ _ _ (h.below HW0.out)).mono ?_
  rw [Hf.out]
  rintro e w1 ⟨rfl, hb1'⟩
  have HB1 := Lib.hid (below_trans_of HW0.out hb1')
  have HX1 := Lib.hid (box_first hb1')
  have hbx1 := box_cells HX1.out
  clear hb1'
  go_wp2_with fail
  refine (gvalid_any _ _ _ _ _ _ _ _ _ _ _ _ _ _ _ (h.below HB1.out)).mono ?_
  rw [Hv.out]
  rintro e w2 ⟨rfl, hb2⟩
  have HB2 := Lib.hid (below_trans_of HB1.out hb2)
  have HX2 := Lib.hid (box_next HX1.out hb2)
  have hbx2 := box_cells HX2.out
  clear hb2 hbx1
  go_wp2_with fail
  refine (subset_any _ N hN2 bits hb0 hb1).mono ?_
  rintro e w3 ⟨oa, len, cap, m, rfl, hm3, hms, hmi, hb3⟩
  have HM3 := Lib.hid hm3
  have HMs := Lib.hid hms
  have HMi := Lib.hid hmi
  have HB3 := Lib.hid (below_trans_of HB2.out hb3)
  have HX3 := Lib.hid (box_next HX2.out hb3)
  have hbx3 := box_cells HX3.out
  have HCk : Hid (checkErr ⟨N, names, shown, rules, mins⟩ m = 0) := check_ok Hv.out hms hmi
  have HEx := Lib.hid (explain_models HCk.out)
  clear hm3 hms hmi hb3 hbx2
  go_wp2_with fail
  obtain ⟨A, hA⟩ : ∃ A, A = 1 + at_ % (N : Int) := ⟨_, rfl⟩
  rw [← hA]
  have hA2 : 1 ≤ A := by omega
  have hA3 : A ≤ N := by omega
  clear hA hA0 hA1 ha0 ha1 hne0
  cases hmo : modelsB ⟨N, names, shown, rules, mins⟩ m
  · have HMo := Lib.hid hmo
    have HEr : Hid (explainErr ⟨N, names, shown, rules, mins⟩ m = 410) := by rw [Hid, HEx.out, hmo]; rfl
    have HBe : Hid (blocksErr ⟨N, names, shown, rules, mins⟩ m A = 410) := by unfold Hid blocksErr; rw [HEr.out]; rfl
    have HBl : Hid (blocksL ⟨N, names, shown, rules, mins⟩ m A = []) := by unfold Hid blocksL; rw [HBe.out]; rfl
    clear hmo
    refine (blocks_any w3 ⟨N, names, shown, rules, mins⟩ N on ln cn os ls cs or lr cr om lm cm oa len cap m A (h.below HB3.out) HM3.out).mono ?_
    rw [HBe.out, HBl.out]
    rintro e w4 ⟨oB, lB, cB, rfl, hv4, hb4⟩
    have HV4 := Lib.hid hv4
    have HB4 := Lib.hid (below_trans_of HB3.out hb4)
    have HX4 := Lib.hid (box_next HX3.out hb4)
    have HM4 := Lib.hid (HM3.out.below hb4)
    have hbx4 := box_cells HX4.out
    obtain rfl : 0 = lB := hv4.hlen
    clear hv4 hb4 hbx3
    go_wp2_with fail
    refine (models_any w4 ⟨N, names, shown, rules, mins⟩ N on ln cn os ls cs or lr cr om lm cm oa len cap m (h.below HB4.out) HM4.out).mono ?_
    rw [HCk.out, HMo.out]
    rintro e w5 ⟨rfl, hb5⟩
    have HV5 := Lib.hid (HV4.out.below hb5)
    have HB5 := Lib.hid (below_trans_of HB4.out hb5)
    have HX5 := Lib.hid (box_next HX4.out hb5)
    have HM5 := Lib.hid (HM4.out.below hb5)
    have hbx5 := box_cells HX5.out
    clear hb5 hbx4
    go_wp2_with fail
    refine (awake_any _ (HT.out.below HB5.out)).mono ?_
    rintro e w6 ⟨rfl, hb6⟩
    go_wp2_with fail
    go_ret
    exact ⟨rfl, below_trans_of HB5.out hb6⟩
  · have HMo := Lib.hid hmo
    have HEr : Hid (explainErr ⟨N, names, shown, rules, mins⟩ m = 0) := by rw [Hid, HEx.out, hmo]; rfl
    clear hmo
    cases hin : inB m A
    · have HIn := Lib.hid hin
      have HBe : Hid (blocksErr ⟨N, names, shown, rules, mins⟩ m A = 0) := by unfold Hid blocksErr; rw [HEr.out, if_neg (by decide), if_neg (by rintro (c | c | c) <;> simp_all <;> omega)]
      have HBl : Hid (blocksL ⟨N, names, shown, rules, mins⟩ m A = blkGo m A 0 rules) := by unfold Hid blocksL; rw [HBe.out]; rfl
      have HAll : Hid ([A].all (inB m) = false) := by simp [Hid, hin]
      have HG := Lib.hid (rules_good HEr.out)
      have HA64 : Hid (I64 A) := ⟨by omega, by omega⟩
      clear hin
      refine (blocks_any w3 ⟨N, names, shown, rules, mins⟩ N on ln cn os ls cs or lr cr om lm cm oa len cap m A (h.below HB3.out) HM3.out).mono ?_
      rw [HBe.out, HBl.out]
      rintro e w4 ⟨oB, lB, cB, rfl, hv4, hb4⟩
      have HV4 := Lib.hid hv4
      have HB4 := Lib.hid (below_trans_of HB3.out hb4)
      have HX4 := Lib.hid (box_next HX3.out hb4)
      have HM4 := Lib.hid (HM3.out.below hb4)
      have hbx4 := box_cells HX4.out
      clear hv4 hb4 hbx3
      go_wp2_with fail
      refine (models_any w4 ⟨N, names, shown, rules, mins⟩ N on ln cn os ls cs or lr cr om lm cm oa len cap m (h.below HB4.out) HM4.out).mono ?_
      rw [HCk.out, HMo.out]
      rintro e w5 ⟨rfl, hb5⟩
      have HV5 := Lib.hid (HV4.out.below hb5)
      have HB5 := Lib.hid (below_trans_of HB4.out hb5)
      have HX5 := Lib.hid (box_next HX4.out hb5)
      have HM5 := Lib.hid (HM4.out.below hb5)
      have hbx5 := box_cells HX5.out
      have HLit := Lib.hid (lit_row w5 A HA64.out 3)
      have hs5 : w.heap.size < w5.heap.size := box_lt HX5.out
      clear hb5 hbx4
      go_wp2_with (go_at_call 29; refine (lin_any _ _ _ _ [A] _ _ _ m HLit.out (HM5.out.below (below_alloc _ _))).mono ?_; rw [HAll.out]; rintro e w6 ⟨rfl, d6, rfl⟩)
      have HVl := Lib.hid HV5.out.hlen
      have hlB := HV5.out.hmax
      go_loopw [13, 95] (fun kk i wr => ∃ (k q : Nat), k ≤ lr ∧ i = .int .i64 k ∧ kk = .int .i64 q ∧ q ≤ k ∧ q ≤ lB ∧ Hid ((blkGo m A 0 rules).drop q = blkGo m A k (rules.drop k)) ∧ Hid (Below w5.heap.size w5 wr)) (fun _ i _ => lr - (intOf i).toNat)
      case atStart => exact ⟨0, 0, Nat.zero_le _, rfl, rfl, Nat.le_refl _, Nat.zero_le _, rfl, by show Below _ _ _; exact below_drewN_of (below_alloc w5 _) _⟩
      case round =>
        obtain ⟨k, q, hk, rfl, rfl, hqk, hqB, HGo, HBW⟩ := hrel
        have HW : Hid (Below w.heap.size w wr) := below_trans_of HB5.out HBW.out
        have hsr : w5.heap.size ≤ wr.heap.size := HBW.out.size
        have hs1r : w.heap.size < wr.heap.size := by omega
        by_cases hlt : k < lr
        · obtain ⟨b, off, ⟨choice, head, sum, bound, body, ws⟩, oh, lh, ch, ob, lb, cb, ow, lw, cw, rfl, hb, c0, c1, c2, c3, c4, c5, i1, i2, i3, i4, hd, hg⟩ := (h.rules.below HW.out).at_ hlt
          simp only at c0 c1 c2 c3 c4 c5 i1 i2 i3 i4
          have Hr := Lib.hid (HG.out _ (List.mem_of_getElem? hg.out))
          have e1 : (0 : Int) ≤ k := by omega
          have e2 : (k : Int) < lr := by omega
          have hk4 : k ≤ 40000 := by omega
          have HGo2 : Hid ((blkGo m A 0 rules).drop q = blkGo m A k (⟨choice, head, sum, bound, body, ws⟩ :: rules.drop (k + 1))) := by rw [Hid, HGo.out, hd.out]
          clear HGo hd hg
          have HLr : Hid (IsInts ((wr.alloc (.cells #[.bool choice, .slice oh lh ch, .bool sum, .int .i64 bound, .slice ob lb cb, .slice ow lw cw] 60)).alloc (.cells #[.int .i64 A] 3)) (some ⟨wr.heap.size + 1, 0, none⟩) 1 [A]) := lit_at (by simp) HA64.out 3
          cases hin : inB head A
          · have HNo : Hid ([A].all (inB head) = false) := by simp [Hid, hin]
            have HGo3 : Hid ((blkGo m A 0 rules).drop q = blkGo m A (k + 1) (rules.drop (k + 1))) := by rw [Hid, HGo2.out, blkGo_step_no hin]
            clear hin HGo2
            go_wp2_with (go_at_call 29; refine (lin_any _ _ _ _ [A] _ _ _ head HLr.out (i1.below (below_alloc_of (below_alloc wr _) _))).mono ?_; rw [HNo.out]; rintro e w6 ⟨rfl, d6, rfl⟩)
            go_roundw
            case rel => exact ⟨k + 1, q, by omega, by go_num, rfl, by omega, hqB, HGo3.out, below_trans_of HBW.out (below_drewN_of (below_alloc_of (below_alloc wr _) _) _)⟩
            case measure => simp [intOf]; omega
          · have HYes := Lib.hid (one_in hin)
            cases hbody : bodyB (inB m) ⟨choice, head, sum, bound, body, ws⟩
            · cases sum
              · -- a literal
                obtain ⟨B, hB⟩ : ∃ B, B = blockL ⟨choice, head, false, bound, body, ws⟩ m := ⟨_, rfl⟩
                have HGo3 : Hid ((blkGo m A 0 rules).drop q = ⟨k, 1, B⟩ :: blkGo m A (k + 1) (rules.drop (k + 1))) := by rw [Hid, HGo2.out, blkGo_step_yes hin, hB]; simp [blockK, hbody]
                have hh := body_hit hbody rfl
                rw [← hB] at hh
                have HBin := Lib.hid (one_in hh.1)
                have HBno := Lib.hid hh.2
                have hB0 : B ≠ 0 := fun e => Hr.out.2.1.nz B ((inB_iff _ _).1 hh.1) e
                have HBL : Hid (DLit B) := Hr.out.1.lits B ((inB_iff _ _).1 hh.1)
                clear hh hB
                have HBdy := Lib.hid hbody
                clear HGo2 hin hbody
                have hq : q < lB := by
                  rw [← HVl.out]
                  rcases Nat.lt_or_ge q (blkGo m A 0 rules).length with c | c
                  · exact c
                  · have := HGo3.out; rw [List.drop_eq_nil_of_le c] at this; cases this
                obtain ⟨bb, oo, ⟨y1, y2, y3⟩, rfl, hbb, g0, g1, g2, hy, hdq, hgq⟩ := (HV5.out.below HBW.out).at_ hq
                have hyE : (⟨y1, y2, y3⟩ : Blk) = ⟨k, 1, B⟩ ∧ (blkGo m A 0 rules).drop (q + 1) = blkGo m A (k + 1) (rules.drop (k + 1)) := by
                  have := HGo3.out; rw [hdq.out] at this; simpa using this
                obtain ⟨hyE1, hyE2⟩ := hyE
                have HB64 : Hid (I64 B) := by have := hy.2.2; rw [hyE1] at this; exact this
                rw [show y1 = (k : Int) by have := hyE1; simp only [Blk.mk.injEq] at this; exact this.1] at g0
                rw [show y2 = 1 by have := hyE1; simp only [Blk.mk.injEq] at this; exact this.2.1] at g1
                rw [show y3 = B by have := hyE1; simp only [Blk.mk.injEq] at this; exact this.2.2] at g2
                have HNext : Hid ((blkGo m A 0 rules).drop (q + 1) = blkGo m A (k + 1) (rules.drop (k + 1))) := hyE2
                have f1 : (0 : Int) ≤ q := by omega
                have f2 : (q : Int) < lB := by omega
                clear hyE1 hyE2 hdq hgq HGo3 hy
                have HBody := Lib.hid (fun (W : World) (hW : Below wr.heap.size wr W) => Body_any W ⟨choice, head, false, bound, body, ws⟩ oh lh ch ob lb cb ow lw cw oa len cap m (i1.below hW) (i2.below hW) (i3.below hW) i4 Hr.out.1 Hr.out.2.1 ((HM5.out.below HBW.out).below hW))
                go_wp2_with fail
                refine (lin_any _ _ _ _ [A] _ _ _ head HLr.out (i1.below (below_alloc_of (below_alloc wr _) _))).mono ?_
                rw [HYes.out]
                rintro e w6 ⟨rfl, d6, rfl⟩
                go_wp2_with fail
                refine (lin_any _ _ _ _ [B] _ _ _ body (lit_at (by simp) HB64.out _) (i2.below (by (repeat (first | with_reducible exact Below.refl _ _ | with_reducible refine below_drewN_of ?_ _ | with_reducible refine below_alloc_of ?_ _ | with_reducible refine below_set_of ?_ _ _ _ (by simp) | with_reducible assumption | exact ⟨rfl, rfl, rfl, Nat.le_refl _, fun _ _ => rfl⟩))))).mono ?_
                rw [HBin.out]
                rintro e w7 ⟨rfl, d7, rfl⟩
                go_wp2_with fail
                refine (Body_any _ ⟨false, [], false, 0, [B], []⟩ none 0 0 _ 1 1 none 0 0 oa len cap m (IsInts.nil_ _ _) (lit_at (by simp) HB64.out _) (IsInts.nil_ _ _) (⟨by decide, by decide⟩ : I64 0) (ok_lit HBL.out hB0).1 (ok_lit HBL.out hB0).2 ((HM5.out.below HBW.out).below (by (repeat (first | with_reducible exact Below.refl _ _ | with_reducible refine below_drewN_of ?_ _ | with_reducible refine below_alloc_of ?_ _ | with_reducible refine below_set_of ?_ _ _ _ (by simp) | with_reducible assumption | exact ⟨rfl, rfl, rfl, Nat.le_refl _, fun _ _ => rfl⟩))))).mono ?_
                rw [body_lit, HBno.out]
                rintro e w8 ⟨rfl, hb8⟩
                have HB8 : Hid (Below wr.heap.size wr w8) := below_trans_of (by (repeat (first | with_reducible exact Below.refl _ _ | with_reducible refine below_drewN_of ?_ _ | with_reducible refine below_alloc_of ?_ _ | with_reducible refine below_set_of ?_ _ _ _ (by simp) | with_reducible assumption | exact ⟨rfl, rfl, rfl, Nat.le_refl _, fun _ _ => rfl⟩))) hb8
                clear hb8
                go_wp2_with fail
                go_roundw
                case rel => exact ⟨k + 1, q + 1, by omega, by go_num, by go_num, by omega, by omega, HNext.out, below_trans_of HBW.out HB8.out⟩
                case measure => simp [intOf]; omega
              · -- a sum
                obtain ⟨B, hB⟩ : ∃ B, B = blockL ⟨choice, head, true, bound, body, ws⟩ m := ⟨_, rfl⟩
                have HGo3 : Hid ((blkGo m A 0 rules).drop q = ⟨k, 2, B⟩ :: blkGo m A (k + 1) (rules.drop (k + 1))) := by rw [Hid, HGo2.out, blkGo_step_yes hin, hB]; simp [blockK, hbody]
                have hB0 : B = 0 := by rw [hB]; simp [blockL, hbody]
                clear hB
                subst hB0
                have HBdy := Lib.hid hbody
                clear HGo2 hin hbody
                have hq : q < lB := by
                  rw [← HVl.out]
                  rcases Nat.lt_or_ge q (blkGo m A 0 rules).length with c | c
                  · exact c
                  · have := HGo3.out; rw [List.drop_eq_nil_of_le c] at this; cases this
                obtain ⟨bb, oo, ⟨y1, y2, y3⟩, rfl, hbb, g0, g1, g2, hy, hdq, hgq⟩ := (HV5.out.below HBW.out).at_ hq
                have hyE : (⟨y1, y2, y3⟩ : Blk) = ⟨k, 2, 0⟩ ∧ (blkGo m A 0 rules).drop (q + 1) = blkGo m A (k + 1) (rules.drop (k + 1)) := by
                  have := HGo3.out; rw [hdq.out] at this; simpa using this
                obtain ⟨hyE1, hyE2⟩ := hyE
                have HB64 : Hid (I64 0) := by have := hy.2.2; rw [hyE1] at this; exact this
                rw [show y1 = (k : Int) by have := hyE1; simp only [Blk.mk.injEq] at this; exact this.1] at g0
                rw [show y2 = 2 by have := hyE1; simp only [Blk.mk.injEq] at this; exact this.2.1] at g1
                rw [show y3 = 0 by have := hyE1; simp only [Blk.mk.injEq] at this; exact this.2.2] at g2
                have HNext : Hid ((blkGo m A 0 rules).drop (q + 1) = blkGo m A (k + 1) (rules.drop (k + 1))) := hyE2
                have f1 : (0 : Int) ≤ q := by omega
                have f2 : (q : Int) < lB := by omega
                clear hyE1 hyE2 hdq hgq HGo3 hy
                have HBody := Lib.hid (fun (W : World) (hW : Below wr.heap.size wr W) => Body_any W ⟨choice, head, true, bound, body, ws⟩ oh lh ch ob lb cb ow lw cw oa len cap m (i1.below hW) (i2.below hW) (i3.below hW) i4 Hr.out.1 Hr.out.2.1 ((HM5.out.below HBW.out).below hW))
                go_wp2_with fail
                refine (lin_any _ _ _ _ [A] _ _ _ head HLr.out (i1.below (below_alloc_of (below_alloc wr _) _))).mono ?_
                rw [HYes.out]
                rintro e w6 ⟨rfl, d6, rfl⟩
                go_wp2_with fail
                refine (HBody.out _ (by (repeat (first | with_reducible exact Below.refl _ _ | with_reducible refine below_drewN_of ?_ _ | with_reducible refine below_alloc_of ?_ _ | with_reducible refine below_set_of ?_ _ _ _ (by simp) | with_reducible assumption | exact ⟨rfl, rfl, rfl, Nat.le_refl _, fun _ _ => rfl⟩)))).mono ?_
                rw [HBdy.out]
                rintro e w7 ⟨rfl, hb7⟩
                have hq7 : ∀ j, w7.cell? ⟨wr.heap.size + 1 + 1, j, none⟩ = (#[.int .i64 k, .int .u8 2, .int .i64 0] : Array Value)[j]? := fun j => (oldCell hb7 (wr.heap.size + 1 + 1) j (by simp)).trans (by simp only [World.cell?, heap_alloc, World.size_alloc, heap_drewN]; (repeat (first | rw [if_pos trivial] | rw [if_pos (by omega)] | rw [if_neg (by omega)])); rfl)
                have HB8 : Hid (Below wr.heap.size wr w7) := below_trans_of (by (repeat (first | with_reducible exact Below.refl _ _ | with_reducible refine below_drewN_of ?_ _ | with_reducible refine below_alloc_of ?_ _ | with_reducible refine below_set_of ?_ _ _ _ (by simp) | with_reducible assumption | exact ⟨rfl, rfl, rfl, Nat.le_refl _, fun _ _ => rfl⟩))) hb7
                clear hb7
                go_wp2_with fail
                go_roundw
                case rel => exact ⟨k + 1, q + 1, by omega, by go_num, by go_num, by omega, by omega, HNext.out, below_trans_of HBW.out HB8.out⟩
                case measure => simp [intOf]; omega
            · cases choice
              · -- the head
                obtain ⟨B, hB⟩ : ∃ B, B = blockL ⟨false, head, sum, bound, body, ws⟩ m := ⟨_, rfl⟩
                have HGo3 : Hid ((blkGo m A 0 rules).drop q = ⟨k, 3, B⟩ :: blkGo m A (k + 1) (rules.drop (k + 1))) := by rw [Hid, HGo2.out, blkGo_step_yes hin, hB]; simp [blockK, hbody]
                have hh := head_hit hbody rfl Hr.out.2.2
                rw [← hB] at hh
                have HBin := Lib.hid (one_in hh.1)
                have HBm := Lib.hid (one_in hh.2)
                have hBA : (B != A) = true := by
                  simp only [bne_iff_ne, ne_eq]
                  exact fun e => by have := HIn.out; rw [← e, hh.2] at this; cases this
                clear hh hB
                have HBdy := Lib.hid hbody
                clear HGo2 hin hbody
                have hq : q < lB := by
                  rw [← HVl.out]
                  rcases Nat.lt_or_ge q (blkGo m A 0 rules).length with c | c
                  · exact c
                  · have := HGo3.out; rw [List.drop_eq_nil_of_le c] at this; cases this
                obtain ⟨bb, oo, ⟨y1, y2, y3⟩, rfl, hbb, g0, g1, g2, hy, hdq, hgq⟩ := (HV5.out.below HBW.out).at_ hq
                have hyE : (⟨y1, y2, y3⟩ : Blk) = ⟨k, 3, B⟩ ∧ (blkGo m A 0 rules).drop (q + 1) = blkGo m A (k + 1) (rules.drop (k + 1)) := by
                  have := HGo3.out; rw [hdq.out] at this; simpa using this
                obtain ⟨hyE1, hyE2⟩ := hyE
                have HB64 : Hid (I64 B) := by have := hy.2.2; rw [hyE1] at this; exact this
                rw [show y1 = (k : Int) by have := hyE1; simp only [Blk.mk.injEq] at this; exact this.1] at g0
                rw [show y2 = 3 by have := hyE1; simp only [Blk.mk.injEq] at this; exact this.2.1] at g1
                rw [show y3 = B by have := hyE1; simp only [Blk.mk.injEq] at this; exact this.2.2] at g2
                have HNext : Hid ((blkGo m A 0 rules).drop (q + 1) = blkGo m A (k + 1) (rules.drop (k + 1))) := hyE2
                have f1 : (0 : Int) ≤ q := by omega
                have f2 : (q : Int) < lB := by omega
                clear hyE1 hyE2 hdq hgq HGo3 hy
                have HBody := Lib.hid (fun (W : World) (hW : Below wr.heap.size wr W) => Body_any W ⟨false, head, sum, bound, body, ws⟩ oh lh ch ob lb cb ow lw cw oa len cap m (i1.below hW) (i2.below hW) (i3.below hW) i4 Hr.out.1 Hr.out.2.1 ((HM5.out.below HBW.out).below hW))
                go_wp2_with fail
                refine (lin_any _ _ _ _ [A] _ _ _ head HLr.out (i1.below (below_alloc_of (below_alloc wr _) _))).mono ?_
                rw [HYes.out]
                rintro e w6 ⟨rfl, d6, rfl⟩
                go_wp2_with fail
                refine (HBody.out _ (by (repeat (first | with_reducible exact Below.refl _ _ | with_reducible refine below_drewN_of ?_ _ | with_reducible refine below_alloc_of ?_ _ | with_reducible refine below_set_of ?_ _ _ _ (by simp) | with_reducible assumption | exact ⟨rfl, rfl, rfl, Nat.le_refl _, fun _ _ => rfl⟩)))).mono ?_
                rw [HBdy.out]
                rintro e w7 ⟨rfl, hb7⟩
                have hq7 : ∀ j, w7.cell? ⟨wr.heap.size + 1 + 1, j, none⟩ = (#[.int .i64 k, .int .u8 3, .int .i64 B] : Array Value)[j]? := fun j => (oldCell hb7 (wr.heap.size + 1 + 1) j (by simp)).trans (by simp only [World.cell?, heap_alloc, World.size_alloc, heap_drewN]; (repeat (first | rw [if_pos trivial] | rw [if_pos (by omega)] | rw [if_neg (by omega)])); rfl)
                have hr7 : ∀ j, w7.cell? ⟨wr.heap.size, j, none⟩ = (#[.bool false, .slice oh lh ch, .bool sum, .int .i64 bound, .slice ob lb cb, .slice ow lw cw] : Array Value)[j]? := fun j => (oldCell hb7 wr.heap.size j (by simp; omega)).trans (by simp only [World.cell?, heap_alloc, World.size_alloc, heap_drewN]; (repeat (first | rw [if_pos trivial] | rw [if_pos (by omega)] | rw [if_neg (by omega)])); rfl)
                have hs7 : wr.heap.size + 3 ≤ w7.heap.size := by have := hb7.size; simp at this; omega
                have ht7 : wr.heap.size + 1 + 1 < w7.heap.size := by omega
                have hu7 : wr.heap.size < w7.heap.size := by omega
                have HB8 : Hid (Below wr.heap.size wr w7) := below_trans_of (by (repeat (first | with_reducible exact Below.refl _ _ | with_reducible refine below_drewN_of ?_ _ | with_reducible refine below_alloc_of ?_ _ | with_reducible refine below_set_of ?_ _ _ _ (by simp) | with_reducible assumption | exact ⟨rfl, rfl, rfl, Nat.le_refl _, fun _ _ => rfl⟩))) hb7
                clear hb7
                go_wp2_with fail
                refine (lin_any _ _ _ _ [B] _ _ _ head (lit_at rfl HB64.out _) (i1.below (below_trans_of HB8.out (below_alloc w7 _)))).mono ?_
                rw [HBin.out]
                rintro e w8 ⟨rfl, d8, rfl⟩
                go_wp2_with fail
                refine (lin_any _ _ _ _ [B] _ _ _ m (lit_at (by simp) HB64.out _) ((HM5.out.below HBW.out).below (below_trans_of HB8.out (by (repeat (first | with_reducible exact Below.refl _ _ | with_reducible refine below_drewN_of ?_ _ | with_reducible refine below_alloc_of ?_ _ | with_reducible refine below_set_of ?_ _ _ _ (by simp) | with_reducible assumption | exact ⟨rfl, rfl, rfl, Nat.le_refl _, fun _ _ => rfl⟩)))))).mono ?_
                rw [HBm.out]
                rintro e w9 ⟨rfl, d9, rfl⟩
                have HB9 : Hid (Below wr.heap.size wr _) := below_trans_of HB8.out (below_drewN_of (below_alloc_of (below_drewN_of (below_alloc w7 (.cells #[.int .i64 B] 3)) d8) (.cells #[.int .i64 B] 3)) d9)
                go_wp2_with fail
                go_roundw
                case rel => exact ⟨k + 1, q + 1, by omega, by go_num, by go_num, by omega, by omega, HNext.out, below_trans_of HBW.out HB9.out⟩
                case measure => simp [intOf]; omega
              · -- a choice
                obtain ⟨B, hB⟩ : ∃ B, B = blockL ⟨true, head, sum, bound, body, ws⟩ m := ⟨_, rfl⟩
                have HGo3 : Hid ((blkGo m A 0 rules).drop q = ⟨k, 4, B⟩ :: blkGo m A (k + 1) (rules.drop (k + 1))) := by rw [Hid, HGo2.out, blkGo_step_yes hin, hB]; simp [blockK, hbody]
                have hB0 : B = 0 := by rw [hB]; simp [blockL, hbody]
                clear hB
                subst hB0
                have HBdy := Lib.hid hbody
                clear HGo2 hin hbody
                have hq : q < lB := by
                  rw [← HVl.out]
                  rcases Nat.lt_or_ge q (blkGo m A 0 rules).length with c | c
                  · exact c
                  · have := HGo3.out; rw [List.drop_eq_nil_of_le c] at this; cases this
                obtain ⟨bb, oo, ⟨y1, y2, y3⟩, rfl, hbb, g0, g1, g2, hy, hdq, hgq⟩ := (HV5.out.below HBW.out).at_ hq
                have hyE : (⟨y1, y2, y3⟩ : Blk) = ⟨k, 4, 0⟩ ∧ (blkGo m A 0 rules).drop (q + 1) = blkGo m A (k + 1) (rules.drop (k + 1)) := by
                  have := HGo3.out; rw [hdq.out] at this; simpa using this
                obtain ⟨hyE1, hyE2⟩ := hyE
                have HB64 : Hid (I64 0) := by have := hy.2.2; rw [hyE1] at this; exact this
                rw [show y1 = (k : Int) by have := hyE1; simp only [Blk.mk.injEq] at this; exact this.1] at g0
                rw [show y2 = 4 by have := hyE1; simp only [Blk.mk.injEq] at this; exact this.2.1] at g1
                rw [show y3 = 0 by have := hyE1; simp only [Blk.mk.injEq] at this; exact this.2.2] at g2
                have HNext : Hid ((blkGo m A 0 rules).drop (q + 1) = blkGo m A (k + 1) (rules.drop (k + 1))) := hyE2
                have f1 : (0 : Int) ≤ q := by omega
                have f2 : (q : Int) < lB := by omega
                clear hyE1 hyE2 hdq hgq HGo3 hy
                have HBody := Lib.hid (fun (W : World) (hW : Below wr.heap.size wr W) => Body_any W ⟨true, head, sum, bound, body, ws⟩ oh lh ch ob lb cb ow lw cw oa len cap m (i1.below hW) (i2.below hW) (i3.below hW) i4 Hr.out.1 Hr.out.2.1 ((HM5.out.below HBW.out).below hW))
                go_wp2_with fail
                refine (lin_any _ _ _ _ [A] _ _ _ head HLr.out (i1.below (below_alloc_of (below_alloc wr _) _))).mono ?_
                rw [HYes.out]
                rintro e w6 ⟨rfl, d6, rfl⟩
                go_wp2_with fail
                refine (HBody.out _ (by (repeat (first | with_reducible exact Below.refl _ _ | with_reducible refine below_drewN_of ?_ _ | with_reducible refine below_alloc_of ?_ _ | with_reducible refine below_set_of ?_ _ _ _ (by simp) | with_reducible assumption | exact ⟨rfl, rfl, rfl, Nat.le_refl _, fun _ _ => rfl⟩)))).mono ?_
                rw [HBdy.out]
                rintro e w7 ⟨rfl, hb7⟩
                have hq7 : ∀ j, w7.cell? ⟨wr.heap.size + 1 + 1, j, none⟩ = (#[.int .i64 k, .int .u8 4, .int .i64 0] : Array Value)[j]? := fun j => (oldCell hb7 (wr.heap.size + 1 + 1) j (by simp)).trans (by simp only [World.cell?, heap_alloc, World.size_alloc, heap_drewN]; (repeat (first | rw [if_pos trivial] | rw [if_pos (by omega)] | rw [if_neg (by omega)])); rfl)
                have HB8 : Hid (Below wr.heap.size wr w7) := below_trans_of (by (repeat (first | with_reducible exact Below.refl _ _ | with_reducible refine below_drewN_of ?_ _ | with_reducible refine below_alloc_of ?_ _ | with_reducible refine below_set_of ?_ _ _ _ (by simp) | with_reducible assumption | exact ⟨rfl, rfl, rfl, Nat.le_refl _, fun _ _ => rfl⟩))) hb7
                clear hb7
                go_wp2_with fail
                go_roundw
                case rel => exact ⟨k + 1, q + 1, by omega, by go_num, by go_num, by omega, by omega, HNext.out, below_trans_of HBW.out HB8.out⟩
                case measure => simp [intOf]; omega
        · have HEnd : Hid ((blkGo m A 0 rules).drop q = []) := by rw [Hid, HGo.out, List.drop_eq_nil_of_le (by rw [HRl.out]; omega)]; simp [blkGo]
          obtain rfl : q = lB := by
            have h1 : lB ≤ q := by rw [← HVl.out]; have := HEnd.out; simpa using this
            omega
          clear HEnd HGo
          go_wp2_with fail
          refine (awake_any _ (HT.out.below HW.out)).mono ?_
          rintro e w7 ⟨rfl, hb7⟩
          have HB7 : Hid (Below w.heap.size w w7) := below_trans_of HW.out hb7
          clear hb7
          go_wp2_with fail
          go_ret
          exact ⟨rfl, HB7.out⟩
    · have HIn := Lib.hid hin
      have HBe : Hid (blocksErr ⟨N, names, shown, rules, mins⟩ m A = 2) := by unfold Hid blocksErr; rw [HEr.out, if_neg (by decide), if_pos (.inr (.inr hin))]
      have HBl : Hid (blocksL ⟨N, names, shown, rules, mins⟩ m A = []) := by unfold Hid blocksL; rw [HBe.out]; rfl
      have HAll := Lib.hid (one_in hin)
      clear hin
      refine (blocks_any w3 ⟨N, names, shown, rules, mins⟩ N on ln cn os ls cs or lr cr om lm cm oa len cap m A (h.below HB3.out) HM3.out).mono ?_
      rw [HBe.out, HBl.out]
      rintro e w4 ⟨oB, lB, cB, rfl, hv4, hb4⟩
      have HV4 := Lib.hid hv4
      have HB4 := Lib.hid (below_trans_of HB3.out hb4)
      have HX4 := Lib.hid (box_next HX3.out hb4)
      have HM4 := Lib.hid (HM3.out.below hb4)
      have hbx4 := box_cells HX4.out
      obtain rfl : 0 = lB := hv4.hlen
      clear hv4 hb4 hbx3
      go_wp2_with fail
      refine (models_any w4 ⟨N, names, shown, rules, mins⟩ N on ln cn os ls cs or lr cr om lm cm oa len cap m (h.below HB4.out) HM4.out).mono ?_
      rw [HCk.out, HMo.out]
      rintro e w5 ⟨rfl, hb5⟩
      have HV5 := Lib.hid (HV4.out.below hb5)
      have HB5 := Lib.hid (below_trans_of HB4.out hb5)
      have HX5 := Lib.hid (box_next HX4.out hb5)
      have HM5 := Lib.hid (HM4.out.below hb5)
      have hbx5 := box_cells HX5.out
      clear hb5 hbx4
      have HLit := Lib.hid (lit_row w5 A ⟨by omega, by omega⟩ 3)
      go_wp2_with (go_at_call 29; refine (lin_any _ _ _ _ [A] _ _ _ m HLit.out (HM5.out.below (below_alloc _ _))).mono ?_; rw [HAll.out]; rintro e w6 ⟨rfl, d6, rfl⟩)
      refine (awake_any _ (HT.out.below (below_trans_of HB5.out (by (repeat (first | with_reducible exact Below.refl _ _ | with_reducible refine below_drewN_of ?_ _ | with_reducible refine below_alloc_of ?_ _ | with_reducible refine below_set_of ?_ _ _ _ (by simp) | with_reducible assumption | exact ⟨rfl, rfl, rfl, Nat.le_refl _, fun _ _ => rfl⟩)))))).mono ?_
      rintro e w7 ⟨rfl, hb7⟩
      go_wp2_with fail
      go_ret
      exact ⟨rfl, below_trans_of (below_trans_of HB5.out (by (repeat (first | with_reducible exact Below.refl _ _ | with_reducible refine below_drewN_of ?_ _ | with_reducible refine below_alloc_of ?_ _ | with_reducible refine below_set_of ?_ _ _ _ (by simp) | with_reducible assumption | exact ⟨rfl, rfl, rfl, Nat.le_refl _, fun _ _ => rfl⟩)))) hb7⟩
end Go.Proofs.YtaemfafnmhndiaaGreatDoor
namespace Go.Proofs.YtaemfafnmhndiaaGreatDoor
open Go.RowKit

theorem lawB_any (w : World) (p : GProg) (n : Int) (on : Option Addr) (ln cn : Nat) (os : Option Addr) (ls cs : Nat) (or : Option Addr) (lr cr : Nat) (om : Option Addr) (lm cm : Nat) (bits at_ : Int)
    (h : IsProg w n on ln os ls or lr om lm p) (ht : Tab w) (hb0 : 0 ≤ bits) (hb1 : bits ≤ 65535) (ha0 : 0 ≤ at_) (ha1 : at_ ≤ 255) :
    Calls Tryz.prog 6 #[.agg #[.int .i64 n, .slice on ln cn, .slice os ls cs, .slice or lr cr, .slice om lm cm], .int .u16 bits, .int .u8 at_] w fun e w' => e = .returned (.bool true) ∧ Below w.heap.size w w' := by
  by_cases hc : fewB p = false ∨ validErr p ≠ 0 ∨ n = 0
  · exact lawB_idle w p n on ln cn os ls cs or lr cr om lm cm bits at_ h ht hc
  · have hf : fewB p = true := by cases e : fewB p <;> simp_all
    have hv : validErr p = 0 := Classical.byContradiction fun e => hc (.inr (.inl e))
    have hn0 : n ≠ 0 := fun e => hc (.inr (.inr e))
    have hn := h.hn
    obtain ⟨h1, h2, _⟩ := valid_n hv
    have h12 : p.n ≤ 12 := by simp only [fewB, Bool.and_eq_true, decide_eq_true_eq] at hf; exact hf.1
    obtain ⟨pn, names, shown, rules, mins⟩ := p
    simp only at hn h1 h2 h12
    subst hn
    obtain ⟨N, rfl⟩ := Int.eq_ofNat_of_zero_le h1
    exact lawB_main w N names shown rules mins on ln cn os ls cs or lr cr om lm cm bits at_ h ht hf hv (by omega) (by omega) hb0 hb1 ha0 ha1
end Go.Proofs.YtaemfafnmhndiaaGreatDoor
namespace Go.Proofs.YtaemfafnmhndiaaGreatDoor
open Go.Joins Go.ChangeShapes Go.WideShapes Go.RowKit Go.Deep

section
variable {H : Type} {enc : TypeId × Value → H} {P : Program} {w : World} {spare : Nat → Bool} {held : Bool}

/-- A datum within the form's reach. -/
def Fits (P : Program) (t : TypeId) (d : DataW H) : Prop := ∀ x ∈ d.weights P t, x ≤ reachBytes
theorem fits_all {P : Program} {e : TypeId} : ∀ {ds : List (DataW H)}, (∀ x ∈ DataW.weightsAll P e ds, x ≤ reachBytes) → ∀ d ∈ ds, Fits P e d
  | d :: ds, h, d', hd => by
    rcases List.mem_cons.1 hd with rfl | hd
    · exact fun x hx => h x (by rw [DataW.weightsAll]; exact List.mem_append.2 (.inl hx))
    · exact fits_all (fun x hx => h x (by rw [DataW.weightsAll]; exact List.mem_append.2 (.inr hx))) d' hd
theorem fits_slice {P : Program} {t e : TypeId} {elems rest : List (DataW H)} (ht : P.underlying t = some (.slice e)) (h : Fits P t (.slice elems rest)) :
    elems.length * P.bytesOf e ≤ reachBytes ∧ ∀ d ∈ elems, Fits P e d := by
  unfold Fits at h
  rw [DataW.weights, ht] at h
  simp only [List.mem_cons, List.mem_append] at h
  refine ⟨?_, fits_all fun x hx => h x (.inr (.inl hx))⟩
  have := h _ (.inl rfl)
  rw [Nat.add_mul] at this
  omega
theorem fits_struct {P : Program} {t : TypeId} {fs : Array Field} {ds : List (DataW H)} (ht : P.underlying t = some (.struct fs)) (h : Fits P t (.agg ds)) : ∀ x ∈ DataW.weightsEach P (fs.toList.map (·.type)) ds, x ≤ reachBytes := by
  unfold Fits at h
  rw [DataW.weights, ht] at h
  exact h
theorem fits_each {P : Program} : ∀ {ts : List TypeId} {ds : List (DataW H)}, (∀ x ∈ DataW.weightsEach P ts ds, x ≤ reachBytes) → ∀ (i : Nat) (t : TypeId) (d : DataW H), ts[i]? = some t → ds[i]? = some d → Fits P t d
  | t :: ts, d :: ds, h, 0, t', d', h1, h2 => by
    simp only [List.getElem?_cons_zero, Option.some.injEq] at h1 h2
    subst h1; subst h2
    exact fun x hx => h x (by rw [DataW.weightsEach]; exact List.mem_append.2 (.inl hx))
  | t :: ts, d :: ds, h, i + 1, t', d', h1, h2 => fits_each (fun x hx => h x (by rw [DataW.weightsEach]; exact List.mem_append.2 (.inr hx))) i t' d' (by simpa using h1) (by simpa using h2)
  | [], _, _, i, t, d, h1, _ => by simp at h1
  | _ :: _, [], _, i, t, d, _, h2 => by simp at h2

/-- A slice reads as a row, if its elements read as `R` says. -/
theorem read_row {α : Type} {R : World → List Value → α → Prop} {t e : TypeId} {size fuel : Nat} {v : Value} {x : DataW H × List MemPlace} (ht : P.underlying t = some (.slice e)) (hC : P.cellsOf e = size) (h0 : 0 < size)
    (hsz : ∀ n, n * P.bytesOf e ≤ reachBytes → n * size ≤ 17592186044416)
    (hel : ∀ n cs (y : DataW H × List MemPlace), DataW.trod enc P w 0 spare held n e cs = some y → cs.length = size → Fits P e y.1 → ∃ z, R w cs z)
    (h : DataW.trod enc P w 0 spare held fuel t [v] = some x) (hf : Fits P t x.1) : ∃ oa len cap l, v = .slice oa len cap ∧ IsRow size R w oa len l := by
  rcases open_slice ht h with ⟨hv, hx⟩ | ⟨a, len, cap, m, n, D, Pl, hcs, hb, hl, hm, hmm, hx, hi⟩
  · obtain rfl : v = .slice none 0 0 := by simpa using hv
    exact ⟨none, 0, 0, [], rfl, rfl, by omega, fun h => absurd h (by omega)⟩
  · obtain rfl : v = .slice (some a) len cap := by simpa using hcs
    rw [hx] at hf
    obtain ⟨hw, hfe⟩ := fits_slice ht hf
    rw [List.length_map, List.length_range] at hw
    have hlm : len ≤ m := by rw [hmm]; split <;> omega
    have key : ∀ i : Fin len, ∃ z : α, ∃ cs : List Value, cs.length = size ∧ R w cs z ∧ ∀ j, j < size → w.cell? (a.add (i.1 * size + j)) = cs[j]? := by
      intro i
      obtain ⟨cs', hc, ht'⟩ := hi i.1 (Nat.lt_of_lt_of_le i.2 hlm)
      rw [hC] at hc
      obtain ⟨_, hcl, hat⟩ := World.cells?_some hc
      obtain ⟨z, hz⟩ := hel n cs' (D i.1, Pl i.1) ht' hcl (hfe _ (List.mem_map.2 ⟨i.1, List.mem_range.2 i.2, rfl⟩))
      refine ⟨z, cs', hcl, hz, fun j hj => ?_⟩
      rw [← hat j hj, Go.Deep.add_add]
    have hk : ∀ i : Fin len, ∃ cs : List Value, cs.length = size ∧ R w cs (key i).choose ∧ ∀ j, j < size → w.cell? (a.add (i.1 * size + j)) = cs[j]? := fun i => (key i).choose_spec
    refine ⟨some a, len, cap, List.ofFn fun i => (key i).choose, rfl, by simp, hsz _ hw, fun hpos => ?_⟩
    obtain ⟨blk, off, spot⟩ := a
    obtain ⟨cs0, hl0, _, hc0⟩ := hk ⟨0, hpos⟩
    have h00 := hc0 0 h0
    rw [List.getElem?_eq_getElem (by omega)] at h00
    have hspot : spot = none := by simpa [Addr.add] using World.cell?_spot h00
    subst hspot
    refine ⟨blk, off, rfl, ?_, fun i z hz => ?_⟩
    · have := World.block_lt_of_cell? w _ h00
      simpa [Addr.add] using this
    · have hi' : i < len := by have := (List.getElem?_eq_some_iff.1 hz).1; simpa using this
      obtain ⟨cs, h1, h2, h3⟩ := hk ⟨i, hi'⟩
      have hz' : z = (key ⟨i, hi'⟩).choose := by
        rw [List.getElem?_ofFn, dif_pos hi'] at hz
        simpa using hz.symm
      rw [hz']
      refine ⟨cs, h1, h2, fun j hj => ?_⟩
      rw [← h3 j hj]
      by_cases hz0 : i * size + j = 0
      · simp only [Addr.add, if_pos hz0]; rw [hz0]; rfl
      · simp only [Addr.add, if_neg hz0]
end

section
variable {H : Type} {enc : TypeId × Value → H} {w : World} {spare : Nat → Bool} {held : Bool}
theorem c_int : Tryz.prog.cellsOf 3 = 1 := by kernel_rfl
theorem c_str : Tryz.prog.cellsOf 9 = 1 := by kernel_rfl
theorem c_rule : Tryz.prog.cellsOf 60 = 6 := by kernel_rfl
theorem c_min : Tryz.prog.cellsOf 80 = 3 := by kernel_rfl
theorem b_int : Tryz.prog.bytesOf 3 = 8 := by kernel_rfl
theorem b_str : Tryz.prog.bytesOf 9 = 16 := by kernel_rfl
theorem b_rule : Tryz.prog.bytesOf 60 = 96 := by kernel_rfl
theorem b_min : Tryz.prog.bytesOf 80 = 56 := by kernel_rfl
theorem reach_eq : reachBytes = 140737488351232 := rfl

theorem read_int {n : Nat} {cs : List Value} {y : DataW H × List MemPlace} (h : DataW.trod enc Tryz.prog w 0 spare held n 3 cs = some y) : ∃ z, cs = [.int .i64 z] ∧ I64 z := by
  obtain ⟨z, h1, _, h2⟩ := DataW.trod_int Tryz.underlying3 h
  exact ⟨z, h1, bounds_i64 h2⟩
theorem read_ints {fuel : Nat} {v : Value} {x : DataW H × List MemPlace} (h : DataW.trod enc Tryz.prog w 0 spare held fuel 23 [v] = some x) (hf : Fits Tryz.prog 23 x.1) : ∃ oa len cap l, v = .slice oa len cap ∧ IsInts w oa len l :=
  read_row Tryz.underlying23 c_int (by omega) (fun n hn => by rw [b_int, reach_eq] at hn; omega) (fun n cs y hy _ _ => read_int hy) h hf
theorem read_strs {fuel : Nat} {v : Value} {x : DataW H × List MemPlace} (h : DataW.trod enc Tryz.prog w 0 spare held fuel 22 [v] = some x) (hf : Fits Tryz.prog 22 x.1) : ∃ oa len cap l, v = .slice oa len cap ∧ IsStrs w oa len l :=
  read_row Tryz.underlying22 c_str (by omega) (fun n hn => by rw [b_str, reach_eq] at hn; omega) (fun n cs y hy _ hfy => by
    obtain ⟨s, h1, hy1, _⟩ := DataW.trod_string Tryz.underlying9 hy
    refine ⟨s, h1, ?_⟩
    have := hfy s.data.toList.length (by rw [hy1, DataW.weights]; simp)
    rw [reach_eq] at this
    exact this) h hf

/-- A struct whose fields lie in one cell each. -/
theorem read_struct {t : TypeId} {fs : Array Field} {fuel : Nat} {cs : List Value} {x : DataW H × List MemPlace} (ht : Tryz.prog.underlying t = some (.struct fs)) (hone : oneCellFields Tryz.prog fs = true) (hC : Tryz.prog.cellsOf t = fs.size)
    (h : DataW.trod enc Tryz.prog w 0 spare held fuel t cs = some x) (hf : Fits Tryz.prog t x.1) :
    cs.length = fs.size ∧ ∀ (i : Nat) (f : Field), fs[i]? = some f → ∃ (v : Value) (n : Nat) (y : DataW H × List MemPlace), cs[i]? = some v ∧ DataW.trod enc Tryz.prog w 0 spare held n f.type [v] = some y ∧ Fits Tryz.prog f.type y.1 := by
  obtain ⟨ys, n, _, hx, hlen, hyl, hfd⟩ := DataW.trod_struct ht h
  rw [hC] at hlen
  refine ⟨hlen, fun i f hi => ?_⟩
  obtain ⟨ho, hk⟩ := hone_of hone i f hi
  have hil : i < fs.size := (Array.getElem?_eq_some_iff.1 hi).1
  have h1 := hfd i f hi
  rw [ho, hk] at h1
  have hv : cs[i]? = some (cs[i]'(by omega)) := List.getElem?_eq_getElem (by omega)
  have hone' : (cs.drop i).take 1 = [cs[i]'(by omega)] := by
    rw [List.drop_eq_getElem_cons (by omega)]; rfl
  rw [hone'] at h1
  have hys : ys[i]? = some (ys[i]'(by omega)) := List.getElem?_eq_getElem (by omega)
  refine ⟨_, n, _, hv, h1.trans hys, ?_⟩
  rw [hx] at hf
  have hfe := fits_each (fits_struct ht hf) i f.type (ys[i]'(by omega)).1 (by simp [hi]) (by simp [hys])
  exact hfe

theorem read_bool {n : Nat} {cs : List Value} {y : DataW H × List MemPlace} (h : DataW.trod enc Tryz.prog w 0 spare held n 4 cs = some y) : ∃ z, cs = [.bool z] := by
  obtain ⟨z, h1, _⟩ := DataW.trod_bool Tryz.underlying4 h
  exact ⟨z, h1⟩
theorem one_eq {v z : Value} (h : [v] = [z]) : v = z := by simpa using h
theorem list6 {cs : List Value} {a b c d e f : Value} (hl : cs.length = 6) (h0 : cs[0]? = some a) (h1 : cs[1]? = some b) (h2 : cs[2]? = some c) (h3 : cs[3]? = some d) (h4 : cs[4]? = some e) (h5 : cs[5]? = some f) : cs = [a, b, c, d, e, f] := by
  match cs, hl with
  | [x0, x1, x2, x3, x4, x5], _ => simp at h0 h1 h2 h3 h4 h5; simp [h0, h1, h2, h3, h4, h5]
theorem list3 {cs : List Value} {a b c : Value} (hl : cs.length = 3) (h0 : cs[0]? = some a) (h1 : cs[1]? = some b) (h2 : cs[2]? = some c) : cs = [a, b, c] := by
  match cs, hl with
  | [x0, x1, x2], _ => simp at h0 h1 h2; simp [h0, h1, h2]
theorem list5 {cs : List Value} {a b c d e : Value} (hl : cs.length = 5) (h0 : cs[0]? = some a) (h1 : cs[1]? = some b) (h2 : cs[2]? = some c) (h3 : cs[3]? = some d) (h4 : cs[4]? = some e) : cs = [a, b, c, d, e] := by
  match cs, hl with
  | [x0, x1, x2, x3, x4], _ => simp at h0 h1 h2 h3 h4; simp [h0, h1, h2, h3, h4]
theorem list2 {cs : List Value} {a b : Value} (hl : cs.length = 2) (h0 : cs[0]? = some a) (h1 : cs[1]? = some b) : cs = [a, b] := by
  match cs, hl with
  | [x0, x1], _ => simp at h0 h1; simp [h0, h1]

theorem read_rule {n : Nat} {cs : List Value} {y : DataW H × List MemPlace} (h : DataW.trod enc Tryz.prog w 0 spare held n 60 cs = some y) (hf : Fits Tryz.prog 60 y.1) : ∃ r, RRule w cs r := by
  obtain ⟨hl, hs⟩ := read_struct Tryz.underlying60 (by kernel_rfl) (by kernel_rfl) h hf
  obtain ⟨v0, n0, y0, g0, t0, f0⟩ := hs 0 _ rfl
  obtain ⟨v1, n1, y1, g1, t1, f1⟩ := hs 1 _ rfl
  obtain ⟨v2, n2, y2, g2, t2, f2⟩ := hs 2 _ rfl
  obtain ⟨v3, n3, y3, g3, t3, f3⟩ := hs 3 _ rfl
  obtain ⟨v4, n4, y4, g4, t4, f4⟩ := hs 4 _ rfl
  obtain ⟨v5, n5, y5, g5, t5, f5⟩ := hs 5 _ rfl
  obtain ⟨b0, e0⟩ := read_bool t0
  obtain ⟨o1, l1, c1, x1, rfl, i1⟩ := read_ints t1 f1
  obtain ⟨b2, e2⟩ := read_bool t2
  obtain ⟨k3, e3, i3⟩ := read_int t3
  obtain ⟨o4, l4, c4, x4, rfl, i4⟩ := read_ints t4 f4
  obtain ⟨o5, l5, c5, x5, rfl, i5⟩ := read_ints t5 f5
  rw [one_eq e0] at g0
  rw [one_eq e2] at g2
  rw [one_eq e3] at g3
  exact ⟨⟨b0, x1, b2, k3, x4, x5⟩, o1, l1, c1, o4, l4, c4, o5, l5, c5, list6 hl g0 g1 g2 g3 g4 g5, i1, i4, i5, i3⟩
theorem read_rules {fuel : Nat} {v : Value} {x : DataW H × List MemPlace} (h : DataW.trod enc Tryz.prog w 0 spare held fuel 24 [v] = some x) (hf : Fits Tryz.prog 24 x.1) : ∃ oa len cap l, v = .slice oa len cap ∧ IsRules w oa len l :=
  read_row Tryz.underlying24 c_rule (by omega) (fun n hn => by rw [b_rule, reach_eq] at hn; omega) (fun n cs y hy _ hfy => read_rule hy hfy) h hf
theorem read_min {n : Nat} {cs : List Value} {y : DataW H × List MemPlace} (h : DataW.trod enc Tryz.prog w 0 spare held n 80 cs = some y) (hf : Fits Tryz.prog 80 y.1) : ∃ r, RMin w cs r := by
  obtain ⟨hl, hs⟩ := read_struct Tryz.underlying80 (by kernel_rfl) (by kernel_rfl) h hf
  obtain ⟨v0, n0, y0, g0, t0, f0⟩ := hs 0 _ rfl
  obtain ⟨v1, n1, y1, g1, t1, f1⟩ := hs 1 _ rfl
  obtain ⟨v2, n2, y2, g2, t2, f2⟩ := hs 2 _ rfl
  obtain ⟨k0, e0, i0⟩ := read_int t0
  obtain ⟨o1, l1, c1, x1, rfl, i1⟩ := read_ints t1 f1
  obtain ⟨o2, l2, c2, x2, rfl, i2⟩ := read_ints t2 f2
  rw [one_eq e0] at g0
  exact ⟨⟨k0, x1, x2⟩, o1, l1, c1, o2, l2, c2, list3 hl g0 g1 g2, i1, i2, i0⟩
theorem read_mins {fuel : Nat} {v : Value} {x : DataW H × List MemPlace} (h : DataW.trod enc Tryz.prog w 0 spare held fuel 25 [v] = some x) (hf : Fits Tryz.prog 25 x.1) : ∃ oa len cap l, v = .slice oa len cap ∧ IsMins w oa len l :=
  read_row Tryz.underlying25 c_min (by omega) (fun n hn => by rw [b_min, reach_eq] at hn; omega) (fun n cs y hy _ hfy => read_min hy hfy) h hf

set_option maxRecDepth 100000 in
/-- A program by value. -/
theorem read_prog {r : Go.Reach} {b0 : Nat} {v : Value} {d : DataW H} {p : List MemPlace} (hv : Value.okWide Tryz.prog w r b0 27 v) (h : DataW.Trod enc Tryz.prog w 0 spare held 27 v d p) (hf : Fits Tryz.prog 27 d) :
    ∃ (n : Int) (on : Option Addr) (ln cn : Nat) (os : Option Addr) (ls cs : Nat) (or : Option Addr) (lr cr : Nat) (om : Option Addr) (lm cm : Nat) (p : GProg),
      v = .agg #[.int .i64 n, .slice on ln cn, .slice os ls cs, .slice or lr cr, .slice om lm cm] ∧ IsProg w n on ln os ls or lr om lm p := by
  obtain ⟨fs, rfl, hsz⟩ := okWide_struct Tryz.underlying27 hv
  obtain ⟨fuel, ht⟩ := h
  obtain ⟨hl, hs⟩ := read_struct Tryz.underlying27 (by kernel_rfl) (by kernel_rfl) ht hf
  obtain ⟨v0, n0, y0, g0, t0, f0⟩ := hs 0 _ rfl
  obtain ⟨v1, n1, y1, g1, t1, f1⟩ := hs 1 _ rfl
  obtain ⟨v2, n2, y2, g2, t2, f2⟩ := hs 2 _ rfl
  obtain ⟨v3, n3, y3, g3, t3, f3⟩ := hs 3 _ rfl
  obtain ⟨v4, n4, y4, g4, t4, f4⟩ := hs 4 _ rfl
  obtain ⟨k0, e0, i0⟩ := read_int t0
  obtain ⟨o1, l1, c1, x1, rfl, i1⟩ := read_strs t1 f1
  obtain ⟨o2, l2, c2, x2, rfl, i2⟩ := read_ints t2 f2
  obtain ⟨o3, l3, c3, x3, rfl, i3⟩ := read_rules t3 f3
  obtain ⟨o4, l4, c4, x4, rfl, i4⟩ := read_mins t4 f4
  rw [one_eq e0] at g0
  have hcs := list5 hl g0 g1 g2 g3 g4
  refine ⟨k0, o1, l1, c1, o2, l2, c2, o3, l3, c3, o4, l4, c4, ⟨k0, x1, x2, x3, x4⟩, ?_, ⟨rfl, i0, i1, i2, i3, i4⟩⟩
  obtain ⟨l⟩ := fs
  simp only [Value.cells] at hcs
  rw [hcs]
end
end Go.Proofs.YtaemfafnmhndiaaGreatDoor
namespace Go.Proofs.YtaemfafnmhndiaaGreatDoor
open Go.ChangeShapes Go.WideShapes Go.ChangeAt Go.RowKit

theorem own : ownKnob Tryz.prog.godebug = none := by kernel_rfl
theorem laidOut : laidOutB Tryz.prog = true := by kernel_rfl

section
variable {H : Type} {enc : TypeId × Value → H} {P : Program}
/-- Arguments read behind the call as they did, if below the heap's old size nothing has turned. -/
theorem trodAll_stays (hl : laidOutB P = true) {W W' : World} {sp : Nat → Bool} (hb : Below W.heap.size W W') : ∀ {ts : List TypeId} {vs : List Value} {ds : List (DataW H)} {ps : List MemPlace},
    (∀ t ∈ ts, P.readableRec t = true ∧ t < P.types.size) → DataW.TrodAll enc P W 0 (fun _ => true) true ts vs ds ps → (∀ x ∈ ps, x.block < W.heap.size) → (∀ x ∈ ps, sp x.block = true) → DataW.TrodAll enc P W' 0 sp true ts vs ds ps
  | [], [], [], _, _, h, _, _ => h
  | t :: _, _ :: _, _ :: _, _, hT, ⟨p, q, h1, h2, e⟩, hlt, hs =>
    ⟨p, q, WideElems.Trod_stays hl (hT t (by simp)).1 (hT t (by simp)).2 h1 (fun x hx => hb.same (hlt x (by rw [e]; exact List.mem_append_left _ hx))) (fun x hx => hs x (by rw [e]; exact List.mem_append_left _ hx)),
      trodAll_stays hl hb (fun t ht => hT t (by simp [ht])) h2 (fun x hx => hlt x (by rw [e]; exact List.mem_append_right _ hx)) (fun x hx => hs x (by rw [e]; exact List.mem_append_right _ hx)), e⟩

/-- The row's last step of a law that leaves old memory alone and answers true. -/
theorem law_post {f : Func} {s : ChangeSpec} {W W' : World} {args : Array Value} {ds : List (DataW H)} {before : List MemPlace} (hl : laidOutB P = true) (hT : ∀ t ∈ f.params.toList, P.readableRec t = true ∧ t < P.types.size)
    (hW : DataW.Whole enc P f.params.toList s.vars false W args.toList ds [] before) (hvars : s.vars = []) (hres : f.resultTypes = #[4]) (h4 : P.underlying 4 = some .bool)
    (hfn : (s.fn H (ds ++ [])).results = [.lit (.bool true)] ∧ (s.fn H (ds ++ [])).args = ds) (hfv : (s.fn H (ds ++ [])).vars = []) (hb : Below W.heap.size W W') : s.post enc P f false true false false W args (.bool true) W' := by
  have hlt : ∀ p ∈ before, p.block < W.heap.size := fun p hp => hW.lt p hp
  have hW' := hW
  obtain ⟨p, q, hA, hV, rfl, hfz, hnd⟩ := hW
  rw [hvars] at hV
  obtain ⟨_, rfl⟩ := trodVars_none hV
  rw [List.append_nil] at hlt
  refine ⟨ds, [], p ++ [], [], p, [], hW', ?_, ?_, ?_, World.keptBut_mono (fun x hx => ⟨hx, ?_⟩) (hb.frame (· ∈ p ++ [])), fun h => by cases h⟩
  · rw [hfn.1, hres]
    exact trodAll_mk1 (shut_bool h4 _)
  · rw [hfn.2]
    exact trodAll_stays hl hb hT hA hlt (fun x hx => by simpa using hlt x hx)
  · rw [hvars, hfv]; exact rfl
  · rw [List.append_nil] at hx; exact .inr (.inl hx)
end
theorem gPow : Tryz.prog.globalNamed "internal/strconv.uint64pow10" = some 1 := by kernel_rfl
theorem tPow : (Tryz.prog.globals[1]?).map (·.type) = some 214 := by kernel_rfl
theorem cPow : Tryz.prog.cellsOf 183 = 1 := by kernel_rfl
theorem c20 : Tryz.prog.cellsOf 214 = 20 := by kernel_rfl
theorem pow_data : (Rows.laid_internal_strconv_uint64pow10 : DataW Unit) = Lib.tabData .u64 Lib.pow10Tab := by rfl
theorem tab_of {W : World} (h : laidMetH Tryz.prog Rows.explainBlocksRow.laid W) : Tab W := by
  have h' : laidMet Tryz.prog [("math/bits.deBruijn32tab", Rows.laid_math_bits_deBruijn32tab), ("math/bits.deBruijn64tab", Rows.laid_math_bits_deBruijn64tab), ("internal/strconv.uint64pow10", Rows.laid_internal_strconv_uint64pow10)] W := h
  clear h
  obtain ⟨ps, ⟨g0, t0, cs0, f0, p0, q0, hg0, ht0, hv0, hd0, ⟨g1, t1, cs1, f1, p1, q1, hg1, ht1, hv1, hd1, ⟨g2, t2, cs2, f2, p2, q2, hg2, ht2, hv2, hd2, _, _⟩, _⟩, _⟩, _⟩ := h'
  obtain rfl := Option.some.inj (gPow.symm.trans hg2)
  obtain rfl := Option.some.inj (tPow.symm.trans ht2)
  rw [pow_data] at hd2
  have := Lib.cells_of_tab Tryz.underlying214 Tryz.underlying183 cPow c20 hd2
  unfold Tab Lib.TabIs
  rw [hv2, ← this]
end Go.Proofs.YtaemfafnmhndiaaGreatDoor
namespace Go.Proofs.YtaemfafnmhndiaaGreatDoor
open Go.ChangeShapes Go.WideShapes Go.ChangeAt Go.RowKit

set_option maxRecDepth 100000 in
theorem contractB (H : Type) (enc : TypeId × Value → H) (W : World) (base : Nat) (args : Array Value) (ds gs : List (DataW H)) (before : List MemPlace)
    (hval : ∀ (j : Nat) t v, Tryz.f6.params[j]? = some t → args[j]? = some v → Value.okWide Tryz.prog W .any base t v)
    (hW : DataW.Whole enc Tryz.prog Tryz.f6.params.toList Rows.explainBlocksSpec.vars false W args.toList ds gs before)
    (hz : (DataW.weightsEach Tryz.prog (Tryz.f6.params.toList ++ (OpenSpec.ofChange Rows.explainBlocksSpec).bare.plain.varTypes Tryz.prog) (ds ++ gs)).all (· ≤ reachBytes) = true)
    (hL : laidMetH Tryz.prog Rows.explainBlocksRow.laid W) :
    Calls Tryz.prog 6 args W fun e W' => ∃ v, e = .returned v ∧ Rows.explainBlocksSpec.post enc Tryz.prog Tryz.f6 false true false false W args v W' := by
  have hW' := hW
  obtain ⟨p, q, hA0, hV, rfl, hfz, hnd⟩ := hW
  have hA : DataW.TrodAll enc Tryz.prog W 0 (fun _ => true) true Tryz.f6.params.toList args.toList ds p := hA0
  rw [Tryz.params6] at hA hval hz
  obtain ⟨rfl, rfl⟩ := trodVars_none hV
  obtain ⟨v0, v1, v2, d0, d1, d2, p0, p1, p2, rfl, rfl, rfl, h0, h1, h2⟩ := trodAll_three hA
  have hw : ∀ x ∈ DataW.weightsEach Tryz.prog ([27, 55, 5] ++ (OpenSpec.ofChange Rows.explainBlocksSpec).bare.plain.varTypes Tryz.prog) ([d0, d1, d2] ++ []), x ≤ reachBytes := fun x hx => by
    have := List.all_eq_true.1 hz x hx
    simpa using this
  have hf0 : Fits Tryz.prog 27 d0 := fits_each hw 0 _ _ rfl rfl
  obtain ⟨n, on, ln, cn, os, ls, cs, or, lr, cr, om, lm, cm, pr, rfl, hp⟩ := read_prog (hval 0 27 v0 rfl rfl) h0 hf0
  obtain ⟨bits, rfl, rfl, rfl, wb⟩ := open_int Tryz.underlying55 (hval 1 55 v1 rfl rfl) h1
  obtain ⟨at_, rfl, rfl, rfl, wa⟩ := open_int Tryz.underlying5 (hval 2 5 v2 rfl rfl) h2
  have b1 := bounds_u16 wb
  have b2 := bounds_u8 wa
  refine (lawB_any W pr n on ln cn os ls cs or lr cr om lm cm bits at_ hp (tab_of hL) b1.1 b1.2 b2.1 b2.2).mono fun e W' ⟨he, hb⟩ => ?_
  subst he
  exact ⟨_, rfl, law_post laidOut (by rw [Tryz.params6]; intro t ht; simp at ht; rcases ht with rfl | rfl | rfl <;> exact ⟨by kernel_rfl, of_decide_eq_true (by kernel_rfl)⟩) hW' rfl (by kernel_rfl) Tryz.underlying4 ⟨rfl, rfl⟩ rfl hb⟩

/-- A table's cells off its datum. -/
def tabCells (d : DataW Unit) : Array Value := match d with
  | .agg l => (l.map fun | .lit (.int k z) => Value.int k z | _ => undef).toArray
  | _ => #[]
def putCells (d : DataW Unit) : Obj → Obj
  | .cells _ t fr => .cells (tabCells d) t fr
  | o => o
noncomputable def laidWorld (os : Os) : World :=
  { World.holding Tryz.prog os ⟨#[], #[], []⟩ with heap := (((World.holding Tryz.prog os ⟨#[], #[], []⟩).heap.modify 4 (putCells Rows.laid_math_bits_deBruijn32tab)).modify 5 (putCells Rows.laid_math_bits_deBruijn64tab)).modify 1 (putCells Rows.laid_internal_strconv_uint64pow10) }
def argsB : Array Value := #[.agg #[.int .i64 0, .slice none 0 0, .slice none 0 0, .slice none 0 0, .slice none 0 0], .int .u16 0, .int .u8 0]
set_option maxRecDepth 100000 in
theorem laid_metB (os : Os) : laidMet Tryz.prog Rows.explainBlocksRow.laid ((laidWorld os).forCall (fun _ _ => 0) ⟨#[], argsB, []⟩).memory :=
  laidMet_of_run' 8 (by kernel_rfl) (by kernel_rfl)
set_option maxRecDepth 100000 in
theorem readsB (os : Os) {H : Type} (enc : TypeId × Value → H) : ∃ places, DataW.whole enc Tryz.prog ((laidWorld os).forCall (fun _ _ => 0) ⟨#[], argsB, []⟩).memory Tryz.f6.params.toList Rows.explainBlocksSpec.vars false argsB.toList 8 = some ([.agg [.lit (.int .i64 0), .nil, .nil, .nil, .nil], .lit (.int .u16 0), .lit (.int .u8 0)], [], places) :=
  ⟨[], by kernel_rfl⟩

set_option maxRecDepth 100000 in
theorem liftedB (os : Os) (started : os.Started) (H : Type) (enc : TypeId × Value → H) (F : Stop.Interp) :
    ReturnsInHanded {} Tryz.checked os 6 .any ((OpenSpec.ofChange Rows.explainBlocksSpec).preRow enc Tryz.prog Tryz.f6 Rows.explainBlocksRow.domain false Rows.explainBlocksRow.laid) (((OpenSpec.ofChange Rows.explainBlocksSpec).at F).post enc Tryz.prog Tryz.f6 false true false false) := by
  obtain ⟨places, hx⟩ := readsB os enc
  refine returnsInHanded_of_row (C := Tryz.checked) (s := OpenSpec.ofChange Rows.explainBlocksSpec) own started (by kernel_rfl) Tryz.func6
    (witness_row_at (enc := enc) (C := Tryz.checked) false (laidWorld os) argsB rfl (by kernel_rfl) (by kernel_rfl) (by kernel_rfl)
      (OpenSpec.preRow_of_cond 8 hx (by kernel_rfl) (fun k hk => by cases hk) (by kernel_rfl) (laid_metB os))) ?_
  intro W base args ds gs before hval hW _ _ hz hL _ _
  exact contractB H enc W base args ds gs before hval hW hz hL

theorem saidB : Rows.ExplainBlocksSaid :=
  OpenClaim.holds_of_cond 6 Tryz.f6 rfl rfl rfl rfl rfl rfl rfl ⟨rfl, rfl, rfl, rfl, rfl⟩ rfl rfl rfl rfl rfl (by kernel_rfl) Tryz.func6 (by kernel_rfl)
    (of_decide_eq_true (by kernel_rfl)) (by unfold Func.isWrapper; first | (rw [if_pos (by decide +kernel)]; kernel_rfl) | (rw [if_neg (by decide +kernel)]; exact ⟨rfl, rfl⟩))
    (fun os started H enc _ F => by rw [OpenClaim.pre_eq_preRow]; exact liftedB os started H enc F)

theorem plainB (f : FuncId) (fn : Func) (hf : Tryz.pinned.checked.prog.funcNamed "ostler/ostlerlaw41.ExplainBlocks" = some f) (hfn : Tryz.pinned.checked.prog.funcs[f]? = some fn) :
    false = Tryz.pinned.checked.prog.looks [] ∧ ∀ (j : Nat) t, fn.params[j]? = some t → Tryz.pinned.checked.prog.wantsStandIn t = false := by
  obtain rfl : f = 6 := Option.some.inj ((show Tryz.prog.funcNamed "ostler/ostlerlaw41.ExplainBlocks" = some 6 by kernel_rfl).symm.trans hf) |>.symm
  obtain rfl : fn = Tryz.f6 := (Option.some.inj (Tryz.func6.symm.trans hfn)).symm
  refine ⟨by kernel_rfl, fun j t ht => ?_⟩
  rw [Tryz.params6] at ht
  have hm : t ∈ [27, 55, 5] := by simpa using Array.mem_of_getElem? ht
  have hall : ([27, 55, 5].all fun u => !Tryz.prog.wantsStandIn u) = true := by kernel_rfl
  exact (show Tryz.prog.wantsStandIn t = false by simpa using List.all_eq_true.1 hall t hm)

theorem explainBlocks_holds : Rows.ExplainBlocksCardSaid :=
  Claim7.holds_tied_plain_at .later [] _ _ _ _ saidB (fun _ h => by cases h) (by kernel_rfl) (fun _ h => by cases h) explainBlocks_row_tie rfl ⟨rfl, rfl⟩ (by kernel_rfl) rfl plainB (by kernel_rfl)
#print axioms explainBlocks_holds
end Go.Proofs.YtaemfafnmhndiaaGreatDoor
