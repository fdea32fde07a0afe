/- Part 10 of the proof: Support4, Awake3, In, LawB1, LawB2. Conditions: those that each theorem names. -/
import Derived.Test.YtaemfafnmhndiaaGreatDoorPb8
import Derived.Test.YtaemfafnmhndiaaGreatDoorPb7
import Derived.Test.YtaemfafnmhndiaaGreatDoorPb9
import Derived.Test.YtaemfafnmhndiaaGreatDoorPb4
import Derived.Test.YtaemfafnmhndiaaGreatDoorPb5
namespace Go.Proofs.YtaemfafnmhndiaaGreatDoor
open Go.RowKit Go.Maps Go.WideMaps Go.Sort

theorem cell_new (w : World) (cs : Array Value) (T : TypeId) (j : Nat) : (w.alloc (.cells cs T)).cell? ⟨w.heap.size, j, none⟩ = cs[j]? := by simp
theorem suppGo_step {l : List Why} {rules : List GRule} {f q : Nat} {L : List Int} {x : Int} (h : L[q]? = some x) :
    suppGo l rules (f + 1) q L = suppGo l rules f (q + 1) (bodyGo l (lookW l x).level L (rules.getD (lookW l x).rule.toNat default).body) := by simp only [suppGo, h]
theorem suppGo_end {l : List Why} {rules : List GRule} {q : Nat} {L : List Int} (h : L.length ≤ q) : ∀ f, suppGo l rules f q L = L
  | 0 => rfl
  | f + 1 => by simp only [suppGo, List.getElem?_eq_none h]
theorem own_one (w : World) (x : Int) (hx : I64 x) : OwnI (w.alloc (.cells #[.int .i64 x] 3)) w.heap.size (some ⟨w.heap.size, 0, none⟩) 1 1 [x] :=
  ⟨⟨rfl, .inr ⟨w.heap.size, 1, #[.int .i64 x], rfl, Nat.le_refl _, heap_alloc_new w _, Nat.le_refl _, by decide, by simp, by simp⟩⟩, rfl, by intro y hy; rw [List.mem_singleton.1 hy]; exact hx, by omega⟩

set_option maxRecDepth 100000 in
set_option maxHeartbeats 4000000 in
theorem support_good (w : World) (N : Nat) (names : List ByteArray) (shown : List Int) (rules : List GRule) (mins : List GMin) (on : Option Addr) (ln cn : Nat) (os : Option Addr) (ls cs : Nat) (or : Option Addr) (lr cr : Nat) (om : Option Addr) (lm cm : Nat)
    (oa : Option Addr) (len cap : Nat) (m : List Int) (ow : Option Addr) (lw cw : Nat) (oe : Option Addr) (le ce : Nat) (whys : List Why) (rest : List Int) (a : Int) (ha : I64 a)
    (h : IsProg w N on ln os ls or lr om lm ⟨N, names, shown, rules, mins⟩) (hm : IsInts w oa len m) (hx : IsExpl w ow lw oe le ⟨whys, rest⟩) (hbig : le + lw ≤ 17592186044416) (hok : checkB ⟨N, names, shown, rules, mins⟩ m ⟨whys, rest⟩ = true)
    (R : List Int) (Er : Int) (hR0 : lookW whys a = noWhy → R = [] ∧ Er = 6) (hR1 : lookW whys a ≠ noWhy → R = ((suppGo whys rules (m.length + 1) 0 [a]).mergeSort fun a b => decide (a ≤ b)) ∧ Er = 0) :
    Calls Tryz.prog 16 #[.agg #[.int .i64 N, .slice on ln cn, .slice os ls cs, .slice or lr cr, .slice om lm cm], .slice oa len cap, .agg #[.slice ow lw cw, .slice oe le ce], .int .i64 a] w
      (RetList w R Er) := by
  have HW0 : Hid (Below w.heap.size w ((w.alloc (.cells #[.int .i64 N, .slice on ln cn, .slice os ls cs, .slice or lr cr, .slice om lm cm] 27)).alloc (.cells #[.slice ow lw cw, .slice oe le ce] 30))) := below_alloc_of (below_alloc w _) _
  obtain ⟨he, hv, hnb, hmem⟩ := check_parts hok
  obtain ⟨hn0, hn1, hfe, hat⟩ := explain_ok he
  have hmi := atoms_in N m none hat
  have hms := (atoms_sorted N m none hat).2
  simp only at hn1 hnb hmem
  have hm4 : m.length ≤ 4000 := by have := sorted_length m 1 N hms hmi (by omega); omega
  have hrl := h.rules.hlen
  have hwl := hx.whys.hlen
  have hwm := hx.whys.hmax
  simp only at hrl hwl
  have HNB := Lib.hid hnb
  have HMem := Lib.hid hmem
  have HMi := Lib.hid hmi
  have Hok := Lib.hid hok
  have He := Lib.hid he
  have HR0 := Lib.hid hR0
  have HR1 := Lib.hid hR1
  clear hR0 hR1
  have hmk : ∀ w, (Instr.makeMap 93 none).run Tryz.prog w = .ok (.map (some w.heap.size)) (w.alloc (.map #[] 0)) := fun w => by
    simp [Instr.makeMap]
  clear hnb hmem hmi hms hok he hv hn0 hfe hat
  go_enter Tryz.func16, Tryz.ntmps16
  go_wp2_with fail
  refine (check_any _ _ _ _ _ _ _ _ _ _ _ _ _ _ _ _ _ _ m _ _ _ _ _ _ ⟨whys, rest⟩ (h.below HW0.out) (hm.below HW0.out) (hx.below HW0.out) hbig).mono ?_
  rw [He.out, Hok.out]
  rintro e w1 ⟨rfl, hb1⟩
  have HB1 := Lib.hid (below_trans_of HW0.out hb1)
  have hoc : ∀ j, w1.cell? ⟨w.heap.size, j, none⟩ = (#[.int .i64 N, .slice on ln cn, .slice os ls cs, .slice or lr cr, .slice om lm cm] : Array Value)[j]? := fun j => (oldCell hb1 w.heap.size j (by simp only [World.size_alloc]; omega)).trans (by simp)
  have hoc2 : ∀ j, w1.cell? ⟨w.heap.size + 1, j, none⟩ = (#[.slice ow lw cw, .slice oe le ce] : Array Value)[j]? := fun j => (oldCell hb1 (w.heap.size + 1) j (by simp)).trans (by simp)
  have hs1 : w.heap.size + 1 < w1.heap.size := by have := hb1.size; simp at this; omega
  have HOC := Lib.hid hoc
  clear hb1 hoc
  go_wp2_with fail
  clear hoc2
  go_loopw [39] (fun i wr => ∃ (k : Nat) (f : Lit → Why), k ≤ lw ∧ i = .int .i64 k ∧ Hid (Below w1.heap.size w1 wr) ∧ Hid (Whys Tryz.prog 3 wr w1.heap.size k f) ∧ Hid (∀ b, f (kI b) = lookW (whys.take k) b)) (fun i _ => lw - (intOf i).toNat)
  case atStart => exact ⟨0, _, Nat.zero_le _, rfl, below_alloc _ _, MapOf.made w1, fun b => by simp [lookW]⟩
  case round =>
    obtain ⟨k, f, hk, rfl, HB, HM, HF⟩ := hrel
    have hsb : w1.heap.size < wr.heap.size := HM.out.lt
    by_cases hlt : k < lw
    · obtain ⟨b, off, y, rfl, hb, c0, c1, c2, hy1, hy2, hy3, hd, hg⟩ := (hx.whys.below (below_trans_of HB1.out HB.out)).at_ hlt
      go_wp2_with (at_mapUpdate; refine wpList_map_put rfl _ _ _ 93 rfl 49 (int_keyed Tryz.underlying3) Tryz.underlying93 (HM.out.alloc _) ?_ rfl _ _ _ rfl rfl (keyOf_int_mk Tryz.underlying3 (wf_i64' (x := y.atom) hy1)) ?_ y [] (readW_enc y) ?_; (· unfold maxLen; omega); (· trivial); intro w3 HM3 hg3; have H3 := Lib.hid (And.intro HM3 hg3); clear HM3 hg3)
      go_roundw
      case rel => exact ⟨k + 1, _, by omega, by go_num, (below_alloc_of HB.out _).grown H3.out.2 (by simp; omega) (fun q hq => by cases hq; exact Nat.le_refl _), H3.out.1, fun b => by
        have e : whys.take (k + 1) = whys.take k ++ [y] := by rw [List.take_add_one, hg.out]; rfl
        rw [e, lookW_snoc]
        by_cases hb : y.atom = b
        · rw [if_pos hb, ← hb]; exact updK_same _ _ _
        · rw [if_neg hb, ← HF.out b]; exact updK_other _ (fun e => hb (kI_inj e).symm) _⟩
      case measure => simp [intOf]; omega
    · obtain rfl : k = lw := by omega
      rw [List.take_of_length_le (by omega)] at HF
      have hlook := whys_look HM.out ha
      rw [HF.out a] at hlook
      have hgd := fun (x y : Operand) (w : World) => guardW_zero BinOp.eql x y (lookW whys a) w
      have hgn := fun (x y : Operand) (u : Why) (w : World) => guardW_zero BinOp.neq x y u w
      have heq := fun (w : World) => eqW_zero (lookW whys a) w
      have hne := fun (u : Why) (w : World) => neW_zero u w
      by_cases h0 : lookW whys a = noWhy
      · have hd0 : decide (lookW whys a = noWhy) = true := by simp [h0]
        have H0 : Hid (lookW whys a = noWhy) := h0
        clear h0
        go_wp2_with fail
        go_ret2
        exact ⟨none, 0, 0, by rw [(HR0.out H0.out).2]; rfl, by rw [(HR0.out H0.out).1]; exact IsInts.nil_ _ _, below_trans_of HB1.out HB.out⟩
      · have hd0 : decide (lookW whys a = noWhy) = false := by simp [h0]
        have H0 : Hid (¬ lookW whys a = noWhy) := h0
        clear h0
        have HPV : Hid (∀ j, wr.cell? ⟨w.heap.size, j, none⟩ = (#[.int .i64 N, .slice on ln cn, .slice os ls cs, .slice or lr cr, .slice om lm cm] : Array Value)[j]?) := fun j => (HB.out.cell (p := ⟨w.heap.size, j, none⟩) (by show w.heap.size < _; omega)).trans (HOC.out j)
        have HWV : Hid (Below w.heap.size w wr) := below_trans_of HB1.out HB.out
        obtain ⟨V, hV⟩ : ∃ V, V = wr := ⟨_, rfl⟩
        subst hV
        have HLook : Hid (∀ b, f (kI b) = lookW whys b) := HF
        clear HF
        have hsv : w.heap.size < V.heap.size := by omega
        have HOk0 : Hid (OutOk whys m [a]) := by
          have := lookW_mem H0.out
          exact ⟨by simp, fun z hz => by rw [List.mem_singleton.1 hz]; exact H0.out, fun z hz => by rw [List.mem_singleton.1 hz, ← this.2]; exact HMem.out _ this.1⟩
        have HO0 := Lib.hid (own_one V a ha)
        go_wp2_with fail
        clear hlook heq hd0
        go_loopw [15, 16] (fun out at_ wr => ∃ (q n : Nat) (oL : Option Addr) (cL : Nat) (L : List Int), q ≤ n ∧ at_ = .int .i64 q ∧ out = .slice oL n cL ∧ n ≤ 4000 ∧ Hid (OwnI wr V.heap.size oL n cL L) ∧ Hid (OutOk whys m L) ∧ Hid (Below V.heap.size V wr) ∧
            Hid (suppGo whys rules (m.length + 1) 0 [a] = suppGo whys rules (m.length + 1 - q) q L)) (fun _ at_ _ => m.length - (intOf at_).toNat)
        case atStart => exact ⟨0, 1, _, _, [a], by omega, rfl, rfl, by omega, HO0.out, HOk0.out, below_alloc V _, rfl⟩
        case round =>
          obtain ⟨q, n, oL, cL, L, hq, rfl, rfl, hn4, HL, HOk, HBV, HGo⟩ := hrel
          have hll := HL.out.2.1
          by_cases hlt : q < n
          · obtain ⟨b, off, x, rfl, hc, hx1, hx2, hd, hg⟩ := HL.out.ints.at_ hlt
            have hxm := List.mem_of_getElem? hg.out
            have hqm : q < m.length := by have := nodup_length L m HOk.out.nodup HOk.out.sub; omega
            have hym := lookW_mem (HOk.out.look x hxm)
            obtain ⟨⟨ya, yr, yl⟩, hyE⟩ : ∃ y', y' = lookW whys x := ⟨_, rfl⟩
            have HyE := Lib.hid hyE
            rw [← hyE] at hym
            have hyb := HNB.out _ hym.1
            simp only [badWhy, Bool.or_eq_false_iff, decide_eq_false_iff_not] at hyb
            obtain ⟨⟨⟨⟨_, _⟩, hyr0⟩, hyr1⟩, hyl⟩ := hyb
            obtain ⟨rn, rfl⟩ := Int.eq_ofNat_of_zero_le (show 0 ≤ yr by omega)
            have hlr : rn < lr := by omega
            have e1 : (0 : Int) ≤ rn := by omega
            have e2 : (rn : Int) < lr := by omega
            have hlk := whys_look (HM.out.below HBV.out hsb) (x := x) ⟨hx1, hx2⟩
            rw [HLook.out x, ← hyE] at hlk
            have hlk' : (Instr.lookup 93 (.map (some w1.heap.size)) (.int .i64 x) false).run Tryz.prog wr = .ok (.agg #[.int .i64 ya, .int .i64 rn, .int .i64 yl]) wr := hlk
            obtain ⟨b', off', r, oh, lh, ch, ob, lb, cb, ow', lw', cw', rfl, hb', c0, c1, c2, c3, c4, c5, i1, i2, i3, i4, hdr, hgr⟩ := (h.rules.below HWV.out).at_ hlr
            have d4 := (HBV.out.cell (p := ⟨b', off' + rn * 6 + 4, none⟩) hb').trans c4
            have hb'' : b' < wr.heap.size := Nat.lt_of_lt_of_le hb' HBV.out.size
            have hpr : ∀ j, wr.cell? ⟨w.heap.size, j, none⟩ = (#[.int .i64 N, .slice on ln cn, .slice os ls cs, .slice (some ⟨b', off', none⟩) lr cr, .slice om lm cm] : Array Value)[j]? := fun j => (HBV.out.cell (p := ⟨w.heap.size, j, none⟩) hsv).trans (HPV.out j)
            have hsr : w.heap.size < wr.heap.size := Nat.lt_of_lt_of_le hsv HBV.out.size
            have HI2 := Lib.hid i2
            have Hgr := Lib.hid (show (rules.getD (lookW whys x).rule.toNat default).body = r.body by
              rw [← HyE.out]; simp [List.getD, hgr.out])
            have H64b := i2.hmax
            have Hym := Lib.hid hym
            clear hym hyE hlk c0 c1 c2 c3 c4 c5 i1 i2 i3 i4 hyr0 hyr1 hll
            obtain ⟨W, hW⟩ : ∃ W, W = wr := ⟨_, rfl⟩
            subst hW
            have HLW := Lib.hid (HL.out.below (below_alloc W (.cells #[.int .i64 ya, .int .i64 rn, .int .i64 yl] 49)))
            have hbW : (W.alloc (.cells #[.int .i64 ya, .int .i64 rn, .int .i64 yl] 49)).heap[W.heap.size]? = some (.cells #[.int .i64 ya, .int .i64 rn, .int .i64 yl] 49 (0, 0)) := heap_alloc_new W _
            have HbW := Lib.hid hbW
            clear hbW
            go_wp2_with fail
            clear hlk' d4 hpr
            go_loopw [15, 75] (fun out i wr => ∃ (j n2 : Nat) (oL2 : Option Addr) (cL2 : Nat) (L2 : List Int), j ≤ lb ∧ i = .int .i64 j ∧ out = .slice oL2 n2 cL2 ∧ n2 ≤ 4000 ∧ q + 1 ≤ n2 ∧ Hid (OwnI wr V.heap.size oL2 n2 cL2 L2) ∧ Hid (OutOk whys m L2) ∧ Hid (Below V.heap.size V wr) ∧
                W.heap.size < wr.heap.size ∧ Hid (wr.heap[W.heap.size]? = some (.cells #[.int .i64 ya, .int .i64 rn, .int .i64 yl] 49 (0, 0))) ∧ Hid (bodyGo whys yl L r.body = bodyGo whys yl L2 (r.body.drop j))) (fun _ i _ => lb - (intOf i).toNat)
            case atStart => exact ⟨0, n, _, cL, L, Nat.zero_le _, rfl, rfl, hn4, hlt, HLW.out, HOk.out, HBV.out.alloc HBV.out.size _, by simp, HbW.out, rfl⟩
            case round =>
              clear HL HLW HbW HOk
              obtain ⟨j, n2, oL2, cL2, L2, hj, rfl, rfl, hn2, hqn, HL, HOk, HBW, hsW, HbW, HBo⟩ := hrel
              have hlen2 := HL.out.2.1
              by_cases hlt2 : j < lb
              · obtain ⟨bb, oo, z, rfl, hcz, hz1, hz2, hdz, hgz⟩ := (HI2.out.below HBW.out).at_ hlt2
                obtain ⟨⟨va, vr, vl⟩, hvE⟩ : ∃ y', y' = lookW whys z := ⟨_, rfl⟩
                have HvE := Lib.hid hvE
                have hlk := whys_look (HM.out.below HBW.out hsb) (x := z) ⟨hz1, hz2⟩
                rw [HLook.out z, ← hvE] at hlk
                have hlk' : (Instr.lookup 93 (.map (some w1.heap.size)) (.int .i64 z) false).run Tryz.prog wr = .ok (.agg #[.int .i64 va, .int .i64 vr, .int .i64 vl]) wr := hlk
                have hne' : ∀ W, (binOp BinOp.neq 49 (.agg #[.int .i64 va, .int .i64 vr, .int .i64 vl]) (.agg #[.int .i64 0, .int .i64 0, .int .i64 0])).run Tryz.prog W = .ok (.bool (!decide ((⟨va, vr, vl⟩ : Why) = noWhy))) W := fun W => neW_zero ⟨va, vr, vl⟩ W
                have hgn' : ∀ x y W, (eqGuard BinOp.neq 49 x y (.agg #[.int .i64 va, .int .i64 vr, .int .i64 vl]) (.agg #[.int .i64 0, .int .i64 0, .int .i64 0])).run Tryz.prog W = .ok () W := fun x y W => guardW_zero BinOp.neq x y ⟨va, vr, vl⟩ W
                have hbx : ∀ o, wr.cell? ⟨W.heap.size, o, none⟩ = (#[.int .i64 ya, .int .i64 rn, .int .i64 yl] : Array Value)[o]? := (cells_of_heap HbW.out).1
                have Hgo : Hid (bodyGo whys yl L r.body = bodyGo whys yl (if (⟨va, vr, vl⟩ : Why) ≠ noWhy ∧ vl < yl ∧ inB L2 z = false then L2 ++ [z] else L2) (r.body.drop (j + 1))) := by
                  rw [Hid, HBo.out, hdz.out, bodyGo, ← HvE.out]
                clear hvE hlk HBo hne hgn
                have HCon := Lib.hid (fun d => contains_any ((wr.alloc (.cells #[.int .i64 va, .int .i64 vr, .int .i64 vl] 49)).drewN d) oL2 n2 cL2 L2 z ((HL.out.ints.alloc _).drewN d))
                have HLa := Lib.hid (HL.out.below (below_alloc_of (below_alloc wr (.cells #[.int .i64 va, .int .i64 vr, .int .i64 vl] 49)) (.cells #[.int .i64 z] 3)))
                by_cases hv0 : (⟨va, vr, vl⟩ : Why) = noWhy
                · have hd0 : decide ((⟨va, vr, vl⟩ : Why) = noWhy) = true := by simp [hv0]
                  have Hv0 := Lib.hid hv0
                  clear hv0
                  go_wp2_with fail
                  go_roundw
                  case rel => exact ⟨j + 1, n2, _, cL2, L2, by omega, by go_num, rfl, hn2, hqn, HL.out.below (below_alloc _ _), HOk.out, HBW.out.alloc HBW.out.size _, by simp; omega, by rw [Hid, heap_alloc, if_neg (by omega)]; exact HbW.out, by rw [Hid, Hgo.out, if_neg (fun c => c.1 Hv0.out)]⟩
                  case measure => simp [intOf]; omega
                · have hd0 : decide ((⟨va, vr, vl⟩ : Why) = noWhy) = false := by simp [hv0]
                  have Hv0 : Hid (¬ (⟨va, vr, vl⟩ : Why) = noWhy) := hv0
                  clear hv0
                  by_cases hvl : vl < yl
                  · cases hin : inB L2 z
                    · have Hin := Lib.hid hin
                      have HCo := Lib.hid (HCon.out 0)
                      go_wp2_with (first
                        | (go_at_call 57; refine (HCo.out).mono ?_; rw [Hin.out]; rintro e w4 ⟨rfl, d4, rfl⟩)
                        | (at_builtin; refine wpList_append_int rfl _ _ rfl V.heap.size _ _ _ L2 z rfl ((HL.out.below (below_alloc _ _)).below (below_alloc_of (below_drewN _ _) _)) ⟨_, 0, none⟩ 1 rfl ?_ ⟨hz1, hz2⟩ (by omega) ?_ ?_))
                      · have e : wr.heap.size + 1 = ((wr.alloc (.cells #[.int .i64 va, .int .i64 vr, .int .i64 vl] 49)).drewN d4).heap.size := by show _ = (wr.alloc _).heap.size; rw [World.size_alloc]
                        rw [e]
                        exact cell_new _ _ _ 0
                      · have := HBW.out.size
                        have h2 : V.heap.size ≤ wr.heap.size := this
                        simp; omega
                      intro oa' cap' w5 hown5 hg5
                      have Hok5 : Hid (OutOk whys m (L2 ++ [z])) := HOk.out.add HMem.out (by rw [← HvE.out]; exact Hv0.out) Hin.out
                      have hlen5 := nodup_length _ m Hok5.out.nodup Hok5.out.sub
                      rw [List.length_append, List.length_singleton, hlen2] at hlen5
                      have HL5 := Lib.hid hown5
                      have hb5 : Below V.heap.size V w5 := ((below_drewN_of (HBW.out.alloc HBW.out.size _) _).alloc (Nat.le_trans HBW.out.size (by simp)) _).grown hg5 (Nat.le_trans HBW.out.size (by simp; omega)) (fun g hg => (HL.out.1.lt g hg).1)
                      have HB5 := Lib.hid hb5
                      have hs5 : W.heap.size < w5.heap.size := by have := hg5.size; simp at this; omega
                      have hx5 : w5.heap[W.heap.size]? = some (.cells #[.int .i64 ya, .int .i64 rn, .int .i64 yl] 49 (0, 0)) := by
                        rw [hg5.block W.heap.size (by simp; omega) (fun e => own_ne_block HL.out.1 HbW.out (by decide) e.symm), heap_alloc, if_neg (by show ¬ W.heap.size = (wr.alloc _).heap.size; rw [World.size_alloc]; omega)]
                        show (wr.alloc _).heap[_]? = _
                        rw [heap_alloc, if_neg (by omega)]; exact HbW.out
                      have Hx5 := Lib.hid hx5
                      clear hown5 hg5 hb5 hx5
                      go_wp2_with fail
                      go_roundw
                      case rel => exact ⟨j + 1, n2 + 1, oa', cap', L2 ++ [z], by omega, by go_num, rfl, by omega, by omega, HL5.out, Hok5.out, HB5.out, hs5, Hx5.out, by rw [Hid, Hgo.out, if_pos ⟨Hv0.out, hvl, Hin.out⟩]⟩
                      case measure => simp [intOf]; omega
                    · have Hin := Lib.hid hin
                      have HCo := Lib.hid (HCon.out 0)
                      go_wp2_with (go_at_call 57; refine (HCo.out).mono ?_; rw [Hin.out]; rintro e w4 ⟨rfl, d4, rfl⟩)
                      go_roundw
                      case rel => exact ⟨j + 1, n2, _, cL2, L2, by omega, by go_num, rfl, hn2, hqn, HL.out.below (below_drewN_of (below_alloc _ _) _), HOk.out, below_drewN_of (HBW.out.alloc HBW.out.size _) _, by simp; omega, by rw [Hid]; show (wr.alloc _).heap[_]? = _; rw [heap_alloc, if_neg (by omega)]; exact HbW.out, by rw [Hid, Hgo.out, if_neg (fun c => by rw [Hin.out] at c; cases c.2.2)]⟩
                      case measure => simp [intOf]; omega
                  · go_wp2_with fail
                    go_roundw
                    case rel => exact ⟨j + 1, n2, _, cL2, L2, by omega, by go_num, rfl, hn2, hqn, HL.out.below (below_alloc _ _), HOk.out, HBW.out.alloc HBW.out.size _, by simp; omega, by rw [Hid, heap_alloc, if_neg (by omega)]; exact HbW.out, by rw [Hid, Hgo.out, if_neg (fun c => hvl c.2.1)]⟩
                    case measure => simp [intOf]; omega
              · have HBe : Hid (bodyGo whys yl L r.body = L2) := by rw [Hid, HBo.out, List.drop_eq_nil_of_le (by rw [HI2.out.hlen]; omega)]; rfl
                clear HBo
                go_wp2_with fail
                go_roundw
                case rel => exact ⟨q + 1, n2, oL2, cL2, L2, hqn, by go_num, rfl, hn2, HL.out, HOk.out, HBW.out, by
                  rw [Hid, HGo.out, show m.length + 1 - q = (m.length + 1 - (q + 1)) + 1 by omega, suppGo_step hg.out, Hgr.out, ← HyE.out, HBe.out]⟩
                case measure => simp [intOf]; omega
          · have HEnd : Hid (suppGo whys rules (m.length + 1) 0 [a] = L) := by rw [Hid, HGo.out, suppGo_end (by omega)]
            clear HGo hll
            go_wp2_with fail
            refine (sort_own _ _ _ _ _ _ HL.out).mono ?_
            rintro e w4 ⟨rfl, hs4, hg4⟩
            have HS4 := Lib.hid hs4
            have HB4 : Hid (Below w.heap.size w w4) := below_trans_of HWV.out (HBV.out.grown hg4 HBV.out.size (fun g hg => (HL.out.1.lt g hg).1))
            clear hs4 hg4
            go_wp2_with fail
            go_ret2
            exact ⟨oL, n, cL, by rw [(HR1.out H0.out).2]; rfl, by rw [(HR1.out H0.out).1, HEnd.out]; exact HS4.out.ints, HB4.out⟩

theorem support_any (w : World) (p : GProg) (n : Int) (on : Option Addr) (ln cn : Nat) (os : Option Addr) (ls cs : Nat) (or : Option Addr) (lr cr : Nat) (om : Option Addr) (lm cm : Nat)
    (oa : Option Addr) (len cap : Nat) (m : List Int) (ow : Option Addr) (lw cw : Nat) (oe : Option Addr) (le ce : Nat) (x : Expl) (a : Int) (ha : I64 a)
    (h : IsProg w n on ln os ls or lr om lm p) (hm : IsInts w oa len m) (hx : IsExpl w ow lw oe le x) (hbig : le + lw ≤ 17592186044416) :
    Calls Tryz.prog 16 #[.agg #[.int .i64 n, .slice on ln cn, .slice os ls cs, .slice or lr cr, .slice om lm cm], .slice oa len cap, .agg #[.slice ow lw cw, .slice oe le ce], .int .i64 a] w
      (RetList w (supportL p m x a) (supportErr p m x a)) := by
  cases hc : checkB p m x
  · have hb := support_bad w p n on ln cn os ls cs or lr cr om lm cm oa len cap m ow lw cw oe le ce x a h hm hx hbig hc
    by_cases he : explainErr p m = 0
    · have hv : validB p m x = false := by simpa [checkB, he] using hc
      have e1 : supportErr p m x a = 2 := by simp [supportErr, he, hv]
      have e2 : supportL p m x a = [] := by simp [supportL, e1]
      rw [e1, e2]
      simpa [he] using hb
    · have e1 : supportErr p m x a = explainErr p m := by simp [supportErr, he]
      have e2 : supportL p m x a = [] := by simp [supportL, e1, he]
      rw [e1, e2]
      simpa [he] using hb
  · obtain ⟨he, hv, _, _⟩ := check_parts hc
    obtain ⟨hn0, _, _, _⟩ := explain_ok he
    obtain ⟨pn, names, shown, rules, mins⟩ := p
    obtain ⟨whys, rest⟩ := x
    have hn := h.hn
    simp only at hn hn0
    subst hn
    obtain ⟨N, rfl⟩ := Int.eq_ofNat_of_zero_le hn0
    refine support_good w N names shown rules mins on ln cn os ls cs or lr cr om lm cm oa len cap m ow lw cw oe le ce whys rest a ha h hm hx hbig hc _ _ (fun h0 => ?_) (fun h0 => ?_)
    · have e1 : supportErr ⟨N, names, shown, rules, mins⟩ m ⟨whys, rest⟩ a = 6 := by simp [supportErr, he, hv, h0]
      exact ⟨by simp [supportL, e1], e1⟩
    · have e1 : supportErr ⟨N, names, shown, rules, mins⟩ m ⟨whys, rest⟩ a = 0 := by simp [supportErr, he, hv, h0]
      exact ⟨by simp [supportL, e1], e1⟩
end Go.Proofs.YtaemfafnmhndiaaGreatDoor
namespace Go.Proofs.YtaemfafnmhndiaaGreatDoor
open Go.RowKit

theorem whys_of_heap {W : World} {b len : Nat} {l : List Why} {cs : Array Value} {T : TypeId} {fr : Nat × Nat} (h : W.heap[b]? = some (.cells cs T fr)) (hl : l.length = len) (hm : len ≤ 1000) (hcs : cs.toList = l.flatMap cellsW) (hr : ∀ x ∈ l, I64 x.atom ∧ I64 x.rule ∧ I64 x.level) : IsWhys W (some ⟨b, 0, none⟩) len l := by
  refine ⟨hl, by omega, fun _ => ⟨b, 0, rfl, heap_lt h, fun i x hx => ⟨cellsW x, rfl, ⟨rfl, hr x (List.mem_of_getElem? hx)⟩, fun j hj => ?_⟩⟩⟩
  have hf := flat_at cellsW 3 l (fun _ _ => rfl) i j x hx hj
  rw [← hcs, Array.getElem?_toList] at hf
  rw [Nat.zero_add]
  have : W.cell? ⟨b, i * 3 + j, none⟩ = cs[i * 3 + j]? := by simp [World.cell?, h]
  rw [this, hf]
theorem blks_of_heap {W : World} {b len : Nat} {l : List Blk} {cs : Array Value} {T : TypeId} {fr : Nat × Nat} (h : W.heap[b]? = some (.cells cs T fr)) (hl : l.length = len) (hm : len ≤ 1000) (hcs : cs.toList = l.flatMap cellsB) (hr : ∀ x ∈ l, I64 x.rule ∧ (0 ≤ x.kind ∧ x.kind ≤ 255) ∧ I64 x.lit) : IsBlks W (some ⟨b, 0, none⟩) len l := by
  refine ⟨hl, by omega, fun _ => ⟨b, 0, rfl, heap_lt h, fun i x hx => ⟨cellsB x, rfl, ⟨rfl, hr x (List.mem_of_getElem? hx)⟩, fun j hj => ?_⟩⟩⟩
  have hf := flat_at cellsB 3 l (fun _ _ => rfl) i j x hx hj
  rw [← hcs, Array.getElem?_toList] at hf
  rw [Nat.zero_add]
  have : W.cell? ⟨b, i * 3 + j, none⟩ = cs[i * 3 + j]? := by simp [World.cell?, h]
  rw [this, hf]

section
variable (W : World) (on or : Option Addr) (oa : Option Addr) (ca : Nat) (ow : Option Addr) (lw cw : Nat) (oe : Option Addr) (le ce : Nat)
abbrev exArg (on or : Option Addr) : Value := .agg #[.int .i64 6, .slice on 6 6, .slice none 0 0, .slice or 5 5, .slice none 0 0]
theorem exExplain (hp : IsProg W 6 on 6 none 0 or 5 none 0 exProg) (hm : IsInts W oa 3 exM) : Calls Tryz.prog 14 #[exArg on or, .slice oa 3 ca] W (RetExpl W exX 0) := by
  have := explain_any W exProg 6 on 6 6 none 0 0 or 5 5 none 0 0 oa 3 ca exM hp hm
  rw [ex_err, if_pos rfl, ex_expl] at this
  exact this
theorem exCheck (hp : IsProg W 6 on 6 none 0 or 5 none 0 exProg) (hm : IsInts W oa 3 exM) (hx : IsExpl W ow lw oe le exX) :
    Calls Tryz.prog 15 #[exArg on or, .slice oa 3 ca, .agg #[.slice ow lw cw, .slice oe le ce]] W fun e w' => e = .returned (.tuple #[.bool true, .int .i64 0]) ∧ Below W.heap.size W w' := by
  have h1 : 3 = lw := hx.whys.hlen
  have h2 : 0 = le := hx.rest.hlen
  have := check_any W exProg 6 on 6 6 none 0 0 or 5 5 none 0 0 oa 3 ca exM ow lw cw oe le ce exX hp hm hx (by omega)
  rw [ex_check, ex_err] at this
  exact this
theorem exSupport (hp : IsProg W 6 on 6 none 0 or 5 none 0 exProg) (hm : IsInts W oa 3 exM) (hx : IsExpl W ow lw oe le exX) :
    Calls Tryz.prog 16 #[exArg on or, .slice oa 3 ca, .agg #[.slice ow lw cw, .slice oe le ce], .int .i64 5] W (RetList W exM 0) := by
  have h1 : 3 = lw := hx.whys.hlen
  have h2 : 0 = le := hx.rest.hlen
  have := support_any W exProg 6 on 6 6 none 0 0 or 5 5 none 0 0 oa 3 ca exM ow lw cw oe le ce exX 5 (by decide) hp hm hx (by omega)
  rw [ex_supp, ex_serr] at this
  exact this
theorem exBlocks (a : Int) (l : List Blk) (h1 : blocksErr exProg exM a = 0) (h2 : blocksL exProg exM a = l) (hp : IsProg W 6 on 6 none 0 or 5 none 0 exProg) (hm : IsInts W oa 3 exM) :
    Calls Tryz.prog 17 #[exArg on or, .slice oa 3 ca, .int .i64 a] W (RetBlks W l 0) := by
  have := blocks_any W exProg 6 on 6 6 none 0 0 or 5 5 none 0 0 oa 3 ca exM a hp hm
  rw [h1, h2] at this
  exact this
theorem exExplainNil (hp : IsProg W 6 on 6 none 0 or 5 none 0 exProg) : Calls Tryz.prog 14 #[exArg on or, .slice none 0 0] W (RetExpl W ⟨[], []⟩ 410) := by
  have := explain_any W exProg 6 on 6 6 none 0 0 or 5 5 none 0 0 none 0 0 [] hp (IsInts.nil_ _ _)
  rw [ex_nil, if_neg (by decide)] at this
  exact this
theorem ex2Explain (hp : IsProg W 2 on 2 none 0 or 3 none 0 ex2Prog) (hm : IsInts W oa 2 [1, 2]) : Calls Tryz.prog 14 #[.agg #[.int .i64 2, .slice on 2 2, .slice none 0 0, .slice or 3 3, .slice none 0 0], .slice oa 2 ca] W (RetExpl W ⟨[], [1, 2]⟩ 0) := by
  have := explain_any W ex2Prog 2 on 2 2 none 0 0 or 3 3 none 0 0 oa 2 ca [1, 2] hp hm
  rw [ex2_err, if_pos rfl, ex2_expl] at this
  exact this
theorem exTextAt (hp : IsProg W 6 on 6 none 0 or 5 none 0 exProg) (hx : IsExpl W ow lw oe le exX) (ht : Tab W) :
    Calls Tryz.prog 18 #[exArg on or, .agg #[.slice ow lw cw, .slice oe le ce]] W fun e w' => e = .returned (.string exText) ∧ Below W.heap.size W w' := by
  have h1 : 3 = lw := hx.whys.hlen
  have h2 : 0 = le := hx.rest.hlen
  have := text_any W 6 exProg.names on 6 6 none 0 0 or 5 5 none 0 0 ow lw cw oe le ce exX.whys exX.rest hp.names hx ht (fun s hs => by rw [(List.mem_replicate.1 hs).2]; decide) (by omega) (by omega)
  rw [show (⟨exX.whys, exX.rest⟩ : Expl) = exX from rfl, ex_text] at this
  exact this
theorem same_yes (x : Expl) (ow2 : Option Addr) (lw2 cw2 : Nat) (or2 : Option Addr) (lr2 cr2 : Nat) (hx : IsExpl W ow lw oe le x) (hy : IsExpl W ow2 lw2 or2 lr2 x) :
    Calls Tryz.prog 20 #[.agg #[.slice ow lw cw, .slice oe le ce], .agg #[.slice ow2 lw2 cw2, .slice or2 lr2 cr2]] W fun e w' => e = .returned (.bool true) ∧ Below W.heap.size W w' := by
  have := same_any W ow lw cw oe le ce x ow2 lw2 cw2 or2 lr2 cr2 x hx hy
  rwa [decide_eq_true rfl] at this
theorem ints_yes (a : List Int) (ob : Option Addr) (la ca lb cb : Nat) (ha : IsInts W oa la a) (hb : IsInts W ob lb a) :
    Calls Tryz.prog 23 #[.slice oa la ca, .slice ob lb cb] W fun e w' => e = .returned (.bool true) ∧ Below W.heap.size W w' := by
  have := ints_any W oa la ca a ob lb cb a ha hb
  rwa [decide_eq_true rfl] at this
theorem blks_yes (a : List Blk) (ob : Option Addr) (la ca lb cb : Nat) (ha : IsBlks W oa la a) (hb : IsBlks W ob lb a) :
    Calls Tryz.prog 25 #[.slice oa la ca, .slice ob lb cb] W fun e w' => e = .returned (.bool true) ∧ Below W.heap.size W w' := by
  have := lblocks_any W oa la ca a ob lb cb a ha hb
  rwa [decide_eq_true rfl] at this
end

set_option maxRecDepth 100000 in
set_option maxHeartbeats 8000000 in
theorem awake_any (w : World) (ht : Tab w) : Calls Tryz.prog 12 #[] w fun e w' => e = .returned (.bool true) ∧ Below w.heap.size w w' := by
  have HT := Lib.hid ht
  clear ht
  go_enter Tryz.func12, Tryz.ntmps12
  go_wp2_with fail
  refine (example_any _).mono ?_
  rintro e w1 ⟨on, or, rfl, hp1, hb1⟩
  have HP1 := Lib.hid hp1
  have HB1 := Lib.hid hb1
  clear hp1 hb1
  go_wp2_with fail
  have hmA : ∀ W, Below (w1.heap.size + 1 + 1) ((w1.alloc (.cells #[.int .i64 1, .int .i64 3, .int .i64 5] 3)).alloc (.cells #[.int .i64 6, .slice on 6 6, .slice none 0 0, .slice or 5 5, .slice none 0 0] 27)) W → IsInts W (some ⟨w1.heap.size, 0, none⟩) 3 exM := fun W hW =>
    ints_of_heap (cs := #[.int .i64 1, .int .i64 3, .int .i64 5]) (T := 3) (fr := (0, 0)) ((hW.block w1.heap.size (by omega)).trans (by simp only [heap_alloc, World.size_alloc]; (repeat (first | rw [if_pos trivial] | rw [if_pos (by omega)] | rw [if_neg (by omega)])))) rfl (by omega) rfl (by decide)
  have HMA := Lib.hid hmA
  clear hmA
  refine (exExplain _ on or _ _ (HP1.out.below (below_alloc_of (below_alloc w1 _) _)) (HMA.out _ (Below.refl _ _))).mono ?_
  rintro e w2 ⟨ow, lw, cw, oe, le, ce, rfl, hx2, hb2⟩
  have HX2 := Lib.hid hx2
  have HB2 : Hid (Below w1.heap.size w1 w2) := below_trans_of (below_alloc_of (below_alloc w1 _) _) hb2
  have HM2 : Hid (IsInts w2 (some ⟨w1.heap.size, 0, none⟩) 3 exM) := HMA.out _ (hb2.mono (by simp))
  have hs2 : w1.heap.size + 2 ≤ w2.heap.size := by have := hb2.size; simp at this; omega
  have hq2 : w1.heap.size + 1 < w2.heap.size := by omega
  have hpc2 : ∀ j, w2.cell? ⟨w1.heap.size + 1, j, none⟩ = (#[.int .i64 6, .slice on 6 6, .slice none 0 0, .slice or 5 5, .slice none 0 0] : Array Value)[j]? := fun j => (oldCell hb2 (w1.heap.size + 1) j (by simp)).trans (by simp only [World.cell?, heap_alloc, World.size_alloc]; (repeat (first | rw [if_pos trivial] | rw [if_pos (by omega)] | rw [if_neg (by omega)])); rfl)
  clear hx2 hb2 HMA
  go_wp2_with fail

  have Hpc2 := Lib.hid hpc2
  refine (exCheck _ on or _ _ ow lw cw oe le ce (HP1.out.below (below_trans_of HB2.out (below_alloc w2 _))) (HM2.out.below (below_alloc w2 _)) (HX2.out.below (below_alloc w2 _))).mono ?_
  rintro e w3 ⟨rfl, hb3⟩
  have HB3 : Hid (Below w2.heap.size w2 w3) := below_trans_of (below_alloc w2 _) hb3
  have hpc3 : ∀ j, w3.cell? ⟨w1.heap.size + 1, j, none⟩ = (#[.int .i64 6, .slice on 6 6, .slice none 0 0, .slice or 5 5, .slice none 0 0] : Array Value)[j]? := fun j => (HB3.out.cell (p := ⟨w1.heap.size + 1, j, none⟩) (by show w1.heap.size + 1 < _; omega)).trans (Hpc2.out j)
  have hxc3 : ∀ j, w3.cell? ⟨w2.heap.size, j, none⟩ = (#[.slice ow lw cw, .slice oe le ce] : Array Value)[j]? := fun j => (oldCell hb3 w2.heap.size j (by simp)).trans (by simp)
  have hs3 : w2.heap.size + 1 ≤ w3.heap.size := by have := hb3.size; first | omega | (simp only [World.size_alloc] at this; omega)
  clear hb3 hpc2
  go_wp2_with fail
  refine (exSupport _ on or _ _ ow lw cw oe le ce (HP1.out.below (below_trans_of HB2.out HB3.out)) (HM2.out.below HB3.out) (HX2.out.below HB3.out)).mono ?_
  rintro e w4 ⟨o4, l4, c4, rfl, hv4, hb4⟩
  have HB4 : Hid (Below w2.heap.size w2 w4) := below_trans_of HB3.out hb4
  have hpc4 : ∀ j, w4.cell? ⟨w1.heap.size + 1, j, none⟩ = (#[.int .i64 6, .slice on 6 6, .slice none 0 0, .slice or 5 5, .slice none 0 0] : Array Value)[j]? := fun j => (HB4.out.cell (p := ⟨w1.heap.size + 1, j, none⟩) (by show w1.heap.size + 1 < _; omega)).trans (Hpc2.out j)
  have hxc4 : ∀ j, w4.cell? ⟨w2.heap.size, j, none⟩ = (#[.slice ow lw cw, .slice oe le ce] : Array Value)[j]? := fun j => (oldCell hb4 w2.heap.size j (by omega)).trans (hxc3 j)
  have hs4 : w2.heap.size + 1 ≤ w4.heap.size := by have := hb4.size; first | omega | (simp only [World.size_alloc] at this; omega)
  have HV4 := Lib.hid hv4
  clear hb4 hv4 hpc3 hxc3
  go_wp2_with fail
  refine (exBlocks _ on or _ _ 4 _ ex_b4 ex_l4 (HP1.out.below (below_trans_of HB2.out HB4.out)) (HM2.out.below HB4.out)).mono ?_
  rintro e w5 ⟨o5, l5, c5, rfl, hv5, hb5⟩
  have HB5 : Hid (Below w2.heap.size w2 w5) := below_trans_of HB4.out hb5
  have hpc5 : ∀ j, w5.cell? ⟨w1.heap.size + 1, j, none⟩ = (#[.int .i64 6, .slice on 6 6, .slice none 0 0, .slice or 5 5, .slice none 0 0] : Array Value)[j]? := fun j => (HB5.out.cell (p := ⟨w1.heap.size + 1, j, none⟩) (by show w1.heap.size + 1 < _; omega)).trans (Hpc2.out j)
  have hxc5 : ∀ j, w5.cell? ⟨w2.heap.size, j, none⟩ = (#[.slice ow lw cw, .slice oe le ce] : Array Value)[j]? := fun j => (oldCell hb5 w2.heap.size j (by omega)).trans (hxc4 j)
  have hs5 : w2.heap.size + 1 ≤ w5.heap.size := by have := hb5.size; first | omega | (simp only [World.size_alloc] at this; omega)
  have HV4 := Lib.hid (HV4.out.below hb5)
  have HV5 := Lib.hid hv5
  clear hb5 hv5 hpc4 hxc4
  go_wp2_with fail
  refine (exBlocks _ on or _ _ 2 _ ex_b2 ex_l2 (HP1.out.below (below_trans_of HB2.out HB5.out)) (HM2.out.below HB5.out)).mono ?_
  rintro e w6 ⟨o6, l6, c6, rfl, hv6, hb6⟩
  have HB6 : Hid (Below w2.heap.size w2 w6) := below_trans_of HB5.out hb6
  have hpc6 : ∀ j, w6.cell? ⟨w1.heap.size + 1, j, none⟩ = (#[.int .i64 6, .slice on 6 6, .slice none 0 0, .slice or 5 5, .slice none 0 0] : Array Value)[j]? := fun j => (HB6.out.cell (p := ⟨w1.heap.size + 1, j, none⟩) (by show w1.heap.size + 1 < _; omega)).trans (Hpc2.out j)
  have hxc6 : ∀ j, w6.cell? ⟨w2.heap.size, j, none⟩ = (#[.slice ow lw cw, .slice oe le ce] : Array Value)[j]? := fun j => (oldCell hb6 w2.heap.size j (by omega)).trans (hxc5 j)
  have hs6 : w2.heap.size + 1 ≤ w6.heap.size := by have := hb6.size; first | omega | (simp only [World.size_alloc] at this; omega)
  have HV4 := Lib.hid (HV4.out.below hb6)
  have HV5 := Lib.hid (HV5.out.below hb6)
  have HV6 := Lib.hid hv6
  clear hb6 hv6 hpc5 hxc5
  go_wp2_with fail
  refine (exBlocks _ on or _ _ 6 _ ex_b6 ex_l6 (HP1.out.below (below_trans_of HB2.out HB6.out)) (HM2.out.below HB6.out)).mono ?_
  rintro e w7 ⟨o7, l7, c7, rfl, hv7, hb7⟩
  have HB7 : Hid (Below w2.heap.size w2 w7) := below_trans_of HB6.out hb7
  have hpc7 : ∀ j, w7.cell? ⟨w1.heap.size + 1, j, none⟩ = (#[.int .i64 6, .slice on 6 6, .slice none 0 0, .slice or 5 5, .slice none 0 0] : Array Value)[j]? := fun j => (HB7.out.cell (p := ⟨w1.heap.size + 1, j, none⟩) (by show w1.heap.size + 1 < _; omega)).trans (Hpc2.out j)
  have hxc7 : ∀ j, w7.cell? ⟨w2.heap.size, j, none⟩ = (#[.slice ow lw cw, .slice oe le ce] : Array Value)[j]? := fun j => (oldCell hb7 w2.heap.size j (by omega)).trans (hxc6 j)
  have hs7 : w2.heap.size + 1 ≤ w7.heap.size := by have := hb7.size; first | omega | (simp only [World.size_alloc] at this; omega)
  have HV4 := Lib.hid (HV4.out.below hb7)
  have HV5 := Lib.hid (HV5.out.below hb7)
  have HV6 := Lib.hid (HV6.out.below hb7)
  have HV7 := Lib.hid hv7
  obtain rfl : 0 = l7 := hv7.hlen
  clear hb7 hv7 hpc6 hxc6
  go_wp2_with fail
  refine (exExplainNil _ on or (HP1.out.below (below_trans_of HB2.out HB7.out))).mono ?_
  rintro e w8 ⟨o8, l8, c8, p8, q8, r8, rfl, hv8, hb8⟩
  have HB8 : Hid (Below w2.heap.size w2 w8) := below_trans_of HB7.out hb8
  have hpc8 : ∀ j, w8.cell? ⟨w1.heap.size + 1, j, none⟩ = (#[.int .i64 6, .slice on 6 6, .slice none 0 0, .slice or 5 5, .slice none 0 0] : Array Value)[j]? := fun j => (HB8.out.cell (p := ⟨w1.heap.size + 1, j, none⟩) (by show w1.heap.size + 1 < _; omega)).trans (Hpc2.out j)
  have hxc8 : ∀ j, w8.cell? ⟨w2.heap.size, j, none⟩ = (#[.slice ow lw cw, .slice oe le ce] : Array Value)[j]? := fun j => (oldCell hb8 w2.heap.size j (by omega)).trans (hxc7 j)
  have hs8 : w2.heap.size + 1 ≤ w8.heap.size := by have := hb8.size; first | omega | (simp only [World.size_alloc] at this; omega)
  have HV4 := Lib.hid (HV4.out.below hb8)
  have HV5 := Lib.hid (HV5.out.below hb8)
  have HV6 := Lib.hid (HV6.out.below hb8)
  clear hb8 hv8 hpc7 hxc7
  go_wp2_with fail
  obtain ⟨W9, hW9⟩ : ∃ W9, W9 = ((((((w8.alloc (.cells #[.slice o8 l8 c8, .slice p8 q8 r8] 30)).alloc (.cells #[.int .i64 1, .int .i64 2] 3)).alloc (.cells #[.int .i64 1] 3)).alloc (.cells #[.int .i64 2] 3)).alloc (.cells #[.int .i64 2] 3)).alloc (.cells #[.int .i64 1] 3)).alloc (.cells #[.bool false, .slice (some ⟨w8.heap.size + 1, 0, none⟩) 2 2, .bool false, .int .i64 0, .slice none 0 0, .slice none 0 0, .bool false, .slice (some ⟨w8.heap.size + 1 + 1, 0, none⟩) 1 1, .bool false, .int .i64 0, .slice (some ⟨w8.heap.size + 1 + 1 + 1, 0, none⟩) 1 1, .slice none 0 0, .bool false, .slice (some ⟨w8.heap.size + 1 + 1 + 1 + 1, 0, none⟩) 1 1, .bool false, .int .i64 0, .slice (some ⟨w8.heap.size + 1 + 1 + 1 + 1 + 1, 0, none⟩) 1 1, .slice none 0 0] 60) := ⟨_, rfl⟩
  have hW9s : W9.heap.size = w8.heap.size + 7 := by rw [hW9]; simp
  have hW9b : Below w8.heap.size w8 W9 := by rw [hW9]; exact below_alloc_of (below_alloc_of (below_alloc_of (below_alloc_of (below_alloc_of (below_alloc_of (below_alloc w8 _) _) _) _) _) _) _
  rw [← hW9]
  refine (with_any _ 2 (by omega) _ _ _).mono ?_
  rintro e w9 ⟨g9, rfl, hg9, hz9, hb9⟩
  have hs9 := hb9.size
  have q1 : IsInts w9 (some ⟨w8.heap.size + 1, 0, none⟩) 2 [1, 2] := ints_of_heap (cs := #[.int .i64 1, .int .i64 2]) (T := 3) (fr := (0, 0)) ((hb9.block (w8.heap.size + 1) (by omega)).trans (by rw [hW9]; exact (by simp only [heap_alloc, World.size_alloc]; (repeat (first | rw [if_pos trivial] | rw [if_pos (by omega)] | rw [if_neg (by omega)]))))) rfl (by omega) rfl (by decide)
  have q2 : IsInts w9 (some ⟨w8.heap.size + 1 + 1, 0, none⟩) 1 [1] := ints_of_heap (cs := #[.int .i64 1]) (T := 3) (fr := (0, 0)) ((hb9.block (w8.heap.size + 1 + 1) (by omega)).trans (by rw [hW9]; exact (by simp only [heap_alloc, World.size_alloc]; (repeat (first | rw [if_pos trivial] | rw [if_pos (by omega)] | rw [if_neg (by omega)]))))) rfl (by omega) rfl (by decide)
  have q3 : IsInts w9 (some ⟨w8.heap.size + 1 + 1 + 1, 0, none⟩) 1 [2] := ints_of_heap (cs := #[.int .i64 2]) (T := 3) (fr := (0, 0)) ((hb9.block (w8.heap.size + 1 + 1 + 1) (by omega)).trans (by rw [hW9]; exact (by simp only [heap_alloc, World.size_alloc]; (repeat (first | rw [if_pos trivial] | rw [if_pos (by omega)] | rw [if_neg (by omega)]))))) rfl (by omega) rfl (by decide)
  have q4 : IsInts w9 (some ⟨w8.heap.size + 1 + 1 + 1 + 1, 0, none⟩) 1 [2] := ints_of_heap (cs := #[.int .i64 2]) (T := 3) (fr := (0, 0)) ((hb9.block (w8.heap.size + 1 + 1 + 1 + 1) (by omega)).trans (by rw [hW9]; exact (by simp only [heap_alloc, World.size_alloc]; (repeat (first | rw [if_pos trivial] | rw [if_pos (by omega)] | rw [if_neg (by omega)]))))) rfl (by omega) rfl (by decide)
  have q5 : IsInts w9 (some ⟨w8.heap.size + 1 + 1 + 1 + 1 + 1, 0, none⟩) 1 [1] := ints_of_heap (cs := #[.int .i64 1]) (T := 3) (fr := (0, 0)) ((hb9.block (w8.heap.size + 1 + 1 + 1 + 1 + 1) (by omega)).trans (by rw [hW9]; exact (by simp only [heap_alloc, World.size_alloc]; (repeat (first | rw [if_pos trivial] | rw [if_pos (by omega)] | rw [if_neg (by omega)]))))) rfl (by omega) rfl (by decide)
  have hr9 : IsRules w9 (some ⟨w8.heap.size + 1 + 1 + 1 + 1 + 1 + 1, 0, none⟩) 3 ex2Rules := rules_of_heap (es := [[.bool false, .slice (some ⟨w8.heap.size + 1, 0, none⟩) 2 2, .bool false, .int .i64 0, .slice none 0 0, .slice none 0 0], [.bool false, .slice (some ⟨w8.heap.size + 1 + 1, 0, none⟩) 1 1, .bool false, .int .i64 0, .slice (some ⟨w8.heap.size + 1 + 1 + 1, 0, none⟩) 1 1, .slice none 0 0], [.bool false, .slice (some ⟨w8.heap.size + 1 + 1 + 1 + 1, 0, none⟩) 1 1, .bool false, .int .i64 0, .slice (some ⟨w8.heap.size + 1 + 1 + 1 + 1 + 1, 0, none⟩) 1 1, .slice none 0 0]]) (cs := #[.bool false, .slice (some ⟨w8.heap.size + 1, 0, none⟩) 2 2, .bool false, .int .i64 0, .slice none 0 0, .slice none 0 0, .bool false, .slice (some ⟨w8.heap.size + 1 + 1, 0, none⟩) 1 1, .bool false, .int .i64 0, .slice (some ⟨w8.heap.size + 1 + 1 + 1, 0, none⟩) 1 1, .slice none 0 0, .bool false, .slice (some ⟨w8.heap.size + 1 + 1 + 1 + 1, 0, none⟩) 1 1, .bool false, .int .i64 0, .slice (some ⟨w8.heap.size + 1 + 1 + 1 + 1 + 1, 0, none⟩) 1 1, .slice none 0 0]) (T := 60) (fr := (0, 0)) ((hb9.block (w8.heap.size + 1 + 1 + 1 + 1 + 1 + 1) (by omega)).trans (by rw [hW9]; exact (by simp only [heap_alloc, World.size_alloc]; (repeat (first | rw [if_pos trivial] | rw [if_pos (by omega)] | rw [if_neg (by omega)]))))) rfl (by omega) rfl rfl (fun i r e hr he => by
      match i, hr, he with
      | 0, hr, he => cases hr; cases he; exact ⟨rfl, rule_lit q1 (IsInts.nil_ _ _) (IsInts.nil_ _ _) (by decide)⟩
      | 1, hr, he => cases hr; cases he; exact ⟨rfl, rule_lit q2 q3 (IsInts.nil_ _ _) (by decide)⟩
      | 2, hr, he => cases hr; cases he; exact ⟨rfl, rule_lit q4 q5 (IsInts.nil_ _ _) (by decide)⟩
      | n + 3, hr, _ => simp [ex2Rules] at hr) (by simp)
  have HP9 : Hid (IsProg w9 2 (some ⟨g9, 0, none⟩) 2 none 0 (some ⟨w8.heap.size + 1 + 1 + 1 + 1 + 1 + 1, 0, none⟩) 3 none 0 ex2Prog) := ⟨rfl, (by decide : I64 2), strs_of_heap hz9 (by omega), IsInts.nil_ _ _, hr9, ⟨rfl, by omega, fun h => absurd h (by omega)⟩⟩
  have HC9 : Hid (Below w8.heap.size w8 w9) := below_trans_of hW9b hb9
  clear q1 q2 q3 q4 q5 hr9 hW9 hW9b hb9 hz9 hg9 hW9s
  go_wp2_with fail
  have HM9 : Hid (IsInts (w9.alloc (.cells #[.int .i64 1, .int .i64 2] 3)) (some ⟨w9.heap.size, 0, none⟩) 2 [1, 2]) := ints_of_heap (cs := #[.int .i64 1, .int .i64 2]) (T := 3) (fr := (0, 0)) (heap_alloc_new _ _) rfl (by omega) rfl (by decide)
  refine (ex2Explain _ _ _ _ _ (HP9.out.below (below_alloc w9 _)) HM9.out).mono ?_
  rintro e w10 ⟨oy, ly, cy, py, qy, ry, rfl, hv10, hb10⟩
  have hd10 : Below w8.heap.size w8 w10 := below_trans_of HC9.out (below_trans_of (below_alloc w9 _) hb10)
  have HY10 := Lib.hid hv10
  have HB10 : Hid (Below w2.heap.size w2 w10) := below_trans_of HB8.out hd10
  have hpc10 : ∀ j, w10.cell? ⟨w1.heap.size + 1, j, none⟩ = (#[.int .i64 6, .slice on 6 6, .slice none 0 0, .slice or 5 5, .slice none 0 0] : Array Value)[j]? := fun j => (HB10.out.cell (p := ⟨w1.heap.size + 1, j, none⟩) (by show w1.heap.size + 1 < _; omega)).trans (Hpc2.out j)
  have hxc10 : ∀ j, w10.cell? ⟨w2.heap.size, j, none⟩ = (#[.slice ow lw cw, .slice oe le ce] : Array Value)[j]? := fun j => (oldCell hd10 w2.heap.size j (by omega)).trans (hxc8 j)
  have hs10 : w2.heap.size + 1 ≤ w10.heap.size := by have := hd10.size; omega
  have hr10 : w2.heap.size < w10.heap.size := by omega
  have hr10' : w1.heap.size + 1 < w10.heap.size := by omega
  have hr11 : w2.heap.size < w10.heap.size + 1 := by omega
  have hr12 : w2.heap.size < w10.heap.size + 1 + 1 := by omega
  have hr13 : w1.heap.size + 1 < w10.heap.size + 1 := by omega
  have hr14 : w1.heap.size + 1 < w10.heap.size + 1 + 1 := by omega
  have HV4 := Lib.hid (HV4.out.below hd10)
  have HV5 := Lib.hid (HV5.out.below hd10)
  have HV6 := Lib.hid (HV6.out.below hd10)
  clear hv10 hb10 hd10 hpc8 hxc8
  go_wp2_with fail
  obtain ⟨W11, hW11⟩ : ∃ W11, W11 = ((w10.alloc (.cells #[.slice oy ly cy, .slice py qy ry] 30)).alloc (.cells #[.int .i64 1, .int .i64 0, .int .i64 1, .int .i64 3, .int .i64 1, .int .i64 2, .int .i64 5, .int .i64 2, .int .i64 3] 49)).alloc (.cells #[.slice (some ⟨w10.heap.size + 1, 0, none⟩) 3 3, .slice none 0 0] 30) := ⟨_, rfl⟩
  rw [← hW11]
  have hd11 : Below w10.heap.size w10 W11 := by rw [hW11]; exact below_alloc_of (below_alloc_of (below_alloc w10 _) _) _
  have hx11 : IsExpl W11 (some ⟨w10.heap.size + 1, 0, none⟩) 3 none 0 exX := ⟨whys_of_heap (T := 49) (fr := (0, 0)) (cs := #[.int .i64 1, .int .i64 0, .int .i64 1, .int .i64 3, .int .i64 1, .int .i64 2, .int .i64 5, .int .i64 2, .int .i64 3]) (by rw [hW11]; exact (by simp only [heap_alloc, World.size_alloc]; (repeat (first | rw [if_pos trivial] | rw [if_pos (by omega)] | rw [if_neg (by omega)])))) rfl (by omega) rfl (by decide), IsInts.nil_ _ _⟩
  have hyb11 : ∀ j, W11.cell? ⟨w10.heap.size, j, none⟩ = (#[.slice oy ly cy, .slice py qy ry] : Array Value)[j]? := fun j => by rw [hW11]; exact (by simp only [World.cell?, heap_alloc, World.size_alloc]; (repeat (first | rw [if_pos trivial] | rw [if_pos (by omega)] | rw [if_neg (by omega)])); rfl)
  have hs11' : W11.heap.size = w10.heap.size + 3 := by rw [hW11]; simp
  refine (same_yes W11 ow lw cw oe le ce exX _ _ _ _ _ _ ((HX2.out.below HB10.out).below hd11) hx11).mono ?_
  rintro e w11 ⟨rfl, hb11⟩
  have hd11' := below_trans_of hd11 hb11
  have HB11 : Hid (Below w2.heap.size w2 w11) := below_trans_of HB10.out hd11'
  have hs11 : w10.heap.size + 3 ≤ w11.heap.size := by have := (hd11').size; have := hb11.size; first | omega | (simp only [World.size_alloc] at this; omega)
  have hpc11 : ∀ j, w11.cell? ⟨w1.heap.size + 1, j, none⟩ = (#[.int .i64 6, .slice on 6 6, .slice none 0 0, .slice or 5 5, .slice none 0 0] : Array Value)[j]? := fun j => (HB11.out.cell (p := ⟨w1.heap.size + 1, j, none⟩) (by show w1.heap.size + 1 < _; omega)).trans (Hpc2.out j)
  have hxc11 : ∀ j, w11.cell? ⟨w2.heap.size, j, none⟩ = (#[.slice ow lw cw, .slice oe le ce] : Array Value)[j]? := fun j => (oldCell (hd11') w2.heap.size j (by omega)).trans (hxc10 j)
  have hyc11 : ∀ j, w11.cell? ⟨w10.heap.size, j, none⟩ = (#[.slice oy ly cy, .slice py qy ry] : Array Value)[j]? := fun j => (oldCell hb11 w10.heap.size j (by omega)).trans (hyb11 j)
  have he11 : w2.heap.size < w11.heap.size := by omega
  have hf11 : w1.heap.size + 1 < w11.heap.size := by omega
  have hg11 : w10.heap.size < w11.heap.size := by omega
  have HV4 := Lib.hid (HV4.out.below hd11')
  have HV5 := Lib.hid (HV5.out.below hd11')
  have HV6 := Lib.hid (HV6.out.below hd11')
  have HY10 := Lib.hid (HY10.out.below hd11')
  clear hW11 hd11 hx11 hyb11 hs11' hb11 hd11' hpc10 hxc10 hr10 hr10' hr11 hr12 hr13 hr14
  go_wp2_with fail
  refine (ints_yes _ _ exM _ _ _ _ _ HV4.out (HM2.out.below HB11.out)).mono ?_
  rintro e w12 ⟨rfl, hb12⟩
  have hd12 : Below w11.heap.size w11 w12 := hb12
  have HB12 : Hid (Below w2.heap.size w2 w12) := below_trans_of HB11.out hd12
  have hs12 : w10.heap.size + 3 ≤ w12.heap.size := by have := (hd12).size; have := hb12.size; first | omega | (simp only [World.size_alloc] at this; omega)
  have hpc12 : ∀ j, w12.cell? ⟨w1.heap.size + 1, j, none⟩ = (#[.int .i64 6, .slice on 6 6, .slice none 0 0, .slice or 5 5, .slice none 0 0] : Array Value)[j]? := fun j => (HB12.out.cell (p := ⟨w1.heap.size + 1, j, none⟩) (by show w1.heap.size + 1 < _; omega)).trans (Hpc2.out j)
  have hxc12 : ∀ j, w12.cell? ⟨w2.heap.size, j, none⟩ = (#[.slice ow lw cw, .slice oe le ce] : Array Value)[j]? := fun j => (oldCell (hd12) w2.heap.size j (by omega)).trans (hxc11 j)
  have hyc12 : ∀ j, w12.cell? ⟨w10.heap.size, j, none⟩ = (#[.slice oy ly cy, .slice py qy ry] : Array Value)[j]? := fun j => (oldCell hd12 w10.heap.size j (by omega)).trans (hyc11 j)
  have he12 : w2.heap.size < w12.heap.size := by omega
  have hf12 : w1.heap.size + 1 < w12.heap.size := by omega
  have hg12 : w10.heap.size < w12.heap.size := by omega
  have HV5 := Lib.hid (HV5.out.below hd12)
  have HV6 := Lib.hid (HV6.out.below hd12)
  have HY10 := Lib.hid (HY10.out.below hd12)
  clear hb12 hd12 hpc11 hxc11 hyc11
  go_wp2_with fail
  refine (blks_yes _ _ [⟨2, 3, 5⟩] _ _ _ _ _ (HV5.out.below (below_alloc w12 _)) (blks_of_heap (len := 1) (T := 65) (fr := (0, 0)) (cs := #[.int .i64 2, .int .u8 3, .int .i64 (5)]) (heap_alloc_new _ _) rfl (by omega) rfl (by decide))).mono ?_
  rintro e w13 ⟨rfl, hb13⟩
  have hd13 : Below w12.heap.size w12 w13 := below_trans_of (below_alloc w12 _) hb13
  have HB13 : Hid (Below w2.heap.size w2 w13) := below_trans_of HB12.out hd13
  have hs13 : w10.heap.size + 3 ≤ w13.heap.size := by have := (hd13).size; have := hb13.size; first | omega | (simp only [World.size_alloc] at this; omega)
  have hpc13 : ∀ j, w13.cell? ⟨w1.heap.size + 1, j, none⟩ = (#[.int .i64 6, .slice on 6 6, .slice none 0 0, .slice or 5 5, .slice none 0 0] : Array Value)[j]? := fun j => (HB13.out.cell (p := ⟨w1.heap.size + 1, j, none⟩) (by show w1.heap.size + 1 < _; omega)).trans (Hpc2.out j)
  have hxc13 : ∀ j, w13.cell? ⟨w2.heap.size, j, none⟩ = (#[.slice ow lw cw, .slice oe le ce] : Array Value)[j]? := fun j => (oldCell (hd13) w2.heap.size j (by omega)).trans (hxc12 j)
  have hyc13 : ∀ j, w13.cell? ⟨w10.heap.size, j, none⟩ = (#[.slice oy ly cy, .slice py qy ry] : Array Value)[j]? := fun j => (oldCell hd13 w10.heap.size j (by omega)).trans (hyc12 j)
  have he13 : w2.heap.size < w13.heap.size := by omega
  have hf13 : w1.heap.size + 1 < w13.heap.size := by omega
  have hg13 : w10.heap.size < w13.heap.size := by omega
  have HV6 := Lib.hid (HV6.out.below hd13)
  have HY10 := Lib.hid (HY10.out.below hd13)
  clear hb13 hd13 hpc12 hxc12 hyc12
  go_wp2_with fail
  refine (blks_yes _ _ [⟨4, 1, -1⟩] _ _ _ _ _ (HV6.out.below (below_alloc w13 _)) (blks_of_heap (len := 1) (T := 65) (fr := (0, 0)) (cs := #[.int .i64 4, .int .u8 1, .int .i64 (-1)]) (heap_alloc_new _ _) rfl (by omega) rfl (by decide))).mono ?_
  rintro e w14 ⟨rfl, hb14⟩
  have hd14 : Below w13.heap.size w13 w14 := below_trans_of (below_alloc w13 _) hb14
  have HB14 : Hid (Below w2.heap.size w2 w14) := below_trans_of HB13.out hd14
  have hs14 : w10.heap.size + 3 ≤ w14.heap.size := by have := (hd14).size; have := hb14.size; first | omega | (simp only [World.size_alloc] at this; omega)
  have hpc14 : ∀ j, w14.cell? ⟨w1.heap.size + 1, j, none⟩ = (#[.int .i64 6, .slice on 6 6, .slice none 0 0, .slice or 5 5, .slice none 0 0] : Array Value)[j]? := fun j => (HB14.out.cell (p := ⟨w1.heap.size + 1, j, none⟩) (by show w1.heap.size + 1 < _; omega)).trans (Hpc2.out j)
  have hxc14 : ∀ j, w14.cell? ⟨w2.heap.size, j, none⟩ = (#[.slice ow lw cw, .slice oe le ce] : Array Value)[j]? := fun j => (oldCell (hd14) w2.heap.size j (by omega)).trans (hxc13 j)
  have hyc14 : ∀ j, w14.cell? ⟨w10.heap.size, j, none⟩ = (#[.slice oy ly cy, .slice py qy ry] : Array Value)[j]? := fun j => (oldCell hd14 w10.heap.size j (by omega)).trans (hyc13 j)
  have he14 : w2.heap.size < w14.heap.size := by omega
  have hf14 : w1.heap.size + 1 < w14.heap.size := by omega
  have hg14 : w10.heap.size < w14.heap.size := by omega
  have HY10 := Lib.hid (HY10.out.below hd14)
  clear hb14 hd14 hpc13 hxc13 hyc13
  go_wp2_with fail
  refine (same_yes _ oy ly cy py qy ry ⟨[], [1, 2]⟩ none 0 0 _ 2 2 (HY10.out.below (below_alloc w14 _)) ⟨⟨rfl, by omega, fun h => absurd h (by omega)⟩, ints_of_heap (len := 2) (T := 3) (fr := (0, 0)) (cs := #[.int .i64 1, .int .i64 2]) (heap_alloc_new _ _) rfl (by omega) rfl (by decide)⟩).mono ?_
  rintro e w15 ⟨rfl, hb15⟩
  have hd15 : Below w14.heap.size w14 w15 := below_trans_of (below_alloc w14 _) hb15
  have HB15 : Hid (Below w2.heap.size w2 w15) := below_trans_of HB14.out hd15
  have hs15 : w10.heap.size + 3 ≤ w15.heap.size := by have := (hd15).size; have := hb15.size; first | omega | (simp only [World.size_alloc] at this; omega)
  have hpc15 : ∀ j, w15.cell? ⟨w1.heap.size + 1, j, none⟩ = (#[.int .i64 6, .slice on 6 6, .slice none 0 0, .slice or 5 5, .slice none 0 0] : Array Value)[j]? := fun j => (HB15.out.cell (p := ⟨w1.heap.size + 1, j, none⟩) (by show w1.heap.size + 1 < _; omega)).trans (Hpc2.out j)
  have hxc15 : ∀ j, w15.cell? ⟨w2.heap.size, j, none⟩ = (#[.slice ow lw cw, .slice oe le ce] : Array Value)[j]? := fun j => (oldCell (hd15) w2.heap.size j (by omega)).trans (hxc14 j)
  have hyc15 : ∀ j, w15.cell? ⟨w10.heap.size, j, none⟩ = (#[.slice oy ly cy, .slice py qy ry] : Array Value)[j]? := fun j => (oldCell hd15 w10.heap.size j (by omega)).trans (hyc14 j)
  have he15 : w2.heap.size < w15.heap.size := by omega
  have hf15 : w1.heap.size + 1 < w15.heap.size := by omega
  have hg15 : w10.heap.size < w15.heap.size := by omega
  clear hb15 hd15 hpc14 hxc14 hyc14
  go_wp2_with fail
  refine (exTextAt _ on or ow lw cw oe le ce (HP1.out.below (below_trans_of HB2.out HB15.out)) (HX2.out.below HB15.out) (HT.out.below (below_trans_of HB1.out (below_trans_of HB2.out HB15.out)))).mono ?_
  rintro e w16 ⟨rfl, hb16⟩
  have HB16 : Hid (Below w.heap.size w w16) := below_trans_of (below_trans_of HB1.out (below_trans_of HB2.out HB15.out)) hb16
  clear hb16 hpc15 hxc15 hyc15
  unfold exText
  go_wp2_with fail
  go_ret
  exact ⟨rfl, HB16.out⟩
end Go.Proofs.YtaemfafnmhndiaaGreatDoor
namespace Go.Proofs.YtaemfafnmhndiaaGreatDoor
open Go.RowKit

set_option maxRecDepth 100000 in
set_option maxHeartbeats 2000000 in
theorem lin_any (w : World) (oa : Option Addr) (la ca : Nat) (a : List Int) (ob : Option Addr) (lb cb : Nat) (b : List Int) (ha : IsInts w oa la a) (hb : IsInts w ob lb b) :
    Calls Tryz.prog 29 #[.slice oa la ca, .slice ob lb cb] w fun e w' => e = .returned (.bool (a.all (inB b))) ∧ ∃ m, w' = w.drewN m := by
  have La := Lib.hid ha.hlen
  have Lb := Lib.hid hb.hlen
  have M1 := ha.hmax
  have M2 := hb.hmax
  go_enter Tryz.func29, Tryz.ntmps29
  go_wp2_with fail
  go_loop [12] (fun i => ∃ k : Nat, k ≤ la ∧ i = .int .i64 k ∧ Hid (a.all (inB b) = (a.drop k).all (inB b))) (fun i => la - (intOf i).toNat)
  case atStart => exact ⟨0, Nat.zero_le _, rfl, rfl⟩
  case round =>
    obtain ⟨k, hk, rfl, hno⟩ := hrel
    by_cases hlt : k < la
    · obtain ⟨b1, o1, x, rfl, hc, _, _, hd, _⟩ := ha.at_ hlt
      have Hgo : Hid (a.all (inB b) = (inB b x && (a.drop (k + 1)).all (inB b))) := by rw [Hid, hno.out, hd.out]; rfl
      clear hno
      go_wp2_with fail
      go_loop [7, 18] (fun f i => ∃ (q : Nat) (F : Bool), q ≤ lb ∧ i = .int .i64 q ∧ f = .bool F ∧ Hid (inB b x = (F || inB (b.drop q) x))) (fun _ i => lb - (intOf i).toNat)
      case atStart => exact ⟨0, false, Nat.zero_le _, rfl, rfl, by simp [Hid]⟩
      case round =>
        obtain ⟨q, F, hq, rfl, rfl, hno⟩ := hrel
        by_cases hlt2 : q < lb
        · obtain ⟨b2, o2, y, rfl, hc', _, _, hd', _⟩ := hb.at_ hlt2
          have Hg : Hid (inB b x = (F || (decide (y = x) || inB (b.drop (q + 1)) x))) := by
            rw [Hid, hno.out, hd'.out, inB]; by_cases h : y = x <;> simp [h]
          clear hno
          cases F
          · by_cases hxy : x = y
            · subst hxy
              go_wp2_with fail
              go_round
              case rel => exact ⟨q + 1, true, by omega, by go_num, rfl, by rw [Hid, Hg.out]; simp⟩
              case measure => simp [intOf]; omega
            · have hne : (x == y) = false := by simpa using hxy
              go_wp2_with fail
              go_round
              case rel => exact ⟨q + 1, false, by omega, by go_num, rfl, by rw [Hid, Hg.out, decide_eq_false (fun e => hxy e.symm)]; simp⟩
              case measure => simp [intOf]; omega
          · go_wp2_with fail
            go_round
            case rel => exact ⟨q + 1, true, by omega, by go_num, rfl, by rw [Hid, Hg.out]; simp⟩
            case measure => simp [intOf]; omega
        · have HF : Hid (inB b x = F) := by rw [Hid, hno.out, List.drop_eq_nil_of_le (by rw [Lb.out]; omega)]; simp [inB]
          clear hno
          cases F
          · go_wp2_with fail
            go_ret
            exact ⟨by rw [Hgo.out, HF.out]; rfl, 0, rfl⟩
          · go_wp2_with fail
            go_round
            case rel => exact ⟨k + 1, by omega, by go_num, by rw [Hid, Hgo.out, HF.out]; simp⟩
            case measure => simp [intOf]; omega
    · go_wp2_with fail
      go_ret
      exact ⟨by rw [hno.out, List.drop_eq_nil_of_le (by rw [La.out]; omega)]; rfl, 0, rfl⟩
end Go.Proofs.YtaemfafnmhndiaaGreatDoor
namespace Go.Proofs.YtaemfafnmhndiaaGreatDoor
open Go.RowKit

theorem blkGo_step_no {m : List Int} {a i : Int} {r : GRule} {l : List GRule} (h : inB r.head a = false) : blkGo m a i (r :: l) = blkGo m a (i + 1) l := by simp [blkGo, h]
theorem blkGo_step_yes {m : List Int} {a i : Int} {r : GRule} {l : List GRule} (h : inB r.head a = true) : blkGo m a i (r :: l) = ⟨i, blockK r m, blockL r m⟩ :: blkGo m a (i + 1) l := by simp [blkGo, h]
theorem check_ok {p : GProg} {m : List Int} (hv : validErr p = 0) (hm : m.Pairwise (· < ·)) (hi : ∀ x ∈ m, 1 ≤ x ∧ x ≤ p.n) : checkErr p m = 0 := by
  unfold checkErr
  rw [if_neg (by simp [hv]), atomsGo_of p.n m none hi hm (by simp)]
  rfl
theorem explain_models {p : GProg} {m : List Int} (h : checkErr p m = 0) : explainErr p m = if modelsB p m = false then 410 else 0 := by
  unfold explainErr
  cases e : modelsB p m <;> simp [h]
theorem valid_n {p : GProg} (hv : validErr p = 0) : 0 ≤ p.n ∧ p.n ≤ 4000 ∧ p.rules.length ≤ 40000 := by
  unfold validErr at hv
  split at hv
  · omega
  · split at hv
    · omega
    · omega

/-- The atom of the head, or the literal of the body, that a block names. -/
theorem head_hit {r : GRule} {m : List Int} (hb : bodyB (inB m) r = true) (hc : r.choice = false) (hs : satB (inB m) r = true) : inB r.head (blockL r m) = true ∧ inB m (blockL r m) = true := by
  have hany : r.head.any (inB m) = true := by simpa [satB, hb, hc] using hs
  obtain ⟨i, x, hx, hf, hi, hp⟩ := first_hit hany
  have e : blockL r m = x := by simp [blockL, hb, hc, hf, List.getD, hx]
  rw [e]
  exact ⟨(inB_iff _ _).2 (List.mem_of_getElem? hx), hp⟩
theorem body_hit {r : GRule} {m : List Int} (hb : bodyB (inB m) r = false) (hs : r.sum = false) : inB r.body (blockL r m) = true ∧ holdsB (inB m) (blockL r m) = false := by
  have hany : r.body.any (fun x => !holdsB (inB m) x) = true := by
    have : r.body.all (holdsB (inB m)) = false := by simpa [bodyB, hs] using hb
    rw [List.all_eq_not_any_not] at this
    simpa using this
  obtain ⟨i, x, hx, hf, hi, hp⟩ := first_hit hany
  have e : blockL r m = x := by simp [blockL, hb, hs, hf, List.getD, hx]
  rw [e]
  exact ⟨(inB_iff _ _).2 (List.mem_of_getElem? hx), by simpa using hp⟩
theorem one_in {l : List Int} {x : Int} (h : inB l x = true) : [x].all (inB l) = true := by simp [h]
theorem lit_at {W : World} {b : Nat} (hb : b = W.heap.size) {x : Int} (hx : I64 x) (T : TypeId) : IsInts (W.alloc (.cells #[.int .i64 x] T)) (some ⟨b, 0, none⟩) 1 [x] :=
  IsInts.fresh hb rfl (by omega) rfl (fun y hy => by rw [List.mem_singleton.1 hy]; exact hx)
theorem lit_row (W : World) (x : Int) (hx : I64 x) (T : TypeId) : IsInts (W.alloc (.cells #[.int .i64 x] T)) (some ⟨W.heap.size, 0, none⟩) 1 [x] :=
  IsInts.fresh rfl rfl (by omega) rfl (fun y hy => by rw [List.mem_singleton.1 hy]; exact hx)
theorem heap_drewN (W : World) (d : Nat) : (W.drewN d).heap = W.heap := rfl
theorem ok_lit {B : Int} (h : DLit B) (h0 : B ≠ 0) : OkBody ⟨false, [], false, 0, [B], []⟩ ∧ OkLits ⟨false, [], false, 0, [B], []⟩ :=
  ⟨⟨fun x hx => by rw [List.mem_singleton.1 hx]; exact h, fun e => by simp at e, fun e => by simp at e, fun e => by simp at e⟩, ⟨by simp, fun x hx => by rw [List.mem_singleton.1 hx]; exact h0⟩⟩
theorem body_lit (q : Int → Bool) (B : Int) : bodyB q ⟨false, [], false, 0, [B], []⟩ = holdsB q B := by simp [bodyB]
end Go.Proofs.YtaemfafnmhndiaaGreatDoor
namespace Go.Proofs.YtaemfafnmhndiaaGreatDoor
open Go.RowKit Go.Maps Go.WideMaps Go.Sort

set_option maxRecDepth 100000 in
set_option maxHeartbeats 8000000 in
theorem lawB_idle (w : World) (p : GProg) (n : Int) (on : Option Addr) (ln cn : Nat) (os : Option Addr) (ls cs : Nat) (or : Option Addr) (lr cr : Nat) (om : Option Addr) (lm cm : Nat) (bits at_ : Int)
    (h : IsProg w n on ln os ls or lr om lm p) (ht : Tab w) (hc : fewB p = false ∨ validErr p ≠ 0 ∨ n = 0) :
    Calls Tryz.prog 6 #[.agg #[.int .i64 n, .slice on ln cn, .slice os ls cs, .slice or lr cr, .slice om lm cm], .int .u16 bits, .int .u8 at_] w fun e w' => e = .returned (.bool true) ∧ Below w.heap.size w w' := by
  have HT := Lib.hid ht
  have HW0 : Hid (Below w.heap.size w (w.alloc (.cells #[.int .i64 n, .slice on ln cn, .slice os ls cs, .slice or lr cr, .slice om lm cm] 27))) := below_alloc w _
  clear ht
  cases hf : fewB p
  · have Hf := Lib.hid hf
    clear hc hf
    go_enter Tryz.func6, Tryz.ntmps6
    go_wp2_with fail
    refine (few_any _ _ _ _ _ _ _ _ _ _ _ _ _ _ _ (h.below HW0.out)).mono ?_
    rw [Hf.out]
    rintro e w1 ⟨rfl, hb1⟩
    have HB1 := Lib.hid (below_trans_of HW0.out hb1)
    clear hb1
    go_wp2_with fail
    refine (awake_any _ (HT.out.below HB1.out)).mono ?_
    rintro e w2 ⟨rfl, hb2⟩
    go_wp2_with fail
    go_ret
    exact ⟨rfl, below_trans_of HB1.out hb2⟩
  · have Hf := Lib.hid hf
    by_cases hv : validErr p = 0
    · have Hv := Lib.hid hv
      have hn0 : n = 0 := by rcases hc with c | c | c <;> simp_all
      subst hn0
      clear hc hf hv
      go_enter Tryz.func6, Tryz.ntmps6
      go_wp2_with fail
      refine (few_any _ _ _ _ _ _ _ _ _ _ _ _ _ _ _ (h.below HW0.out)).mono ?_
      rw [Hf.out]
      rintro e w1 ⟨rfl, hb1⟩
      have HB1 := Lib.hid (below_trans_of HW0.out hb1)
      have HX1 := Lib.hid (box_first hb1)
      have hbx1 := box_cells HX1.out
      clear hb1
      go_wp2_with fail
      refine (gvalid_any _ _ _ _ _ _ _ _ _ _ _ _ _ _ _ (h.below HB1.out)).mono ?_
      rw [Hv.out]
      rintro e w2 ⟨rfl, hb2⟩
      have HB2 := Lib.hid (below_trans_of HB1.out hb2)
      have hbx2 := box_cells (box_next HX1.out hb2)
      clear hb2 hbx1
      go_wp2_with fail
      refine (awake_any _ (HT.out.below HB2.out)).mono ?_
      rintro e w3 ⟨rfl, hb3⟩
      go_wp2_with fail
      go_ret
      exact ⟨rfl, below_trans_of HB2.out hb3⟩
    · have Hv : Hid (¬ validErr p = 0) := hv
      have hne : (validErr p != 0) = true := by simpa using hv
      clear hc hf hv
      go_enter Tryz.func6, Tryz.ntmps6
      go_wp2_with fail
      refine (few_any _ _ _ _ _ _ _ _ _ _ _ _ _ _ _ (h.below HW0.out)).mono ?_
      rw [Hf.out]
      rintro e w1 ⟨rfl, hb1⟩
      have HB1 := Lib.hid (below_trans_of HW0.out hb1)
      have hbx1 := box_cells (box_first hb1)
      clear hb1
      go_wp2_with fail
      refine (gvalid_any _ _ _ _ _ _ _ _ _ _ _ _ _ _ _ (h.below HB1.out)).mono ?_
      rintro e w2 ⟨rfl, hb2⟩
      have HB2 := Lib.hid (below_trans_of HB1.out hb2)
      clear hb2 hbx1
      go_wp2_with fail
      refine (awake_any _ (HT.out.below HB2.out)).mono ?_
      rintro e w3 ⟨rfl, hb3⟩
      go_wp2_with fail
      go_ret
      exact ⟨rfl, below_trans_of HB2.out hb3⟩
end Go.Proofs.YtaemfafnmhndiaaGreatDoor
