/- Part 5 of the proof: Explain1, Explain2, Own3, Few. Conditions: those that each theorem names. -/
import Derived.Test.YtaemfafnmhndiaaGreatDoorPb4
import Derived.Test.YtaemfafnmhndiaaGreatDoorPb2
import Derived.Laws.EntriesVeiled
import Derived.Test.YtaemfafnmhndiaaGreatDoorPb1
import Derived.Test.YtaemfafnmhndiaaGreatDoorPb3
namespace Go.Proofs.YtaemfafnmhndiaaGreatDoor
open Go.RowKit Go.Maps Go.WideMaps

def explainErr (p : GProg) (m : List Int) : Int := if checkErr p m = 0 ∧ modelsB p m = false then 410 else checkErr p m

set_option maxHeartbeats 2000000 in
theorem echeck_any (w : World) (p : GProg) (n : Int) (on : Option Addr) (ln cn : Nat) (os : Option Addr) (ls cs : Nat) (or : Option Addr) (lr cr : Nat) (om : Option Addr) (lm cm : Nat)
    (oa : Option Addr) (len cap : Nat) (m : List Int) (h : IsProg w n on ln os ls or lr om lm p) (hm : IsInts w oa len m) :
    Calls Tryz.prog 49 #[.agg #[.int .i64 n, .slice on ln cn, .slice os ls cs, .slice or lr cr, .slice om lm cm], .slice oa len cap] w
      fun e w' => e = .returned (.int .i64 (explainErr p m)) ∧ Below w.heap.size w w' := by
  go_enter Tryz.func49, Tryz.ntmps49
  go_wp2_with (go_at_call 31; refine (models_any _ _ _ _ _ _ _ _ _ _ _ _ _ _ _ _ _ _ _ (h.below ?_) (hm.below ?_)).mono ?_; (· (repeat (first | with_reducible exact Below.refl _ _ | with_reducible refine below_drewN_of ?_ _ | with_reducible refine below_alloc_of ?_ _ | with_reducible refine below_set_of ?_ _ _ _ (by simp) | with_reducible assumption | exact ⟨rfl, rfl, rfl, Nat.le_refl _, fun _ _ => rfl⟩))); (· (repeat (first | with_reducible exact Below.refl _ _ | with_reducible refine below_drewN_of ?_ _ | with_reducible refine below_alloc_of ?_ _ | with_reducible refine below_set_of ?_ _ _ _ (by simp) | with_reducible assumption | exact ⟨rfl, rfl, rfl, Nat.le_refl _, fun _ _ => rfl⟩))); rintro e w1 ⟨rfl, hb1⟩)
  all_goals (go_ret; exact ⟨ret_int (by grind [explainErr]), box_below (box_first hb1)⟩)

/-- What the deriver's closures see. -/
structure DerEnv (w : World) (Bin Bl Bm : Nat) (m lv : List Int) (om : Option Addr) (lm cm : Nat) (ol : Option Addr) (ll cl : Nat) : Prop where
  hin : w.cell? ⟨Bin, 0, none⟩ = some (.func (.func 104) #[] #[.pointer (some ⟨Bm, 0, none⟩)])
  hbm : w.cell? ⟨Bm, 0, none⟩ = some (.slice om lm cm)
  hm : IsInts w om lm m
  hs : m.Pairwise (· ≤ ·)
  hbl : w.cell? ⟨Bl, 0, none⟩ = some (.slice ol ll cl)
  hl : IsInts w ol ll lv
  hml : ∀ x ∈ m, 0 ≤ x ∧ x < ll
theorem DerEnv.below {w w' : World} {Bin Bl Bm : Nat} {m lv : List Int} {om : Option Addr} {lm cm : Nat} {ol : Option Addr} {ll cl : Nat} (h : DerEnv w Bin Bl Bm m lv om lm cm ol ll cl) (hb : Below w.heap.size w w') :
    DerEnv w' Bin Bl Bm m lv om lm cm ol ll cl :=
  ⟨(hb.cell (p := ⟨Bin, 0, none⟩) (cell_lt h.hin)).trans h.hin, (hb.cell (p := ⟨Bm, 0, none⟩) (cell_lt h.hbm)).trans h.hbm, h.hm.below hb, h.hs, (hb.cell (p := ⟨Bl, 0, none⟩) (cell_lt h.hbl)).trans h.hbl, h.hl.below hb, h.hml⟩

set_option maxHeartbeats 1000000 in
theorem der1_any (w : World) (Bm : Nat) (m : List Int) (om : Option Addr) (lm cm : Nat) (x : Int) (hbm : w.cell? ⟨Bm, 0, none⟩ = some (.slice om lm cm)) (hm : IsInts w om lm m) (hs : m.Pairwise (· ≤ ·)) :
    Calls Tryz.prog 104 #[.int .i64 x, .pointer (some ⟨Bm, 0, none⟩)] w fun e w' => e = .returned (.bool (inB m x)) ∧ Below w.heap.size w w' := by
  go_enter Tryz.func104, Tryz.ntmps104
  go_wp2_with (go_at_call 105; refine (bsearch_any _ _ _ _ _ _ hm hs).mono ?_; rintro e w1 ⟨rfl, m1, rfl⟩)
  go_ret
  exact ⟨rfl, below_drewN w _⟩

theorem DerEnv.pred {w : World} {Bin Bl Bm : Nat} {m lv : List Int} {om : Option Addr} {lm cm : Nat} {ol : Option Addr} {ll cl : Nat} (h : DerEnv w Bin Bl Bm m lv om lm cm ol ll cl) :
    FnPred Tryz.prog I64 w (.func (.func 104) #[] #[.pointer (some ⟨Bm, 0, none⟩)]) (inB m) :=
  ⟨_, _, rfl, Tryz.call104, fun W hW x _ => der1_any W Bm m om lm cm x ((hW.cell (p := ⟨Bm, 0, none⟩) (cell_lt h.hbm)).trans h.hbm) (h.hm.below hW) h.hs⟩

set_option maxHeartbeats 1000000 in
theorem der21_any (w : World) (Ba Bin : Nat) (fv : Value) (q : Int → Bool) (a x : Int) (hx : I64 x) (ha : w.cell? ⟨Ba, 0, none⟩ = some (.int .i64 a)) (hin : w.cell? ⟨Bin, 0, none⟩ = some fv) (hf : FnPred Tryz.prog I64 w fv q) :
    Calls Tryz.prog 107 #[.int .i64 x, .pointer (some ⟨Ba, 0, none⟩), .pointer (some ⟨Bin, 0, none⟩)] w fun e w' => e = .returned (.bool (x != a && q x)) ∧ Below w.heap.size w w' := by
  obtain ⟨g, lb, rfl, eg, hc⟩ := hf
  have Hc := Lib.hid hc
  clear hc
  cases hxa : (x != a)
  · go_enter Tryz.func107, Tryz.ntmps107
    go_wp2_with fail
    go_ret
    exact ⟨rfl, Below.refl _ _⟩
  · go_enter Tryz.func107, Tryz.ntmps107
    go_wp2_with (go_at_fn g; refine (Hc.out _ (Below.refl _ _) x hx).mono ?_; rintro e w1 ⟨rfl, hb1⟩)
    go_ret
    exact ⟨rfl, hb1⟩

def sumP (p : Int → Bool) : Int → List Int → List Int → Int
  | S, x :: b, w :: ws => sumP p (if p x then S + w else S) b ws
  | S, _, _ => S
/-- A literal as the deriver sees it. -/
def litD (m lv : List Int) (most x : Int) : Bool := (decide (x < 0) && !inB m (-x)) || (decide (0 < x) && inB m x && decide (1 ≤ lv.getD x.toNat 0) && decide (lv.getD x.toNat 0 ≤ most))
def derivesB (m lv : List Int) (r : GRule) (a most : Int) : Bool :=
  inB r.head a && (r.choice || !r.head.any fun b => b != a && inB m b) &&
    (if r.sum then decide (r.bound ≤ sumP (litD m lv most) 0 r.body r.w) else r.body.all (litD m lv most) && decide (r.bound ≤ 0))

set_option maxRecDepth 100000 in
set_option maxHeartbeats 4000000 in
theorem derives_any (w : World) (r : GRule) (oh : Option Addr) (lh ch : Nat) (ob : Option Addr) (lb cb : Nat) (ow : Option Addr) (lw cw : Nat) (a most : Int)
    (Bin Bl Bm : Nat) (m lv : List Int) (om : Option Addr) (lm cm : Nat) (ol : Option Addr) (ll cl : Nat)
    (hh : IsInts w oh lh r.head) (hb : IsInts w ob lb r.body) (hw : IsInts w ow lw r.w) (hr : I64 r.bound) (hok : OkBody r) (hD : ∀ x ∈ r.head, I64 x) (hE : DerEnv w Bin Bl Bm m lv om lm cm ol ll cl) :
    Calls Tryz.prog 106 #[.agg #[.bool r.choice, .slice oh lh ch, .bool r.sum, .int .i64 r.bound, .slice ob lb cb, .slice ow lw cw], .int .i64 a, .int .i64 most, .pointer (some ⟨Bin, 0, none⟩), .pointer (some ⟨Bl, 0, none⟩)] w
      fun e w' => e = .returned (.bool (derivesB m lv r a most)) ∧ Below w.heap.size w w' := by
  obtain ⟨choice, head, sum, bound, body, ws⟩ := r
  simp only at hh hb hw hr hD ⊢
  have HH := Lib.hid hD
  clear hD
  have L1 := Lib.hid hb.hlen
  have L2 := Lib.hid hw.hlen
  have M1 := hb.hmax
  obtain ⟨hr1, hr2⟩ := hr
  have hBin := cell_lt hE.hin
  have hBl := cell_lt hE.hbl
  cases g1 : inB head a
  · go_enter Tryz.func106, Tryz.ntmps106
    go_wp2_with (go_at_call 57; refine (contains_any _ _ _ _ _ _ ((hh.alloc _).alloc _)).mono ?_; rintro e w1 ⟨rfl, m1, rfl⟩)
    go_ret
    exact ⟨ret_bool (by simp [derivesB, g1]), by (repeat (first | with_reducible exact Below.refl _ _ | with_reducible refine below_drewN_of ?_ _ | with_reducible refine below_alloc_of ?_ _ | with_reducible refine below_set_of ?_ _ _ _ (by simp) | with_reducible assumption | exact ⟨rfl, rfl, rfl, Nat.le_refl _, fun _ _ => rfl⟩))⟩
  have H1 := Lib.hid hok.lits
  cases sum
  · skip
    cases choice
    · cases hcc : head.any (fun b => b != a && inB m b)
      · have HG : Hid (derivesB m lv ⟨false, head, false, bound, body, ws⟩ a most = (body.all (litD m lv most) && decide (bound ≤ 0))) := by simp [Hid, derivesB, g1, hcc]
        go_enter Tryz.func106, Tryz.ntmps106
        go_wp2_with (go_at_call 57; refine (contains_any _ _ _ _ _ _ ((hh.alloc _).alloc _)).mono ?_; rintro e w1 ⟨rfl, m1, rfl⟩)
        refine (containsFuncI_any _ _ _ _ head _ (fun x => x != a && inB m x) I64 (hh.below ?_) ⟨107, _, rfl, Tryz.call107, fun W hW x hx => ?_⟩ HH.out).mono ?_
        · (repeat (first | with_reducible exact Below.refl _ _ | with_reducible refine below_drewN_of ?_ _ | with_reducible refine below_alloc_of ?_ _ | with_reducible refine below_set_of ?_ _ _ _ (by simp) | with_reducible assumption | exact ⟨rfl, rfl, rfl, Nat.le_refl _, fun _ _ => rfl⟩))
        · have hWw : Below w.heap.size w W := below_trans_of (by (repeat (first | with_reducible exact Below.refl _ _ | with_reducible refine below_drewN_of ?_ _ | with_reducible refine below_alloc_of ?_ _ | with_reducible refine below_set_of ?_ _ _ _ (by simp) | with_reducible assumption | exact ⟨rfl, rfl, rfl, Nat.le_refl _, fun _ _ => rfl⟩))) hW
          exact der21_any W (w.heap.size + 1) Bin _ _ a x hx ((hW.cell (p := ⟨w.heap.size + 1, 0, none⟩) (by simp)).trans (by simp)) (hE.below hWw).hin (hE.below hWw).pred
        · rw [hcc]
          rintro e w2 ⟨rfl, hb2⟩
          have HB0 : Hid (Below (w.heap.size + 2) ((w.alloc (.cells #[.bool false, .slice oh lh ch, .bool false, .int .i64 bound, .slice ob lb cb, .slice ow lw cw] 60)).alloc (.cells #[.int .i64 a] 3)) w2) := Below.trans (below_drewN_of (Below.refl _ _) _) (hb2.mono (by simp))
          have hbx0 : ∀ j, w2.cell? ⟨w.heap.size, j, none⟩ = (#[.bool false, .slice oh lh ch, .bool false, .int .i64 bound, .slice ob lb cb, .slice ow lw cw] : Array Value)[j]? := fun j => (HB0.out.cell (p := ⟨w.heap.size, j, none⟩) (by simp)).trans (by rw [World.cell?_alloc_lt _ _ _ (by simp)]; simp)
          clear hb2
          go_wp2_with fail
          clear hbx0
          go_loopw [9, 32] (fun s i wr => ∃ (k : Nat) (S : Int), k ≤ lb ∧ i = .int .i64 k ∧ s = .int .i64 S ∧ S = 0 ∧ Hid (body.all (litD m lv most) = (body.drop k).all (litD m lv most)) ∧
            Hid (Below (w.heap.size + 2) ((w.alloc (.cells #[.bool false, .slice oh lh ch, .bool false, .int .i64 bound, .slice ob lb cb, .slice ow lw cw] 60)).alloc (.cells #[.int .i64 a] 3)) wr)) (fun _ i _ => lb - (intOf i).toNat)
          case atStart => exact ⟨0, 0, Nat.zero_le _, rfl, rfl, rfl, rfl, HB0.out⟩
          case round =>
            obtain ⟨k, S, hk, rfl, rfl, rfl, hno, HB⟩ := hrel
            have hbx : ∀ j, wr.cell? ⟨w.heap.size, j, none⟩ = (#[.bool false, .slice oh lh ch, .bool false, .int .i64 bound, .slice ob lb cb, .slice ow lw cw] : Array Value)[j]? := fun j => (HB.out.cell (p := ⟨w.heap.size, j, none⟩) (by simp)).trans (by rw [World.cell?_alloc_lt _ _ _ (by simp)]; simp)
            have HW := Lib.hid ((below_alloc_of (below_alloc w (.cells #[.bool false, .slice oh lh ch, .bool false, .int .i64 bound, .slice ob lb cb, .slice ow lw cw] 60)) (.cells #[.int .i64 a] 3)).trans (HB.out.mono (by omega)))
            have hsz : w.heap.size + 2 ≤ wr.heap.size := by have := HB.out.size; simpa using this
            by_cases hlt : k < lb
            · obtain ⟨b, off, y, rfl, hc, hr1, hr2, hd, hg⟩ := (hb.below HW.out).at_ hlt
              have hdl := H1.out y (List.mem_of_getElem? hg.out)
              obtain ⟨hdl1, hdl2⟩ := hdl
              have HE := Lib.hid (hE.below HW.out)
              have hcin := HE.out.hin
              have hcbl := HE.out.hbl
              have Hgo : Hid (body.all (litD m lv most) = (litD m lv most y && (body.drop (k + 1)).all (litD m lv most))) := by rw [Hid, hno.out, hd.out]; rfl
              clear hno
              by_cases hy : y < 0
              · have hlit : Hid (litD m lv most y = !inB m (-y)) := by simp [Hid, litD, hy]; omega
                go_wp2_with (go_at_call 104; refine (der1_any _ _ _ _ _ _ _ HE.out.hbm HE.out.hm HE.out.hs).mono ?_; rintro e w2 ⟨rfl, hb2⟩; have hbx2 : ∀ j, w2.cell? ⟨w.heap.size, j, none⟩ = (#[.bool false, .slice oh lh ch, .bool false, .int .i64 bound, .slice (some ⟨b, off, none⟩) lb cb, .slice ow lw cw] : Array Value)[j]? := fun j => (oldCell hb2 w.heap.size j (Nat.lt_of_lt_of_le (by omega) hsz)).trans (hbx j); have hcbl2 := (hb2.cell (p := ⟨Bl, 0, none⟩) (cell_lt hcbl)).trans hcbl; have HB2 := Lib.hid (HB.out.trans (hb2.mono hsz)); clear hb2)
                all_goals first
                  | (go_ret; exact ⟨ret_bool (by rw [HG.out, Hgo.out, hlit.out]; clear HG Hgo; grind), by first | exact below_trans_of (below_alloc_of (below_alloc w _) _) (HB2.out.mono (by simp)) | exact HW.out⟩)
                  | (go_roundw; (case rel => exact ⟨k + 1, 0, by omega, by go_num, rfl, rfl, by rw [Hid, Hgo.out, hlit.out]; clear HG Hgo; grind, by first | exact HB2.out | exact HB.out⟩); (case measure => simp [intOf]; omega))
              · by_cases hy0 : 0 < y
                · cases hiy : inB m y
                  · have hlit : Hid (litD m lv most y = false) := by simp [Hid, litD, hy, hiy]
                    go_wp2_with (go_at_call 104; refine (der1_any _ _ _ _ _ _ _ HE.out.hbm HE.out.hm HE.out.hs).mono ?_; rw [hiy]; rintro e w2 ⟨rfl, hb2⟩; have hbx2 : ∀ j, w2.cell? ⟨w.heap.size, j, none⟩ = (#[.bool false, .slice oh lh ch, .bool false, .int .i64 bound, .slice (some ⟨b, off, none⟩) lb cb, .slice ow lw cw] : Array Value)[j]? := fun j => (oldCell hb2 w.heap.size j (Nat.lt_of_lt_of_le (by omega) hsz)).trans (hbx j); have hcbl2 := (hb2.cell (p := ⟨Bl, 0, none⟩) (cell_lt hcbl)).trans hcbl; have HB2 := Lib.hid (HB.out.trans (hb2.mono hsz)); clear hb2)
                    all_goals first
                      | (go_ret; exact ⟨ret_bool (by rw [HG.out, Hgo.out, hlit.out]; clear HG Hgo; grind), by first | exact below_trans_of (below_alloc_of (below_alloc w _) _) (HB2.out.mono (by simp)) | exact HW.out⟩)
                      | (go_roundw; (case rel => exact ⟨k + 1, 0, by omega, by go_num, rfl, rfl, by rw [Hid, Hgo.out, hlit.out]; clear HG Hgo; grind, by first | exact HB2.out | exact HB.out⟩); (case measure => simp [intOf]; omega))
                  · obtain ⟨hy1, hy2⟩ := HE.out.hml y ((inB_iff m y).1 hiy)
                    obtain ⟨yn, rfl⟩ := Int.eq_ofNat_of_zero_le hy1
                    have hyl : yn < ll := by omega
                    obtain ⟨bl, offl, z, rfl, hcz, hz1, hz2, _, hgz⟩ := HE.out.hl.at_ hyl
                    have hlit : Hid (litD m lv most yn = (decide (1 ≤ z) && decide (z ≤ most))) := by
                      have e : lv.getD (Int.toNat yn) 0 = z := by simp [List.getD, hgz.out]
                      unfold Hid litD; rw [e, hiy, decide_eq_false hy, decide_eq_true hy0]; simp
                    go_wp2_with (go_at_call 104; refine (der1_any _ _ _ _ _ _ _ HE.out.hbm HE.out.hm HE.out.hs).mono ?_; rw [hiy]; rintro e w2 ⟨rfl, hb2⟩; have hbx2 : ∀ j, w2.cell? ⟨w.heap.size, j, none⟩ = (#[.bool false, .slice oh lh ch, .bool false, .int .i64 bound, .slice (some ⟨b, off, none⟩) lb cb, .slice ow lw cw] : Array Value)[j]? := fun j => (oldCell hb2 w.heap.size j (Nat.lt_of_lt_of_le (by omega) hsz)).trans (hbx j); have hcbl2 := (hb2.cell (p := ⟨Bl, 0, none⟩) (cell_lt hcbl)).trans hcbl; have HB2 := Lib.hid (HB.out.trans (hb2.mono hsz)); have hcz2 := (hb2.cell (p := ⟨bl, offl + yn, none⟩) (cell_lt hcz)).trans hcz; clear hb2)
                    all_goals first
                      | (go_ret; exact ⟨ret_bool (by rw [HG.out, Hgo.out, hlit.out]; clear HG Hgo; grind), by first | exact below_trans_of (below_alloc_of (below_alloc w _) _) (HB2.out.mono (by simp)) | exact HW.out⟩)
                      | (go_roundw; (case rel => exact ⟨k + 1, 0, by omega, by go_num, rfl, rfl, by rw [Hid, Hgo.out, hlit.out]; clear HG Hgo; grind, by first | exact HB2.out | exact HB.out⟩); (case measure => simp [intOf]; omega))
                · have hlit : Hid (litD m lv most y = false) := by simp [Hid, litD, hy, hy0]
                  go_wp2_with fail
                  all_goals first
                    | (go_ret; exact ⟨ret_bool (by rw [HG.out, Hgo.out, hlit.out]; clear HG Hgo; grind), by first | exact below_trans_of (below_alloc_of (below_alloc w _) _) (HB2.out.mono (by simp)) | exact HW.out⟩)
                    | (go_roundw; (case rel => exact ⟨k + 1, 0, by omega, by go_num, rfl, rfl, by rw [Hid, Hgo.out, hlit.out]; clear HG Hgo; grind, by first | exact HB2.out | exact HB.out⟩); (case measure => simp [intOf]; omega))
            · have hfin : Hid (body.all (litD m lv most) = true) := by rw [Hid, hno.out, List.drop_eq_nil_of_le (by rw [L1.out]; omega)]; rfl
              go_wp2
              go_ret
              exact ⟨ret_bool (by rw [HG.out]; simp [hfin.out]), HW.out⟩
      · go_enter Tryz.func106, Tryz.ntmps106
        go_wp2_with (go_at_call 57; refine (contains_any _ _ _ _ _ _ ((hh.alloc _).alloc _)).mono ?_; rintro e w1 ⟨rfl, m1, rfl⟩)
        refine (containsFuncI_any _ _ _ _ head _ (fun x => x != a && inB m x) I64 (hh.below ?_) ⟨107, _, rfl, Tryz.call107, fun W hW x hx => ?_⟩ HH.out).mono ?_
        · (repeat (first | with_reducible exact Below.refl _ _ | with_reducible refine below_drewN_of ?_ _ | with_reducible refine below_alloc_of ?_ _ | with_reducible refine below_set_of ?_ _ _ _ (by simp) | with_reducible assumption | exact ⟨rfl, rfl, rfl, Nat.le_refl _, fun _ _ => rfl⟩))
        · have hWw : Below w.heap.size w W := below_trans_of (by (repeat (first | with_reducible exact Below.refl _ _ | with_reducible refine below_drewN_of ?_ _ | with_reducible refine below_alloc_of ?_ _ | with_reducible refine below_set_of ?_ _ _ _ (by simp) | with_reducible assumption | exact ⟨rfl, rfl, rfl, Nat.le_refl _, fun _ _ => rfl⟩))) hW
          exact der21_any W (w.heap.size + 1) Bin _ _ a x hx ((hW.cell (p := ⟨w.heap.size + 1, 0, none⟩) (by simp)).trans (by simp)) (hE.below hWw).hin (hE.below hWw).pred
        · rw [hcc]
          rintro e w2 ⟨rfl, hb2⟩
          go_wp2_with fail
          go_ret
          exact ⟨ret_bool (by simp [derivesB, hcc]), below_trans_of (by (repeat (first | with_reducible exact Below.refl _ _ | with_reducible refine below_drewN_of ?_ _ | with_reducible refine below_alloc_of ?_ _ | with_reducible refine below_set_of ?_ _ _ _ (by simp) | with_reducible assumption | exact ⟨rfl, rfl, rfl, Nat.le_refl _, fun _ _ => rfl⟩))) hb2⟩
    · have HG : Hid (derivesB m lv ⟨true, head, false, bound, body, ws⟩ a most = (body.all (litD m lv most) && decide (bound ≤ 0))) := by simp [Hid, derivesB, g1]
      have HB0 : ∀ m1, Hid (Below (w.heap.size + 2) ((w.alloc (.cells #[.bool true, .slice oh lh ch, .bool false, .int .i64 bound, .slice ob lb cb, .slice ow lw cw] 60)).alloc (.cells #[.int .i64 a] 3)) (((w.alloc (.cells #[.bool true, .slice oh lh ch, .bool false, .int .i64 bound, .slice ob lb cb, .slice ow lw cw] 60)).alloc (.cells #[.int .i64 a] 3)).drewN m1)) := fun m1 => below_drewN_of (Below.refl _ _) _
      have HB0' := Lib.hid HB0
      clear HB0
      go_enter Tryz.func106, Tryz.ntmps106
      go_wp2_with (go_at_call 57; refine (contains_any _ _ _ _ _ _ ((hh.alloc _).alloc _)).mono ?_; rintro e w1 ⟨rfl, m1, rfl⟩)
      have HB0 := HB0'.out m1
      go_loopw [9, 32] (fun s i wr => ∃ (k : Nat) (S : Int), k ≤ lb ∧ i = .int .i64 k ∧ s = .int .i64 S ∧ S = 0 ∧ Hid (body.all (litD m lv most) = (body.drop k).all (litD m lv most)) ∧
        Hid (Below (w.heap.size + 2) ((w.alloc (.cells #[.bool true, .slice oh lh ch, .bool false, .int .i64 bound, .slice ob lb cb, .slice ow lw cw] 60)).alloc (.cells #[.int .i64 a] 3)) wr)) (fun _ i _ => lb - (intOf i).toNat)
      case atStart => exact ⟨0, 0, Nat.zero_le _, rfl, rfl, rfl, rfl, HB0.out⟩
      case round =>
        obtain ⟨k, S, hk, rfl, rfl, rfl, hno, HB⟩ := hrel
        have hbx : ∀ j, wr.cell? ⟨w.heap.size, j, none⟩ = (#[.bool true, .slice oh lh ch, .bool false, .int .i64 bound, .slice ob lb cb, .slice ow lw cw] : Array Value)[j]? := fun j => (HB.out.cell (p := ⟨w.heap.size, j, none⟩) (by simp)).trans (by rw [World.cell?_alloc_lt _ _ _ (by simp)]; simp)
        have HW := Lib.hid ((below_alloc_of (below_alloc w (.cells #[.bool true, .slice oh lh ch, .bool false, .int .i64 bound, .slice ob lb cb, .slice ow lw cw] 60)) (.cells #[.int .i64 a] 3)).trans (HB.out.mono (by omega)))
        have hsz : w.heap.size + 2 ≤ wr.heap.size := by have := HB.out.size; simpa using this
        by_cases hlt : k < lb
        · obtain ⟨b, off, y, rfl, hc, hr1, hr2, hd, hg⟩ := (hb.below HW.out).at_ hlt
          have hdl := H1.out y (List.mem_of_getElem? hg.out)
          obtain ⟨hdl1, hdl2⟩ := hdl
          have HE := Lib.hid (hE.below HW.out)
          have hcin := HE.out.hin
          have hcbl := HE.out.hbl
          have Hgo : Hid (body.all (litD m lv most) = (litD m lv most y && (body.drop (k + 1)).all (litD m lv most))) := by rw [Hid, hno.out, hd.out]; rfl
          clear hno
          by_cases hy : y < 0
          · have hlit : Hid (litD m lv most y = !inB m (-y)) := by simp [Hid, litD, hy]; omega
            go_wp2_with (go_at_call 104; refine (der1_any _ _ _ _ _ _ _ HE.out.hbm HE.out.hm HE.out.hs).mono ?_; rintro e w2 ⟨rfl, hb2⟩; have hbx2 : ∀ j, w2.cell? ⟨w.heap.size, j, none⟩ = (#[.bool true, .slice oh lh ch, .bool false, .int .i64 bound, .slice (some ⟨b, off, none⟩) lb cb, .slice ow lw cw] : Array Value)[j]? := fun j => (oldCell hb2 w.heap.size j (Nat.lt_of_lt_of_le (by omega) hsz)).trans (hbx j); have hcbl2 := (hb2.cell (p := ⟨Bl, 0, none⟩) (cell_lt hcbl)).trans hcbl; have HB2 := Lib.hid (HB.out.trans (hb2.mono hsz)); clear hb2)
            all_goals first
              | (go_ret; exact ⟨ret_bool (by rw [HG.out, Hgo.out, hlit.out]; clear HG Hgo; grind), by first | exact below_trans_of (below_alloc_of (below_alloc w _) _) (HB2.out.mono (by simp)) | exact HW.out⟩)
              | (go_roundw; (case rel => exact ⟨k + 1, 0, by omega, by go_num, rfl, rfl, by rw [Hid, Hgo.out, hlit.out]; clear HG Hgo; grind, by first | exact HB2.out | exact HB.out⟩); (case measure => simp [intOf]; omega))
          · by_cases hy0 : 0 < y
            · cases hiy : inB m y
              · have hlit : Hid (litD m lv most y = false) := by simp [Hid, litD, hy, hiy]
                go_wp2_with (go_at_call 104; refine (der1_any _ _ _ _ _ _ _ HE.out.hbm HE.out.hm HE.out.hs).mono ?_; rw [hiy]; rintro e w2 ⟨rfl, hb2⟩; have hbx2 : ∀ j, w2.cell? ⟨w.heap.size, j, none⟩ = (#[.bool true, .slice oh lh ch, .bool false, .int .i64 bound, .slice (some ⟨b, off, none⟩) lb cb, .slice ow lw cw] : Array Value)[j]? := fun j => (oldCell hb2 w.heap.size j (Nat.lt_of_lt_of_le (by omega) hsz)).trans (hbx j); have hcbl2 := (hb2.cell (p := ⟨Bl, 0, none⟩) (cell_lt hcbl)).trans hcbl; have HB2 := Lib.hid (HB.out.trans (hb2.mono hsz)); clear hb2)
                all_goals first
                  | (go_ret; exact ⟨ret_bool (by rw [HG.out, Hgo.out, hlit.out]; clear HG Hgo; grind), by first | exact below_trans_of (below_alloc_of (below_alloc w _) _) (HB2.out.mono (by simp)) | exact HW.out⟩)
                  | (go_roundw; (case rel => exact ⟨k + 1, 0, by omega, by go_num, rfl, rfl, by rw [Hid, Hgo.out, hlit.out]; clear HG Hgo; grind, by first | exact HB2.out | exact HB.out⟩); (case measure => simp [intOf]; omega))
              · obtain ⟨hy1, hy2⟩ := HE.out.hml y ((inB_iff m y).1 hiy)
                obtain ⟨yn, rfl⟩ := Int.eq_ofNat_of_zero_le hy1
                have hyl : yn < ll := by omega
                obtain ⟨bl, offl, z, rfl, hcz, hz1, hz2, _, hgz⟩ := HE.out.hl.at_ hyl
                have hlit : Hid (litD m lv most yn = (decide (1 ≤ z) && decide (z ≤ most))) := by
                  have e : lv.getD (Int.toNat yn) 0 = z := by simp [List.getD, hgz.out]
                  unfold Hid litD; rw [e, hiy, decide_eq_false hy, decide_eq_true hy0]; simp
                go_wp2_with (go_at_call 104; refine (der1_any _ _ _ _ _ _ _ HE.out.hbm HE.out.hm HE.out.hs).mono ?_; rw [hiy]; rintro e w2 ⟨rfl, hb2⟩; have hbx2 : ∀ j, w2.cell? ⟨w.heap.size, j, none⟩ = (#[.bool true, .slice oh lh ch, .bool false, .int .i64 bound, .slice (some ⟨b, off, none⟩) lb cb, .slice ow lw cw] : Array Value)[j]? := fun j => (oldCell hb2 w.heap.size j (Nat.lt_of_lt_of_le (by omega) hsz)).trans (hbx j); have hcbl2 := (hb2.cell (p := ⟨Bl, 0, none⟩) (cell_lt hcbl)).trans hcbl; have HB2 := Lib.hid (HB.out.trans (hb2.mono hsz)); have hcz2 := (hb2.cell (p := ⟨bl, offl + yn, none⟩) (cell_lt hcz)).trans hcz; clear hb2)
                all_goals first
                  | (go_ret; exact ⟨ret_bool (by rw [HG.out, Hgo.out, hlit.out]; clear HG Hgo; grind), by first | exact below_trans_of (below_alloc_of (below_alloc w _) _) (HB2.out.mono (by simp)) | exact HW.out⟩)
                  | (go_roundw; (case rel => exact ⟨k + 1, 0, by omega, by go_num, rfl, rfl, by rw [Hid, Hgo.out, hlit.out]; clear HG Hgo; grind, by first | exact HB2.out | exact HB.out⟩); (case measure => simp [intOf]; omega))
            · have hlit : Hid (litD m lv most y = false) := by simp [Hid, litD, hy, hy0]
              go_wp2_with fail
              all_goals first
                | (go_ret; exact ⟨ret_bool (by rw [HG.out, Hgo.out, hlit.out]; clear HG Hgo; grind), by first | exact below_trans_of (below_alloc_of (below_alloc w _) _) (HB2.out.mono (by simp)) | exact HW.out⟩)
                | (go_roundw; (case rel => exact ⟨k + 1, 0, by omega, by go_num, rfl, rfl, by rw [Hid, Hgo.out, hlit.out]; clear HG Hgo; grind, by first | exact HB2.out | exact HB.out⟩); (case measure => simp [intOf]; omega))
        · have hfin : Hid (body.all (litD m lv most) = true) := by rw [Hid, hno.out, List.drop_eq_nil_of_le (by rw [L1.out]; omega)]; rfl
          go_wp2
          go_ret
          exact ⟨ret_bool (by rw [HG.out]; simp [hfin.out]), HW.out⟩
  · have H2 := Lib.hid (hok.len rfl)
    have H3 := Lib.hid (hok.ws rfl)
    have h4 : lb ≤ 8000 := by rw [← L1.out]; exact hok.few rfl
    cases choice
    · cases hcc : head.any (fun b => b != a && inB m b)
      · have HG : Hid (derivesB m lv ⟨false, head, true, bound, body, ws⟩ a most = (decide (bound ≤ sumP (litD m lv most) 0 body ws))) := by simp [Hid, derivesB, g1, hcc]
        go_enter Tryz.func106, Tryz.ntmps106
        go_wp2_with (go_at_call 57; refine (contains_any _ _ _ _ _ _ ((hh.alloc _).alloc _)).mono ?_; rintro e w1 ⟨rfl, m1, rfl⟩)
        refine (containsFuncI_any _ _ _ _ head _ (fun x => x != a && inB m x) I64 (hh.below ?_) ⟨107, _, rfl, Tryz.call107, fun W hW x hx => ?_⟩ HH.out).mono ?_
        · (repeat (first | with_reducible exact Below.refl _ _ | with_reducible refine below_drewN_of ?_ _ | with_reducible refine below_alloc_of ?_ _ | with_reducible refine below_set_of ?_ _ _ _ (by simp) | with_reducible assumption | exact ⟨rfl, rfl, rfl, Nat.le_refl _, fun _ _ => rfl⟩))
        · have hWw : Below w.heap.size w W := below_trans_of (by (repeat (first | with_reducible exact Below.refl _ _ | with_reducible refine below_drewN_of ?_ _ | with_reducible refine below_alloc_of ?_ _ | with_reducible refine below_set_of ?_ _ _ _ (by simp) | with_reducible assumption | exact ⟨rfl, rfl, rfl, Nat.le_refl _, fun _ _ => rfl⟩))) hW
          exact der21_any W (w.heap.size + 1) Bin _ _ a x hx ((hW.cell (p := ⟨w.heap.size + 1, 0, none⟩) (by simp)).trans (by simp)) (hE.below hWw).hin (hE.below hWw).pred
        · rw [hcc]
          rintro e w2 ⟨rfl, hb2⟩
          have HB0 : Hid (Below (w.heap.size + 2) ((w.alloc (.cells #[.bool false, .slice oh lh ch, .bool true, .int .i64 bound, .slice ob lb cb, .slice ow lw cw] 60)).alloc (.cells #[.int .i64 a] 3)) w2) := Below.trans (below_drewN_of (Below.refl _ _) _) (hb2.mono (by simp))
          have hbx0 : ∀ j, w2.cell? ⟨w.heap.size, j, none⟩ = (#[.bool false, .slice oh lh ch, .bool true, .int .i64 bound, .slice ob lb cb, .slice ow lw cw] : Array Value)[j]? := fun j => (HB0.out.cell (p := ⟨w.heap.size, j, none⟩) (by simp)).trans (by rw [World.cell?_alloc_lt _ _ _ (by simp)]; simp)
          clear hb2
          go_wp2_with fail
          clear hbx0
          go_loopw [9, 32] (fun s i wr => ∃ (k : Nat) (S : Int), k ≤ lb ∧ i = .int .i64 k ∧ s = .int .i64 S ∧ 0 ≤ S ∧ S ≤ k * 1048576 ∧ Hid (sumP (litD m lv most) 0 body ws = sumP (litD m lv most) S (body.drop k) (ws.drop k)) ∧
            Hid (Below (w.heap.size + 2) ((w.alloc (.cells #[.bool false, .slice oh lh ch, .bool true, .int .i64 bound, .slice ob lb cb, .slice ow lw cw] 60)).alloc (.cells #[.int .i64 a] 3)) wr)) (fun _ i _ => lb - (intOf i).toNat)
          case atStart => exact ⟨0, 0, Nat.zero_le _, rfl, rfl, by omega, by omega, rfl, HB0.out⟩
          case round =>
            obtain ⟨k, S, hk, rfl, rfl, hS0, hS1, hno, HB⟩ := hrel
            have hbx : ∀ j, wr.cell? ⟨w.heap.size, j, none⟩ = (#[.bool false, .slice oh lh ch, .bool true, .int .i64 bound, .slice ob lb cb, .slice ow lw cw] : Array Value)[j]? := fun j => (HB.out.cell (p := ⟨w.heap.size, j, none⟩) (by simp)).trans (by rw [World.cell?_alloc_lt _ _ _ (by simp)]; simp)
            have HW := Lib.hid ((below_alloc_of (below_alloc w (.cells #[.bool false, .slice oh lh ch, .bool true, .int .i64 bound, .slice ob lb cb, .slice ow lw cw] 60)) (.cells #[.int .i64 a] 3)).trans (HB.out.mono (by omega)))
            have hsz : w.heap.size + 2 ≤ wr.heap.size := by have := HB.out.size; simpa using this
            by_cases hlt : k < lb
            · obtain ⟨b, off, y, rfl, hc, hr1, hr2, hd, hg⟩ := (hb.below HW.out).at_ hlt
              have hdl := H1.out y (List.mem_of_getElem? hg.out)
              obtain ⟨hdl1, hdl2⟩ := hdl
              have HE := Lib.hid (hE.below HW.out)
              have hcin := HE.out.hin
              have hcbl := HE.out.hbl
              have hlw : k < lw := by rw [← L2.out, H2.out, L1.out]; exact hlt
              obtain ⟨b', off', z', rfl, hc', _, _, hd', hg'⟩ := (hw.below HW.out).at_ hlw
              obtain ⟨hz0, hz1'⟩ := H3.out z' (List.mem_of_getElem? hg'.out)
              have Hgo : Hid (sumP (litD m lv most) 0 body ws = sumP (litD m lv most) (if litD m lv most y then S + z' else S) (body.drop (k + 1)) (ws.drop (k + 1))) := by rw [Hid, hno.out, hd.out, hd'.out]; rfl
              clear hno
              by_cases hy : y < 0
              · have hlit : Hid (litD m lv most y = !inB m (-y)) := by simp [Hid, litD, hy]; omega
                go_wp2_with (go_at_call 104; refine (der1_any _ _ _ _ _ _ _ HE.out.hbm HE.out.hm HE.out.hs).mono ?_; rintro e w2 ⟨rfl, hb2⟩; have hbx2 : ∀ j, w2.cell? ⟨w.heap.size, j, none⟩ = (#[.bool false, .slice oh lh ch, .bool true, .int .i64 bound, .slice (some ⟨b, off, none⟩) lb cb, .slice (some ⟨b', off', none⟩) lw cw] : Array Value)[j]? := fun j => (oldCell hb2 w.heap.size j (Nat.lt_of_lt_of_le (by omega) hsz)).trans (hbx j); have hc2 := (hb2.cell (p := ⟨b', off' + k, none⟩) (cell_lt hc')).trans hc'; have hcbl2 := (hb2.cell (p := ⟨Bl, 0, none⟩) (cell_lt hcbl)).trans hcbl; have HB2 := Lib.hid (HB.out.trans (hb2.mono hsz)); clear hb2)
                all_goals
                  go_roundw
                  case rel => first
                    | exact ⟨k + 1, S + z', by omega, by go_num, by go_num, by omega, by omega, by rw [Hid, Hgo.out, hlit.out]; first | rfl | (rw [if_pos]; grind), by first | exact HB2.out | exact HB.out⟩
                    | exact ⟨k + 1, S, by omega, by go_num, rfl, by omega, by omega, by rw [Hid, Hgo.out, hlit.out]; first | rfl | (rw [if_neg]; grind), by first | exact HB2.out | exact HB.out⟩
                  case measure => simp [intOf]; omega
              · by_cases hy0 : 0 < y
                · cases hiy : inB m y
                  · have hlit : Hid (litD m lv most y = false) := by simp [Hid, litD, hy, hiy]
                    go_wp2_with (go_at_call 104; refine (der1_any _ _ _ _ _ _ _ HE.out.hbm HE.out.hm HE.out.hs).mono ?_; rw [hiy]; rintro e w2 ⟨rfl, hb2⟩; have hbx2 : ∀ j, w2.cell? ⟨w.heap.size, j, none⟩ = (#[.bool false, .slice oh lh ch, .bool true, .int .i64 bound, .slice (some ⟨b, off, none⟩) lb cb, .slice (some ⟨b', off', none⟩) lw cw] : Array Value)[j]? := fun j => (oldCell hb2 w.heap.size j (Nat.lt_of_lt_of_le (by omega) hsz)).trans (hbx j); have hc2 := (hb2.cell (p := ⟨b', off' + k, none⟩) (cell_lt hc')).trans hc'; have hcbl2 := (hb2.cell (p := ⟨Bl, 0, none⟩) (cell_lt hcbl)).trans hcbl; have HB2 := Lib.hid (HB.out.trans (hb2.mono hsz)); clear hb2)
                    all_goals
                      go_roundw
                      case rel => first
                        | exact ⟨k + 1, S + z', by omega, by go_num, by go_num, by omega, by omega, by rw [Hid, Hgo.out, hlit.out]; first | rfl | (rw [if_pos]; grind), by first | exact HB2.out | exact HB.out⟩
                        | exact ⟨k + 1, S, by omega, by go_num, rfl, by omega, by omega, by rw [Hid, Hgo.out, hlit.out]; first | rfl | (rw [if_neg]; grind), by first | exact HB2.out | exact HB.out⟩
                      case measure => simp [intOf]; omega
                  · obtain ⟨hy1, hy2⟩ := HE.out.hml y ((inB_iff m y).1 hiy)
                    obtain ⟨yn, rfl⟩ := Int.eq_ofNat_of_zero_le hy1
                    have hyl : yn < ll := by omega
                    obtain ⟨bl, offl, z, rfl, hcz, hz1, hz2, _, hgz⟩ := HE.out.hl.at_ hyl
                    have hlit : Hid (litD m lv most yn = (decide (1 ≤ z) && decide (z ≤ most))) := by
                      have e : lv.getD (Int.toNat yn) 0 = z := by simp [List.getD, hgz.out]
                      unfold Hid litD; rw [e, hiy, decide_eq_false hy, decide_eq_true hy0]; simp
                    go_wp2_with (go_at_call 104; refine (der1_any _ _ _ _ _ _ _ HE.out.hbm HE.out.hm HE.out.hs).mono ?_; rw [hiy]; rintro e w2 ⟨rfl, hb2⟩; have hbx2 : ∀ j, w2.cell? ⟨w.heap.size, j, none⟩ = (#[.bool false, .slice oh lh ch, .bool true, .int .i64 bound, .slice (some ⟨b, off, none⟩) lb cb, .slice (some ⟨b', off', none⟩) lw cw] : Array Value)[j]? := fun j => (oldCell hb2 w.heap.size j (Nat.lt_of_lt_of_le (by omega) hsz)).trans (hbx j); have hc2 := (hb2.cell (p := ⟨b', off' + k, none⟩) (cell_lt hc')).trans hc'; have hcbl2 := (hb2.cell (p := ⟨Bl, 0, none⟩) (cell_lt hcbl)).trans hcbl; have HB2 := Lib.hid (HB.out.trans (hb2.mono hsz)); have hcz2 := (hb2.cell (p := ⟨bl, offl + yn, none⟩) (cell_lt hcz)).trans hcz; clear hb2)
                    all_goals
                      go_roundw
                      case rel => first
                        | exact ⟨k + 1, S + z', by omega, by go_num, by go_num, by omega, by omega, by rw [Hid, Hgo.out, hlit.out]; first | rfl | (rw [if_pos]; grind), by first | exact HB2.out | exact HB.out⟩
                        | exact ⟨k + 1, S, by omega, by go_num, rfl, by omega, by omega, by rw [Hid, Hgo.out, hlit.out]; first | rfl | (rw [if_neg]; grind), by first | exact HB2.out | exact HB.out⟩
                      case measure => simp [intOf]; omega
                · have hlit : Hid (litD m lv most y = false) := by simp [Hid, litD, hy, hy0]
                  go_wp2_with fail
                  all_goals
                    go_roundw
                    case rel => first
                      | exact ⟨k + 1, S + z', by omega, by go_num, by go_num, by omega, by omega, by rw [Hid, Hgo.out, hlit.out]; first | rfl | (rw [if_pos]; grind), by first | exact HB2.out | exact HB.out⟩
                      | exact ⟨k + 1, S, by omega, by go_num, rfl, by omega, by omega, by rw [Hid, Hgo.out, hlit.out]; first | rfl | (rw [if_neg]; grind), by first | exact HB2.out | exact HB.out⟩
                    case measure => simp [intOf]; omega
            · have hfin : Hid (sumP (litD m lv most) 0 body ws = S) := by rw [Hid, hno.out, List.drop_eq_nil_of_le (by rw [L1.out]; omega)]; cases ws.drop k <;> rfl
              go_wp2
              go_ret
              exact ⟨ret_bool (by rw [HG.out]; simp [hfin.out]), HW.out⟩
      · go_enter Tryz.func106, Tryz.ntmps106
        go_wp2_with (go_at_call 57; refine (contains_any _ _ _ _ _ _ ((hh.alloc _).alloc _)).mono ?_; rintro e w1 ⟨rfl, m1, rfl⟩)
        refine (containsFuncI_any _ _ _ _ head _ (fun x => x != a && inB m x) I64 (hh.below ?_) ⟨107, _, rfl, Tryz.call107, fun W hW x hx => ?_⟩ HH.out).mono ?_
        · (repeat (first | with_reducible exact Below.refl _ _ | with_reducible refine below_drewN_of ?_ _ | with_reducible refine below_alloc_of ?_ _ | with_reducible refine below_set_of ?_ _ _ _ (by simp) | with_reducible assumption | exact ⟨rfl, rfl, rfl, Nat.le_refl _, fun _ _ => rfl⟩))
        · have hWw : Below w.heap.size w W := below_trans_of (by (repeat (first | with_reducible exact Below.refl _ _ | with_reducible refine below_drewN_of ?_ _ | with_reducible refine below_alloc_of ?_ _ | with_reducible refine below_set_of ?_ _ _ _ (by simp) | with_reducible assumption | exact ⟨rfl, rfl, rfl, Nat.le_refl _, fun _ _ => rfl⟩))) hW
          exact der21_any W (w.heap.size + 1) Bin _ _ a x hx ((hW.cell (p := ⟨w.heap.size + 1, 0, none⟩) (by simp)).trans (by simp)) (hE.below hWw).hin (hE.below hWw).pred
        · rw [hcc]
          rintro e w2 ⟨rfl, hb2⟩
          go_wp2_with fail
          go_ret
          exact ⟨ret_bool (by simp [derivesB, hcc]), below_trans_of (by (repeat (first | with_reducible exact Below.refl _ _ | with_reducible refine below_drewN_of ?_ _ | with_reducible refine below_alloc_of ?_ _ | with_reducible refine below_set_of ?_ _ _ _ (by simp) | with_reducible assumption | exact ⟨rfl, rfl, rfl, Nat.le_refl _, fun _ _ => rfl⟩))) hb2⟩
    · have HG : Hid (derivesB m lv ⟨true, head, true, bound, body, ws⟩ a most = (decide (bound ≤ sumP (litD m lv most) 0 body ws))) := by simp [Hid, derivesB, g1]
      have HB0 : ∀ m1, Hid (Below (w.heap.size + 2) ((w.alloc (.cells #[.bool true, .slice oh lh ch, .bool true, .int .i64 bound, .slice ob lb cb, .slice ow lw cw] 60)).alloc (.cells #[.int .i64 a] 3)) (((w.alloc (.cells #[.bool true, .slice oh lh ch, .bool true, .int .i64 bound, .slice ob lb cb, .slice ow lw cw] 60)).alloc (.cells #[.int .i64 a] 3)).drewN m1)) := fun m1 => below_drewN_of (Below.refl _ _) _
      have HB0' := Lib.hid HB0
      clear HB0
      go_enter Tryz.func106, Tryz.ntmps106
      go_wp2_with (go_at_call 57; refine (contains_any _ _ _ _ _ _ ((hh.alloc _).alloc _)).mono ?_; rintro e w1 ⟨rfl, m1, rfl⟩)
      have HB0 := HB0'.out m1
      go_loopw [9, 32] (fun s i wr => ∃ (k : Nat) (S : Int), k ≤ lb ∧ i = .int .i64 k ∧ s = .int .i64 S ∧ 0 ≤ S ∧ S ≤ k * 1048576 ∧ Hid (sumP (litD m lv most) 0 body ws = sumP (litD m lv most) S (body.drop k) (ws.drop k)) ∧
        Hid (Below (w.heap.size + 2) ((w.alloc (.cells #[.bool true, .slice oh lh ch, .bool true, .int .i64 bound, .slice ob lb cb, .slice ow lw cw] 60)).alloc (.cells #[.int .i64 a] 3)) wr)) (fun _ i _ => lb - (intOf i).toNat)
      case atStart => exact ⟨0, 0, Nat.zero_le _, rfl, rfl, by omega, by omega, rfl, HB0.out⟩
      case round =>
        obtain ⟨k, S, hk, rfl, rfl, hS0, hS1, hno, HB⟩ := hrel
        have hbx : ∀ j, wr.cell? ⟨w.heap.size, j, none⟩ = (#[.bool true, .slice oh lh ch, .bool true, .int .i64 bound, .slice ob lb cb, .slice ow lw cw] : Array Value)[j]? := fun j => (HB.out.cell (p := ⟨w.heap.size, j, none⟩) (by simp)).trans (by rw [World.cell?_alloc_lt _ _ _ (by simp)]; simp)
        have HW := Lib.hid ((below_alloc_of (below_alloc w (.cells #[.bool true, .slice oh lh ch, .bool true, .int .i64 bound, .slice ob lb cb, .slice ow lw cw] 60)) (.cells #[.int .i64 a] 3)).trans (HB.out.mono (by omega)))
        have hsz : w.heap.size + 2 ≤ wr.heap.size := by have := HB.out.size; simpa using this
        by_cases hlt : k < lb
        · obtain ⟨b, off, y, rfl, hc, hr1, hr2, hd, hg⟩ := (hb.below HW.out).at_ hlt
          have hdl := H1.out y (List.mem_of_getElem? hg.out)
          obtain ⟨hdl1, hdl2⟩ := hdl
          have HE := Lib.hid (hE.below HW.out)
          have hcin := HE.out.hin
          have hcbl := HE.out.hbl
          have hlw : k < lw := by rw [← L2.out, H2.out, L1.out]; exact hlt
          obtain ⟨b', off', z', rfl, hc', _, _, hd', hg'⟩ := (hw.below HW.out).at_ hlw
          obtain ⟨hz0, hz1'⟩ := H3.out z' (List.mem_of_getElem? hg'.out)
          have Hgo : Hid (sumP (litD m lv most) 0 body ws = sumP (litD m lv most) (if litD m lv most y then S + z' else S) (body.drop (k + 1)) (ws.drop (k + 1))) := by rw [Hid, hno.out, hd.out, hd'.out]; rfl
          clear hno
          by_cases hy : y < 0
          · have hlit : Hid (litD m lv most y = !inB m (-y)) := by simp [Hid, litD, hy]; omega
            go_wp2_with (go_at_call 104; refine (der1_any _ _ _ _ _ _ _ HE.out.hbm HE.out.hm HE.out.hs).mono ?_; rintro e w2 ⟨rfl, hb2⟩; have hbx2 : ∀ j, w2.cell? ⟨w.heap.size, j, none⟩ = (#[.bool true, .slice oh lh ch, .bool true, .int .i64 bound, .slice (some ⟨b, off, none⟩) lb cb, .slice (some ⟨b', off', none⟩) lw cw] : Array Value)[j]? := fun j => (oldCell hb2 w.heap.size j (Nat.lt_of_lt_of_le (by omega) hsz)).trans (hbx j); have hc2 := (hb2.cell (p := ⟨b', off' + k, none⟩) (cell_lt hc')).trans hc'; have hcbl2 := (hb2.cell (p := ⟨Bl, 0, none⟩) (cell_lt hcbl)).trans hcbl; have HB2 := Lib.hid (HB.out.trans (hb2.mono hsz)); clear hb2)
            all_goals
              go_roundw
              case rel => first
                | exact ⟨k + 1, S + z', by omega, by go_num, by go_num, by omega, by omega, by rw [Hid, Hgo.out, hlit.out]; first | rfl | (rw [if_pos]; grind), by first | exact HB2.out | exact HB.out⟩
                | exact ⟨k + 1, S, by omega, by go_num, rfl, by omega, by omega, by rw [Hid, Hgo.out, hlit.out]; first | rfl | (rw [if_neg]; grind), by first | exact HB2.out | exact HB.out⟩
              case measure => simp [intOf]; omega
          · by_cases hy0 : 0 < y
            · cases hiy : inB m y
              · have hlit : Hid (litD m lv most y = false) := by simp [Hid, litD, hy, hiy]
                go_wp2_with (go_at_call 104; refine (der1_any _ _ _ _ _ _ _ HE.out.hbm HE.out.hm HE.out.hs).mono ?_; rw [hiy]; rintro e w2 ⟨rfl, hb2⟩; have hbx2 : ∀ j, w2.cell? ⟨w.heap.size, j, none⟩ = (#[.bool true, .slice oh lh ch, .bool true, .int .i64 bound, .slice (some ⟨b, off, none⟩) lb cb, .slice (some ⟨b', off', none⟩) lw cw] : Array Value)[j]? := fun j => (oldCell hb2 w.heap.size j (Nat.lt_of_lt_of_le (by omega) hsz)).trans (hbx j); have hc2 := (hb2.cell (p := ⟨b', off' + k, none⟩) (cell_lt hc')).trans hc'; have hcbl2 := (hb2.cell (p := ⟨Bl, 0, none⟩) (cell_lt hcbl)).trans hcbl; have HB2 := Lib.hid (HB.out.trans (hb2.mono hsz)); clear hb2)
                all_goals
                  go_roundw
                  case rel => first
                    | exact ⟨k + 1, S + z', by omega, by go_num, by go_num, by omega, by omega, by rw [Hid, Hgo.out, hlit.out]; first | rfl | (rw [if_pos]; grind), by first | exact HB2.out | exact HB.out⟩
                    | exact ⟨k + 1, S, by omega, by go_num, rfl, by omega, by omega, by rw [Hid, Hgo.out, hlit.out]; first | rfl | (rw [if_neg]; grind), by first | exact HB2.out | exact HB.out⟩
                  case measure => simp [intOf]; omega
              · obtain ⟨hy1, hy2⟩ := HE.out.hml y ((inB_iff m y).1 hiy)
                obtain ⟨yn, rfl⟩ := Int.eq_ofNat_of_zero_le hy1
                have hyl : yn < ll := by omega
                obtain ⟨bl, offl, z, rfl, hcz, hz1, hz2, _, hgz⟩ := HE.out.hl.at_ hyl
                have hlit : Hid (litD m lv most yn = (decide (1 ≤ z) && decide (z ≤ most))) := by
                  have e : lv.getD (Int.toNat yn) 0 = z := by simp [List.getD, hgz.out]
                  unfold Hid litD; rw [e, hiy, decide_eq_false hy, decide_eq_true hy0]; simp
                go_wp2_with (go_at_call 104; refine (der1_any _ _ _ _ _ _ _ HE.out.hbm HE.out.hm HE.out.hs).mono ?_; rw [hiy]; rintro e w2 ⟨rfl, hb2⟩; have hbx2 : ∀ j, w2.cell? ⟨w.heap.size, j, none⟩ = (#[.bool true, .slice oh lh ch, .bool true, .int .i64 bound, .slice (some ⟨b, off, none⟩) lb cb, .slice (some ⟨b', off', none⟩) lw cw] : Array Value)[j]? := fun j => (oldCell hb2 w.heap.size j (Nat.lt_of_lt_of_le (by omega) hsz)).trans (hbx j); have hc2 := (hb2.cell (p := ⟨b', off' + k, none⟩) (cell_lt hc')).trans hc'; have hcbl2 := (hb2.cell (p := ⟨Bl, 0, none⟩) (cell_lt hcbl)).trans hcbl; have HB2 := Lib.hid (HB.out.trans (hb2.mono hsz)); have hcz2 := (hb2.cell (p := ⟨bl, offl + yn, none⟩) (cell_lt hcz)).trans hcz; clear hb2)
                all_goals
                  go_roundw
                  case rel => first
                    | exact ⟨k + 1, S + z', by omega, by go_num, by go_num, by omega, by omega, by rw [Hid, Hgo.out, hlit.out]; first | rfl | (rw [if_pos]; grind), by first | exact HB2.out | exact HB.out⟩
                    | exact ⟨k + 1, S, by omega, by go_num, rfl, by omega, by omega, by rw [Hid, Hgo.out, hlit.out]; first | rfl | (rw [if_neg]; grind), by first | exact HB2.out | exact HB.out⟩
                  case measure => simp [intOf]; omega
            · have hlit : Hid (litD m lv most y = false) := by simp [Hid, litD, hy, hy0]
              go_wp2_with fail
              all_goals
                go_roundw
                case rel => first
                  | exact ⟨k + 1, S + z', by omega, by go_num, by go_num, by omega, by omega, by rw [Hid, Hgo.out, hlit.out]; first | rfl | (rw [if_pos]; grind), by first | exact HB2.out | exact HB.out⟩
                  | exact ⟨k + 1, S, by omega, by go_num, rfl, by omega, by omega, by rw [Hid, Hgo.out, hlit.out]; first | rfl | (rw [if_neg]; grind), by first | exact HB2.out | exact HB.out⟩
                case measure => simp [intOf]; omega
        · have hfin : Hid (sumP (litD m lv most) 0 body ws = S) := by rw [Hid, hno.out, List.drop_eq_nil_of_le (by rw [L1.out]; omega)]; cases ws.drop k <;> rfl
          go_wp2
          go_ret
          exact ⟨ret_bool (by rw [HG.out]; simp [hfin.out]), HW.out⟩
end Go.Proofs.YtaemfafnmhndiaaGreatDoor
namespace Go.Proofs.YtaemfafnmhndiaaGreatDoor
open Go.RowKit Go.Maps Go.WideMaps Go.Sort

set_option maxHeartbeats 1000000 in
theorem ex2_any (w : World) (B8 : Nat) (ol : Option Addr) (ll cl : Nat) (lv : List Int) (x : Int) (h8 : w.cell? ⟨B8, 0, none⟩ = some (.slice ol ll cl)) (hl : IsInts w ol ll lv) (hx0 : 0 ≤ x) (hx1 : x < ll) :
    Calls Tryz.prog 55 #[.int .i64 x, .pointer (some ⟨B8, 0, none⟩)] w fun e w' => e = .returned (.bool (decide (0 < lv.getD x.toNat 0))) ∧ ∃ m, w' = w.drewN m := by
  obtain ⟨xn, rfl⟩ := Int.eq_ofNat_of_zero_le hx0
  have hm := hl.hmax
  have hxl : xn < ll := by omega
  obtain ⟨b, off, z, rfl, hc, hz1, hz2, _, hg⟩ := hl.at_ hxl
  have hz : Hid (lv.getD (Int.toNat xn) 0 = z) := by simp [Hid, List.getD, hg.out]
  go_enter Tryz.func55, Tryz.ntmps55
  go_wp2
  go_ret
  exact ⟨ret_bool (by rw [hz.out]), 0, rfl⟩

set_option maxRecDepth 100000 in
set_option maxHeartbeats 1000000 in
theorem ex1_any (w : World) (r : GRule) (oh : Option Addr) (lh ch : Nat) (ob : Option Addr) (lb cb : Nat) (ow : Option Addr) (lw cw : Nat) (B9 Ba Bk : Nat) (a k : Int)
    (Bin Bl Bm : Nat) (m lv : List Int) (om : Option Addr) (lm cm : Nat) (ol : Option Addr) (ll cl : Nat)
    (hh : IsInts w oh lh r.head) (hb : IsInts w ob lb r.body) (hw : IsInts w ow lw r.w) (hr : I64 r.bound) (hok : OkBody r) (hD : ∀ x ∈ r.head, I64 x) (hE : DerEnv w Bin Bl Bm m lv om lm cm ol ll cl)
    (h9 : w.cell? ⟨B9, 0, none⟩ = some (.func (.func 106) #[] #[.pointer (some ⟨Bin, 0, none⟩), .pointer (some ⟨Bl, 0, none⟩)])) (ha : w.cell? ⟨Ba, 0, none⟩ = some (.int .i64 a)) (hk : w.cell? ⟨Bk, 0, none⟩ = some (.int .i64 k))
    (hk0 : 1 ≤ k) (hk1 : k ≤ 9223372036854775807) :
    Calls Tryz.prog 53 #[.agg #[.bool r.choice, .slice oh lh ch, .bool r.sum, .int .i64 r.bound, .slice ob lb cb, .slice ow lw cw], .pointer (some ⟨B9, 0, none⟩), .pointer (some ⟨Ba, 0, none⟩), .pointer (some ⟨Bk, 0, none⟩)] w
      fun e w' => e = .returned (.bool (derivesB m lv r a (k - 1))) ∧ Below w.heap.size w w' := by
  have l9 := cell_lt h9
  have la := cell_lt ha
  have lk := cell_lt hk
  go_enter Tryz.func53, Tryz.ntmps53
  go_wp2_with (go_at_call 106; refine (derives_any _ r _ _ _ _ _ _ _ _ _ _ _ _ _ _ _ _ _ _ _ _ _ _ (hh.below ?_) (hb.below ?_) (hw.below ?_) hr hok hD (hE.below ?_)).mono ?_; (· (repeat (first | with_reducible exact Below.refl _ _ | with_reducible refine below_drewN_of ?_ _ | with_reducible refine below_alloc_of ?_ _ | with_reducible refine below_set_of ?_ _ _ _ (by simp) | with_reducible assumption | exact ⟨rfl, rfl, rfl, Nat.le_refl _, fun _ _ => rfl⟩))); (· (repeat (first | with_reducible exact Below.refl _ _ | with_reducible refine below_drewN_of ?_ _ | with_reducible refine below_alloc_of ?_ _ | with_reducible refine below_set_of ?_ _ _ _ (by simp) | with_reducible assumption | exact ⟨rfl, rfl, rfl, Nat.le_refl _, fun _ _ => rfl⟩))); (· (repeat (first | with_reducible exact Below.refl _ _ | with_reducible refine below_drewN_of ?_ _ | with_reducible refine below_alloc_of ?_ _ | with_reducible refine below_set_of ?_ _ _ _ (by simp) | with_reducible assumption | exact ⟨rfl, rfl, rfl, Nat.le_refl _, fun _ _ => rfl⟩))); (· (repeat (first | with_reducible exact Below.refl _ _ | with_reducible refine below_drewN_of ?_ _ | with_reducible refine below_alloc_of ?_ _ | with_reducible refine below_set_of ?_ _ _ _ (by simp) | with_reducible assumption | exact ⟨rfl, rfl, rfl, Nat.le_refl _, fun _ _ => rfl⟩))); rintro e w1 ⟨rfl, hb1⟩)
  go_ret
  exact ⟨rfl, below_trans_of (below_alloc _ _) hb1⟩

set_option maxHeartbeats 1000000 in
theorem deriver_any (w : World) (om : Option Addr) (lm cm : Nat) (ol : Option Addr) (ll cl : Nat) :
    Calls Tryz.prog 50 #[.slice om lm cm, .slice ol ll cl] w fun e w' =>
      e = .returned (.func (.func 106) #[] #[.pointer (some ⟨w.heap.size + 2, 0, none⟩), .pointer (some ⟨w.heap.size + 1, 0, none⟩)]) ∧
      w' = ((w.alloc (.cells #[.slice om lm cm] 23)).alloc (.cells #[.slice ol ll cl] 23)).alloc (.cells #[.func (.func 104) #[] #[.pointer (some ⟨w.heap.size, 0, none⟩)]] 92) := by
  go_enter Tryz.func50, Tryz.ntmps50
  go_wp2
  go_ret
  exact ⟨rfl, rfl⟩

/-- Places of a list of levels. -/
structure Lev (ll : Nat) where
  x : Int
  h : 0 ≤ x ∧ x < ll ∨ x = 0
instance (ll : Nat) : Inhabited (Lev ll) := ⟨⟨0, .inr rfl⟩⟩
def encL {ll : Nat} (y : Lev ll) : Value := .int .i64 y.x

theorem own_grown_holds {w : World} {base g n cap : Nat} {l : List Int} (h : w.ownsRow base 3 1 (.slice (some ⟨g, 0, none⟩) n cap) n (l.map (Value.int .i64))) (j : Nat) (hj : j < n) :
    w.cell? ⟨g, 0 + j, none⟩ = some (.int .i64 (l.getD j 0)) ∧ w.frozen? ⟨g, 0 + j, none⟩ = false := by
  have hl : l.length = n := by have := h.1; simpa using this
  have h1 := h.cellAt j (by omega)
  rw [Nat.zero_add]
  refine ⟨?_, h.frozenAt j⟩
  rw [h1, List.getElem?_map, List.getElem?_eq_getElem (by omega)]
  simp [List.getD, List.getElem?_eq_getElem (show j < l.length by omega)]

theorem heap_putRow {α : Type} [Inhabited α] (enc : α → Value) (w : World) (q g : Nat) (D : Array α) {cur : Array Value} {e : TypeId} {fr : Nat × Nat} (h : w.heap[g]? = some (.cells cur e fr)) :
    (putRow enc (Sort.ahead w q) g 0 D).heap[g]? = some (.cells (putCells enc 0 D cur) e fr) := by
  simp [putRow, mapBlock, Sort.ahead, Array.getElem?_modify, h, onCells]
theorem grown_putRow {α : Type} [Inhabited α] (enc : α → Value) (w : World) (q g : Nat) (D : Array α) (os : Array Obj) : w.grownBy (grow (putRow enc (Sort.ahead w q) g 0 D) os) (some g) := by
  refine ⟨rfl, rfl, rfl, by simp, fun k hk hne => ?_⟩
  rw [heap_grow_old _ _ (by simpa using hk)]
  have : g ≠ k := fun e => hne (by rw [e])
  simp [putRow, mapBlock, Sort.ahead, Array.getElem?_modify, this]
theorem take_putCells {α : Type} [Inhabited α] (enc : α → Value) (cur : Array Value) (D : Array α) (m : Nat) (hm : m ≤ D.size) (h : D.size ≤ cur.size) : (putCells enc 0 D cur).toList.take m = (D.toList.take m).map enc := by
  apply List.ext_getElem?
  intro j
  by_cases hj : j < m
  · rw [List.getElem?_take_of_lt hj, Array.getElem?_toList, List.getElem?_map, List.getElem?_take_of_lt hj, Array.getElem?_toList]
    have h1 : j < cur.size := by omega
    have h2 : j < D.size := by omega
    simp [putCells, h1, h2]
  · rw [List.getElem?_take_eq_none (by omega), List.getElem?_eq_none (by simp; omega)]
theorem own_putRow {α : Type} [Inhabited α] (enc : α → Value) {w : World} {base g n cap : Nat} {e : TypeId} {xs : List Value} (h : w.ownsRow base e 1 (.slice (some ⟨g, 0, none⟩) n cap) n xs) (q : Nat) (D : Array α) (hD : D.size = n) (m : Nat) (hm : m ≤ n) :
    (putRow enc (Sort.ahead w q) g 0 D).ownsRow base e 1 (.slice (some ⟨g, 0, none⟩) m cap) m ((D.toList.take m).map enc) := by
  obtain ⟨h1, h2⟩ := h
  rcases h2 with ⟨h2, _⟩ | ⟨g', cap', cur, hv, hg, hh, hn, hc, hs, ht⟩
  · cases h2
  · obtain ⟨rfl, rfl⟩ : g = g' ∧ cap = cap' := by simpa using hv
    refine ⟨by simp; omega, .inr ⟨g, cap, _, rfl, hg, heap_putRow enc w q g D hh, by omega, hc, by simp [putCells, hs], ?_⟩⟩
    rw [Nat.mul_one]
    exact take_putCells enc cur D m (by omega) (by omega)

set_option maxHeartbeats 1000000 in
/-- A row of the call's own from which elements are deleted in place. -/
theorem delete_own (w : World) (base g n cap : Nat) (l : List Int) (hown : w.ownsRow base 3 1 (.slice (some ⟨g, 0, none⟩) n cap) n (l.map (Value.int .i64))) (ll : Nat) (h0 : 0 < ll) (hl : ∀ x ∈ l, 0 ≤ x ∧ x < ll)
    (f : Nat) (lb : Array Value) (eg : ∀ args w, (callFunc f args).run Tryz.prog w = .ok (.enter f args) w) (q : Int → Bool)
    (hcl : ∀ W, w.grownBy W (some g) → ∀ x : Int, 0 ≤ x → x < ll → FnGives Tryz.prog f lb #[.int .i64 x] (.bool (q x)) W) :
    Calls Tryz.prog 54 #[.slice (some ⟨g, 0, none⟩) n cap, .func (.func f) #[] lb] w fun e w' =>
      e = .returned (.slice (some ⟨g, 0, none⟩) (l.filter fun x => !q x).length cap) ∧
      w'.ownsRow base 3 1 (.slice (some ⟨g, 0, none⟩) (l.filter fun x => !q x).length cap) (l.filter fun x => !q x).length ((l.filter fun x => !q x).map (Value.int .i64)) ∧ w.grownBy w' (some g) := by
  have hln : l.length = n := by have := hown.1; simpa using this
  obtain ⟨_, hcap, _, hmax, _⟩ : n ≤ n ∧ n ≤ cap ∧ True ∧ cap ≤ maxLen ∧ True := by
    rcases hown.2 with ⟨h2, _⟩ | ⟨g', cap', cur, hv, hg, hh, hn, hc, hs, ht⟩
    · cases h2
    · obtain ⟨rfl, rfl⟩ : g = g' ∧ cap = cap' := by simpa using hv
      exact ⟨Nat.le_refl _, hn, trivial, hc, trivial⟩
  let D : List (Lev ll) := l.pmap (fun x h => ⟨x, .inl h⟩) hl
  have hDx : D.map (·.x) = l := by
    show (l.pmap (fun x h => (⟨x, .inl h⟩ : Lev ll)) hl).map (·.x) = l
    rw [List.map_pmap]; simp
  have hDlen : D.length = n := by rw [← hln, ← hDx]; simp
  have hen : ∀ L : List (Lev ll), L.map encL = (L.map (·.x)).map (Value.int .i64) := fun L => by simp [encL]
  have hfil : ∀ L : List (Lev ll), (L.filter fun y => !q y.x).map (·.x) = (L.map (·.x)).filter fun x => !q x := fun L => by
    rw [List.filter_map]; rfl
  have hflen : (D.filter fun y => !q y.x).length = (l.filter fun x => !q x).length := by
    have := congrArg List.length (hfil D); rw [hDx] at this; simpa using this
  have gv : ∀ W, w.grownBy W (some g) → ∀ y : Lev ll, FnGives Tryz.prog f lb #[encL y] (.bool (q y.x)) W := fun W hW y => by
    rcases y with ⟨x, h | h⟩
    · exact hcl W hW x h.1 h.2
    · exact hcl W hW x (by omega) (by omega)
  have hH : Holds encL w g 0 D.toArray := fun j hj => by
    have hj' : j < D.length := by simpa using hj
    have hjn : j < n := by omega
    obtain ⟨h1, h2⟩ := own_grown_holds hown j hjn
    refine ⟨?_, h2⟩
    rw [h1]
    have e : l.getD j 0 = (D[j]'hj').x := by
      have hx : l[j]? = some (D[j]'hj').x := by rw [← hDx, List.getElem?_map, List.getElem?_eq_getElem hj']; rfl
      simp [List.getD, hx]
    rw [e]
    simp [encL, hj']
  have hmx : cap ≤ 9223372036854775807 := by unfold maxLen at hmax; exact hmax
  have hcon := Tryz.slices_DeleteFunc encL (fun _ => rfl) (fun y => q y.x) f lb eg default Tryz.zeroValue3 g 0 cap D.toArray w
    (fun W y hb => gv W ⟨hb.os, hb.tape, hb.output, hb.size, fun k hk _ => hb.block k hk⟩ y) (fun k os dk y _ => gv _ (grown_putRow encL w k g dk os) y) hH (by simp; omega) (by simp; omega)
  have hsz : D.toArray.size = n := by simpa using hDlen
  rw [hsz] at hcon
  refine hcon.mono fun e w' ⟨he, k, hw'⟩ => ?_
  simp only at he hw'
  rw [hflen] at he hw'
  let R : List (Lev ll) := (D.filter fun y => !q y.x) ++ List.replicate (n - (l.filter fun x => !q x).length) default
  have hw2 : w' = putRow encL (Sort.ahead w k) g 0 R.toArray := hw'
  have hle : (l.filter fun x => !q x).length ≤ n := by rw [← hln]; exact List.length_filter_le _ _
  have hRl : R.toArray.size = n := by
    show (List.toArray ((D.filter fun y => !q y.x) ++ List.replicate (n - (l.filter fun x => !q x).length) (default : Lev ll))).size = n
    simp only [List.size_toArray, List.length_append, hflen, List.length_replicate]; omega
  have hRt : (R.toArray.toList.take (l.filter fun x => !q x).length).map encL = (l.filter fun x => !q x).map (Value.int .i64) := by
    show ((List.toArray ((D.filter fun y => !q y.x) ++ List.replicate (n - (l.filter fun x => !q x).length) (default : Lev ll))).toList.take (l.filter fun x => !q x).length).map encL = _
    rw [List.toList_toArray, List.take_append_of_le_length (by rw [hflen]; exact Nat.le_refl _), ← hflen, List.take_length, hen, hfil, hDx]
  refine ⟨he, ?_, ?_⟩
  · rw [hw2, ← hRt]
    exact own_putRow encL hown k R.toArray hRl _ hle
  · rw [hw2]
    have := grown_putRow encL w k g R.toArray #[]
    rwa [grow_empty] at this
end Go.Proofs.YtaemfafnmhndiaaGreatDoor
namespace Go.Proofs.YtaemfafnmhndiaaGreatDoor
open Go.RowKit Go.Maps Go.WideMaps Go.Sort

theorem ints_i64 {w : World} {oa : Option Addr} {len : Nat} {l : List Int} (h : IsInts w oa len l) : ∀ x ∈ l, I64 x := by
  intro x hx
  obtain ⟨i, hi⟩ := List.mem_iff_getElem?.1 hx
  have hlt : i < len := by rw [← h.hlen]; exact (List.getElem?_eq_some_iff.1 hi).1
  obtain ⟨b, off, _, _, hc⟩ := h.cells (by omega)
  obtain ⟨cs, _, hr, _⟩ := hc i x hi
  exact hr.2
theorem own_grow {w : World} {base : Nat} {e : TypeId} {size n : Nat} {v : Value} {xs : List Value} (h : w.ownsRow base e size v n xs) (os : Array Obj) : (grow w os).ownsRow base e size v n xs :=
  h.kept (row := none) ⟨rfl, rfl, rfl, by simp [grow], fun k hk _ => heap_grow_old w os hk⟩ (by cases v.ownBlock <;> simp)

theorem clone_any (w : World) (oa : Option Addr) (len cap : Nat) (l : List Int) (h : IsInts w oa len l) :
    Calls Tryz.prog 51 #[.slice oa len cap] w fun e w' => ∃ oa' cap', e = .returned (.slice oa' len cap') ∧ OwnI w' w.heap.size oa' len cap' l ∧ Below w.heap.size w w' := by
  have hm := h.hmax
  have hl := h.hlen
  have h64 : ∀ x ∈ l, I64 x := ints_i64 h
  cases oa with
  | none =>
    have h0 : len = 0 := by
      rcases Nat.eq_zero_or_pos len with c | c
      · exact c
      · obtain ⟨b, off, he, _⟩ := h.cells c; cases he
    subst h0
    obtain rfl : l = [] := List.eq_nil_of_length_eq_zero hl
    exact (Tryz.slices_Clone_int_nil 0 cap w).mono fun e w' ⟨h1, h2⟩ => ⟨none, 0, h1, OwnI.nil_ _ _, by rw [h2]; exact Below.refl _ _⟩
  | some a =>
    rcases Nat.eq_zero_or_pos len with h0 | h0
    · subst h0
      obtain rfl : l = [] := List.eq_nil_of_length_eq_zero hl
      refine (Tryz.slices_Clone_int_zero a cap w).mono fun e w' ⟨v, h1, h2, _, h3⟩ => ?_
      obtain ⟨oa', cap', rfl⟩ := own_form h2
      exact ⟨oa', cap', h1, ⟨h2, rfl, h64, by omega⟩, h3⟩
    · obtain ⟨b, off, he, hb, hc⟩ := h.view h0
      injection he with he
      subst he
      refine (Tryz.slices_Clone_int b off len cap l w (by omega) (by omega) hc).mono fun e w' ⟨v, h1, h2, _, h3⟩ => ?_
      obtain ⟨oa', cap', rfl⟩ := own_form h2
      rw [List.take_of_length_le (by omega)] at h2
      exact ⟨oa', cap', h1, ⟨h2, hl, h64, by omega⟩, h3⟩

theorem sort_own (w : World) (base : Nat) (oa : Option Addr) (n cap : Nat) (l : List Int) (h : OwnI w base oa n cap l) :
    Calls Tryz.prog 58 #[.slice oa n cap] w fun e w' => e = .returned (.tuple #[]) ∧ OwnI w' base oa n cap (l.mergeSort fun x y => decide (x ≤ y)) ∧ w.grownBy w' (Value.slice oa n cap).ownBlock := by
  obtain ⟨h1, h2, h3, h4⟩ := h
  have hsame : OwnI w base oa n cap l := ⟨h1, h2, h3, h4⟩
  have hmem : ∀ x ∈ l.mergeSort fun x y => decide (x ≤ y), I64 x := fun x hx => h3 x (List.mem_mergeSort.1 hx)
  rcases h1.2 with ⟨he, h0⟩ | ⟨g, cap', cur, he, hb, hh, hn, hc, hs, ht⟩
  · injection he with he1 _ he3
    subst h0 he1 he3
    obtain rfl : l = [] := List.eq_nil_of_length_eq_zero h2
    refine (Tryz.slices_Sort_int_none none 0 w).mono fun e w' ⟨e1, e2⟩ => ⟨e1, ?_, ?_⟩
    · rw [e2, show ([] : List Int).mergeSort (fun x y => decide (x ≤ y)) = [] by simp]; exact hsame
    · rw [e2]; exact ⟨rfl, rfl, rfl, Nat.le_refl _, fun _ _ _ => rfl⟩
  · injection he with he1 _ he3
    subst he1 he3
    have hH : Holds (Value.int .i64) w g 0 l.toArray := fun j hj => by
      have hj' : j < l.length := by simpa using hj
      obtain ⟨q1, q2⟩ := own_grown_holds h1 j (by omega)
      refine ⟨?_, q2⟩
      rw [q1]
      simp [List.getD, hj']
    subst h2
    refine (Tryz.slices_Sort_int g 0 cap l w hH (by rcases Nat.lt_or_ge g w.heap.size with c | c; exact c; rw [Array.getElem?_eq_none c] at hh; cases hh) (by omega)).mono fun e w' ⟨e1, q, os, e2⟩ => ⟨e1, ?_, ?_⟩
    · have hD : (l.mergeSort fun x y => decide (x ≤ y)).toArray.size = l.length := by simp
      have := own_putRow (Value.int .i64) h1 q (l.mergeSort fun x y => decide (x ≤ y)).toArray hD l.length (Nat.le_refl _)
      rw [List.toList_toArray, List.take_of_length_le (by simp)] at this
      refine ⟨?_, by simp, hmem, by omega⟩
      rw [e2]
      exact own_grow this os
    · rw [e2]
      exact grown_putRow (Value.int .i64) w q g _ os
end Go.Proofs.YtaemfafnmhndiaaGreatDoor
namespace Go.Proofs.YtaemfafnmhndiaaGreatDoor
open Go.RowKit Go.Maps Go.WideMaps Go.Sort

def fewR (r : GRule) : Bool := decide (r.head.length + r.body.length + r.w.length ≤ 36)
def fewM (m : GMin) : Bool := decide (m.lits.length + m.w.length ≤ 24)
def fewB (p : GProg) : Bool := decide (p.n ≤ 12) && (decide (p.names.length ≤ 12) && (decide (p.shown.length ≤ 12) && (decide (p.rules.length ≤ 16) && (decide (p.min.length ≤ 6) && (p.names.all (fun s => decide (s.size ≤ 40)) && (p.rules.all fewR && p.min.all fewM))))))

set_option maxRecDepth 100000 in
set_option maxHeartbeats 4000000 in
theorem few_any (w : World) (p : GProg) (n : Int) (on : Option Addr) (ln cn : Nat) (os : Option Addr) (ls cs : Nat) (or : Option Addr) (lr cr : Nat) (om : Option Addr) (lm cm : Nat) (h : IsProg w n on ln os ls or lr om lm p) :
    Calls Tryz.prog 11 #[.agg #[.int .i64 n, .slice on ln cn, .slice os ls cs, .slice or lr cr, .slice om lm cm]] w fun e w' => e = .returned (.bool (fewB p)) ∧ Below w.heap.size w w' := by
  obtain ⟨rfl, hi, hn, hs, hr, hmn⟩ := h
  obtain ⟨n, names, shown, rules, mins⟩ := p
  simp only at hi hn hs hr hmn ⊢
  have L1 := Lib.hid hn.hlen
  have L2 := Lib.hid hs.hlen
  have L3 := Lib.hid hr.hlen
  have L4 := Lib.hid hmn.hlen
  have M1 := hn.hmax
  have M2 := hs.hmax
  have M3 := hr.hmax
  have M4 := hmn.hmax
  obtain ⟨hi1, hi2⟩ := hi
  by_cases hbad : 12 < n ∨ 12 < ln ∨ 12 < ls ∨ 16 < lr ∨ 6 < lm
  · have HF : Hid (fewB ⟨n, names, shown, rules, mins⟩ = false) := by
      have l1 := L1.out; have l2 := L2.out; have l3 := L3.out; have l4 := L4.out
      unfold Hid fewB
      simp only [l1, l2, l3, l4, Bool.and_eq_false_iff, decide_eq_false_iff_not]
      omega
    by_cases b1 : 12 < n
    · clear hbad
      go_enter Tryz.func11, Tryz.ntmps11
      go_wp2_with fail
      go_ret
      exact ⟨ret_bool HF.out.symm, below_alloc w _⟩
    by_cases b2 : 12 < ln
    · clear hbad
      go_enter Tryz.func11, Tryz.ntmps11
      go_wp2_with fail
      go_ret
      exact ⟨ret_bool HF.out.symm, below_alloc w _⟩
    by_cases b3 : 12 < ls
    · clear hbad
      go_enter Tryz.func11, Tryz.ntmps11
      go_wp2_with fail
      go_ret
      exact ⟨ret_bool HF.out.symm, below_alloc w _⟩
    by_cases b4 : 16 < lr
    · clear hbad
      go_enter Tryz.func11, Tryz.ntmps11
      go_wp2_with fail
      go_ret
      exact ⟨ret_bool HF.out.symm, below_alloc w _⟩
    have b5 : 6 < lm := by omega
    clear hbad
    go_enter Tryz.func11, Tryz.ntmps11
    go_wp2_with fail
    go_ret
    exact ⟨ret_bool HF.out.symm, below_alloc w _⟩
  have g1 : n ≤ 12 := by omega
  have g2 : ln ≤ 12 := by omega
  have g3 : ls ≤ 12 := by omega
  have g4 : lr ≤ 16 := by omega
  have g5 : lm ≤ 6 := by omega
  clear hbad
  have HF : Hid (fewB ⟨n, names, shown, rules, mins⟩ = (names.all (fun s => decide (s.size ≤ 40)) && (rules.all fewR && mins.all fewM))) := by
    have l1 := L1.out; have l2 := L2.out; have l3 := L3.out; have l4 := L4.out
    unfold Hid fewB
    simp only [l1, l2, l3, l4, decide_eq_true g1, decide_eq_true g2, decide_eq_true g3, decide_eq_true g4, decide_eq_true g5, Bool.true_and]
  go_enter Tryz.func11, Tryz.ntmps11
  go_wp2_with fail
  go_loopw [39] (fun i wr => ∃ k : Nat, k ≤ ln ∧ i = .int .i64 k ∧ Hid (names.all (fun s => decide (s.size ≤ 40)) = (names.drop k).all (fun s => decide (s.size ≤ 40))) ∧
    Hid (Below (w.heap.size + 1) (w.alloc (.cells #[.int .i64 n, .slice on ln cn, .slice os ls cs, .slice or lr cr, .slice om lm cm] 27)) wr)) (fun i _ => ln - (intOf i).toNat)
  case atStart => exact ⟨0, Nat.zero_le _, rfl, rfl, by show Below _ _ _; exact Below.refl _ _⟩
  case round =>
    obtain ⟨k, hk, rfl, hno, HB⟩ := hrel
    have hbx := box_cells HB.out
    have HW := Lib.hid (box_below HB.out)
    by_cases hlt : k < ln
    · obtain ⟨b, off, s, rfl, hc, hs0, hd, hg⟩ := (hn.below HW.out).at_ hlt
      have Hgo : Hid (names.all (fun s => decide (s.size ≤ 40)) = (decide (s.size ≤ 40) && (names.drop (k + 1)).all (fun s => decide (s.size ≤ 40)))) := by rw [Hid, hno.out, hd.out]; rfl
      clear hno
      by_cases h40 : s.size ≤ 40
      · go_wp2_with fail
        go_roundw
        case rel => exact ⟨k + 1, by omega, by go_num, by rw [Hid, Hgo.out]; simp [h40], HB.out⟩
        case measure => simp [intOf]; omega
      · go_wp2_with fail
        go_ret
        exact ⟨ret_bool (by rw [HF.out, Hgo.out]; simp [h40]), HW.out⟩
    · have HN : Hid (names.all (fun s => decide (s.size ≤ 40)) = true) := by rw [Hid, hno.out, List.drop_eq_nil_of_le (by rw [L1.out]; omega)]; rfl
      clear hno
      obtain ⟨V, hV⟩ : ∃ V, V = wr := ⟨_, rfl⟩
      subst hV
      go_wp2_with fail
      go_loopw [50] (fun i wr => ∃ k : Nat, k ≤ lr ∧ i = .int .i64 k ∧ Hid (rules.all fewR = (rules.drop k).all fewR) ∧
        Hid (Below (w.heap.size + 1) (w.alloc (.cells #[.int .i64 n, .slice on ln cn, .slice os ls cs, .slice or lr cr, .slice om lm cm] 27)) wr)) (fun i _ => lr - (intOf i).toNat)
      case atStart => exact ⟨0, Nat.zero_le _, rfl, rfl, HB.out⟩
      case round =>
        clear HB hbx HW
        obtain ⟨k2, hk2, rfl, hno, HB⟩ := hrel
        have hbx := box_cells HB.out
        have HW := Lib.hid (box_below HB.out)
        have hsz : w.heap.size < wr.heap.size := box_lt HB.out
        by_cases hlt2 : k2 < lr
        · obtain ⟨b, off, r, oh, lh, ch, ob, lb, cb, ow, lw, cw, rfl, hb, c0, c1, c2, c3, c4, c5, i1, i2, i3, i4, hd, hg⟩ := (hr.below HW.out).at_ hlt2
          have Hgo : Hid (rules.all fewR = (fewR r && (rules.drop (k2 + 1)).all fewR)) := by rw [Hid, hno.out, hd.out]; rfl
          have I1 := Lib.hid i1.hlen
          have I2 := Lib.hid i2.hlen
          have I3 := Lib.hid i3.hlen
          have N1 := i1.hmax
          have N2 := i2.hmax
          have N3 := i3.hmax
          clear hno i1 i2 i3
          by_cases h36 : (lh : Int) + lb + lw ≤ 36
          · go_wp2_with fail
            go_roundw
            case rel => exact ⟨k2 + 1, by omega, by go_num, by
              have : fewR r = true := by unfold fewR; rw [I1.out, I2.out, I3.out]; simp; omega
              rw [Hid, Hgo.out, this]; simp, HB.out.trans ((below_alloc _ _).mono (Nat.succ_le_of_lt hsz))⟩
            case measure => simp [intOf]; omega
          · go_wp2_with fail
            go_ret
            exact ⟨ret_bool (by
              have : fewR r = false := by unfold fewR; rw [I1.out, I2.out, I3.out]; simp; omega
              rw [HF.out, Hgo.out, this]; simp), below_alloc_of HW.out _⟩
        · have HR : Hid (rules.all fewR = true) := by rw [Hid, hno.out, List.drop_eq_nil_of_le (by rw [L3.out]; omega)]; rfl
          clear hno
          obtain ⟨V2, hV2⟩ : ∃ V2, V2 = wr := ⟨_, rfl⟩
          subst hV2
          go_wp2_with fail
          go_loopw [70] (fun i wr => ∃ k : Nat, k ≤ lm ∧ i = .int .i64 k ∧ Hid (mins.all fewM = (mins.drop k).all fewM) ∧
            Hid (Below (w.heap.size + 1) (w.alloc (.cells #[.int .i64 n, .slice on ln cn, .slice os ls cs, .slice or lr cr, .slice om lm cm] 27)) wr)) (fun i _ => lm - (intOf i).toNat)
          case atStart => exact ⟨0, Nat.zero_le _, rfl, rfl, HB.out⟩
          case round =>
            clear HB hbx HW hsz
            obtain ⟨k3, hk3, rfl, hno, HB⟩ := hrel
            have HW := Lib.hid (box_below HB.out)
            have hsz : w.heap.size < wr.heap.size := box_lt HB.out
            by_cases hlt3 : k3 < lm
            · obtain ⟨b, off, r, ol, ll, cl, ow, lw, cw, rfl, hb, c0, c1, c2, i1, i2, i3, hd, hg⟩ := (hmn.below HW.out).at_ hlt3
              have Hgo : Hid (mins.all fewM = (fewM r && (mins.drop (k3 + 1)).all fewM)) := by rw [Hid, hno.out, hd.out]; rfl
              have I1 := Lib.hid i1.hlen
              have I2 := Lib.hid i2.hlen
              have N1 := i1.hmax
              have N2 := i2.hmax
              clear hno i1 i2
              by_cases h24 : (ll : Int) + lw ≤ 24
              · go_wp2_with fail
                go_roundw
                case rel => exact ⟨k3 + 1, by omega, by go_num, by
                  have : fewM r = true := by unfold fewM; rw [I1.out, I2.out]; simp; omega
                  rw [Hid, Hgo.out, this]; simp, HB.out.trans ((below_alloc _ _).mono (Nat.succ_le_of_lt hsz))⟩
                case measure => simp [intOf]; omega
              · go_wp2_with fail
                go_ret
                exact ⟨ret_bool (by
                  have : fewM r = false := by unfold fewM; rw [I1.out, I2.out]; simp; omega
                  rw [HF.out, Hgo.out, this]; simp), below_alloc_of HW.out _⟩
            · have HM : Hid (mins.all fewM = true) := by rw [Hid, hno.out, List.drop_eq_nil_of_le (by rw [L4.out]; omega)]; rfl
              clear hno
              go_wp2_with fail
              go_ret
              exact ⟨ret_bool (by rw [HF.out, HN.out, HR.out, HM.out]; rfl), HW.out⟩

/-- What Subset hands back: some set of atoms, in order. -/
def SubsetRet (N : Nat) (w : World) (e : Ending) (w' : World) : Prop :=
  ∃ oa len cap l, e = .returned (.slice oa len cap) ∧ IsInts w' oa len l ∧ l.Pairwise (· < ·) ∧ (∀ x ∈ l, 1 ≤ x ∧ x ≤ (N : Int)) ∧ Below w.heap.size w w'

set_option maxRecDepth 100000 in
set_option maxHeartbeats 4000000 in
theorem subset_any (w : World) (N : Nat) (hN : N ≤ 12) (bits : Int) (_hb0 : 0 ≤ bits) (_hb1 : bits ≤ 65535) :
    Calls Tryz.prog 28 #[.int .i64 N, .int .u16 bits] w (SubsetRet N w) := by
  go_enter Tryz.func28, Tryz.ntmps28
  go_wp2_with fail
  go_loopw [5, 6] (fun out a wr => ∃ (k n : Nat) (oL : Option Addr) (cL : Nat) (L : List Int), 1 ≤ k ∧ k ≤ N + 1 ∧ a = .int .i64 k ∧ out = .slice oL n cL ∧ n < k ∧ Hid (OwnI wr w.heap.size oL n cL L) ∧ Hid (L.Pairwise (· < ·)) ∧ Hid (∀ x ∈ L, 1 ≤ x ∧ x < k) ∧ Hid (Below w.heap.size w wr)) (fun _ a _ => N + 1 - (intOf a).toNat)
  case atStart => exact ⟨1, 0, none, 0, [], by omega, by omega, rfl, rfl, by omega, OwnI.nil_ _ _, List.Pairwise.nil, by simp [Hid], Below.refl _ _⟩
  case round =>
    obtain ⟨k, n, oL, cL, L, hk1, hk2, rfl, rfl, hn, HL, HPw, HIn, HB⟩ := hrel
    by_cases hlt : k ≤ N
    · have e1 : (1 : Int) ≤ k := by omega
      have e2 : (k : Int) ≤ N := by omega
      have e3 : (k : Int) ≤ 16 := by omega
      have e4 : (0 : Int) ≤ (k : Int) - 1 := by omega
      go_wp2_with (at_builtin; refine wpList_append_int rfl _ _ rfl w.heap.size _ _ _ L k rfl (HL.out.below (below_alloc _ _)) ⟨_, 0, none⟩ 1 rfl ?_ ⟨by omega, by omega⟩ (by omega) ?_ ?_)
      · simp
      · have := HB.out.size; simp; omega
      · intro oa' cap' w5 hown5 hg5
        have HL5 := Lib.hid hown5
        have HB5 : Hid (Below w.heap.size w w5) := (HB.out.alloc HB.out.size _).grown hg5 (by have := HB.out.size; simp; omega) (fun g hg => (HL.out.1.lt g hg).1)
        clear hown5 hg5
        go_wp2_with fail
        go_roundw
        case rel => exact ⟨k + 1, n + 1, oa', cap', L ++ [(k : Int)], by omega, by omega, by go_num, rfl, by omega, HL5.out,
          List.pairwise_append.2 ⟨HPw.out, by simp, fun x hx y hy => by rw [List.mem_singleton.1 hy]; exact (HIn.out x hx).2⟩,
          fun x hx => by
            rcases List.mem_append.1 hx with hx | hx
            · have := HIn.out x hx; omega
            · rw [List.mem_singleton.1 hx]; omega, HB5.out⟩
        case measure => simp [intOf]; omega
      · exact ⟨⟨k + 1, n, oL, cL, L, by omega, by omega, by go_num, rfl, by omega, HL.out, HPw.out, fun x hx => by have := HIn.out x hx; omega, HB.out⟩, by simp [intOf]; omega⟩
    · go_wp2_with fail
      go_ret
      exact ⟨oL, n, cL, L, rfl, HL.out.ints, HPw.out, fun x hx => by have := HIn.out x hx; omega, HB.out⟩
end Go.Proofs.YtaemfafnmhndiaaGreatDoor
