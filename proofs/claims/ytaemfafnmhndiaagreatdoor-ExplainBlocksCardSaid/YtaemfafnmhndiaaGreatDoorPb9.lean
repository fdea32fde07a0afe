/- Part 9 of the proof: Plain3, Block4, Build, Text1, Text2, Awake2. Conditions: those that each theorem names. -/
import Derived.Test.YtaemfafnmhndiaaGreatDoorPb8
import Derived.Test.YtaemfafnmhndiaaGreatDoorPb7
import Derived.Test.YtaemfafnmhndiaaGreatDoorPb6
import Derived.Test.YtaemfafnmhndiaaGreatDoorPb1
import Derived.Test.YtaemfafnmhndiaaGreatDoorPb2
import Derived.Shelf.Strings.Builder1
import Derived.Lib.AppendIntMem
import Derived.Lib.ItoaLen
import Derived.Deep.RegionHeld3
import Derived.KernelRfl
namespace Go.Proofs.YtaemfafnmhndiaaGreatDoor

def findI (l : List Why) (b : Int) : Int := firstI (fun y => y.atom == b) l 0
def bodyR (l : List Why) (lev : Int) : List Int → List Int → List Int
  | out, [] => out
  | out, b :: bs => bodyR l lev (if 0 ≤ findI l b ∧ (l.getD (findI l b).toNat noWhy).level < lev ∧ inB out b = false then out ++ [b] else out) bs
def ruleBody (rules : List GRule) (y : Why) : List Int := (rules.getD y.rule.toNat default).body
def passR (l : List Why) (rules : List GRule) : List Int → List Why → List Int
  | out, [] => out
  | out, y :: ys => passR l rules (if inB out y.atom then bodyR l y.level out (ruleBody rules y) else out) ys
def roundsR (l : List Why) (rules : List GRule) : Nat → List Int → List Int
  | 0, out => out
  | f + 1, out => roundsR l rules f (passR l rules out l)
def upTo (n : Nat) : List Int := (List.range n).map fun (i : Nat) => (i : Int) + 1
def supportR (p : GProg) (x : Expl) (a : Int) : List Int := (upTo p.n.toNat).filter (inB (roundsR x.whys p.rules x.whys.length [a]))

theorem lookW_key (a : Int) : ∀ (l : List Why) (z : Why), (∃ y ∈ l, y.atom = a) → (l.foldl (fun z y => if y.atom = a then y else z) z) ∈ l ∧ (l.foldl (fun z y => if y.atom = a then y else z) z).atom = a
  | [], _, h => by obtain ⟨y, hy, _⟩ := h; simp at hy
  | u :: l, z, h => by
    rw [List.foldl_cons]
    by_cases hu : u.atom = a
    · rw [if_pos hu]
      rcases lookW_cases a l u with e | ⟨e1, e2⟩
      · rw [e]; exact ⟨by simp, hu⟩
      · exact ⟨List.mem_cons_of_mem _ e1, e2⟩
    · rw [if_neg hu]
      obtain ⟨y, hy, e⟩ := h
      rcases List.mem_cons.1 hy with c | c
      · subst c; exact absurd e hu
      · have := lookW_key a l z ⟨y, c, e⟩
        exact ⟨List.mem_cons_of_mem _ this.1, this.2⟩
theorem lookW_hit {l : List Why} (h : (l.map (·.atom)).Nodup) {y : Why} (hy : y ∈ l) : lookW l y.atom = y := by
  have k := lookW_key y.atom l noWhy ⟨y, hy, rfl⟩
  exact nodup_atoms h k.1 hy k.2

/-- The first index at which a test holds. -/
theorem firstI_spec {α : Type} (p : α → Bool) : ∀ (l : List α) (k : Int), 0 ≤ k → (firstI p l k = -1 ∧ ∀ x ∈ l, p x = false) ∨ ∃ (i : Nat) (x : α), l[i]? = some x ∧ p x = true ∧ firstI p l k = k + i
  | [], k, _ => .inl ⟨rfl, by simp⟩
  | x :: l, k, hk => by
    simp only [firstI]
    by_cases h : p x = true
    · rw [if_pos h]; exact .inr ⟨0, x, rfl, h, by simp⟩
    · rw [if_neg h]
      rcases firstI_spec p l (k + 1) (by omega) with ⟨h1, h2⟩ | ⟨i, y, h1, h2, h3⟩
      · refine .inl ⟨h1, fun y hy => ?_⟩
        rcases List.mem_cons.1 hy with rfl | hy
        · simpa using h
        · exact h2 y hy
      · exact .inr ⟨i + 1, y, by simpa using h1, h2, by rw [h3]; omega⟩

/-- One element for each atom, none the zero element. -/
structure OneEach (l : List Why) : Prop where
  nd : (l.map (·.atom)).Nodup
  lev : ∀ y ∈ l, 1 ≤ y.level
theorem OneEach.ne {l : List Why} (h : OneEach l) {y : Why} (hy : y ∈ l) : y ≠ noWhy := fun e => by
  have := h.lev y hy; rw [e] at this; simp [noWhy] at this
theorem find_look {l : List Why} (h : OneEach l) (b : Int) : (0 ≤ findI l b ↔ lookW l b ≠ noWhy) ∧ (0 ≤ findI l b → l.getD (findI l b).toNat noWhy = lookW l b) := by
  unfold findI
  rcases firstI_spec (fun y : Why => y.atom == b) l 0 (Int.le_refl 0) with ⟨h1, h2⟩ | ⟨i, y, h1, h2, h3⟩
  · rw [h1]
    refine ⟨⟨fun c => absurd c (by omega), fun c => ?_⟩, fun c => absurd c (by omega)⟩
    have := lookW_mem c
    have h3 := h2 _ this.1
    simp [this.2] at h3
  · rw [h3]
    have hy : y ∈ l := List.mem_of_getElem? h1
    have hb : y.atom = b := by simpa using h2
    have hl : lookW l b = y := by rw [← hb]; exact lookW_hit h.nd hy
    rw [hl]
    refine ⟨⟨fun _ => h.ne hy, fun _ => by omega⟩, fun _ => ?_⟩
    have e : (0 + (i : Int)).toNat = i := by omega
    rw [e, List.getD_eq_getElem?_getD, h1]; rfl
theorem bodyR_eq {l : List Why} (h : OneEach l) (lev : Int) : ∀ (bs out : List Int), bodyR l lev out bs = bodyGo l lev out bs
  | [], _ => rfl
  | b :: bs, out => by
    simp only [bodyR, bodyGo]
    have hf := find_look h b
    by_cases c : 0 ≤ findI l b
    · rw [hf.2 c, bodyR_eq h lev bs]
      have := hf.1.1 c
      simp only [c, this, ne_eq, not_false_eq_true, true_and]
    · have c2 : ¬ lookW l b ≠ noWhy := fun e => c (hf.1.2 e)
      rw [if_neg (fun e => c e.1), if_neg (fun e => c2 e.1), bodyR_eq h lev bs]

theorem mem_bodyGo (l : List Why) (lev x : Int) : ∀ (bs out : List Int), x ∈ bodyGo l lev out bs ↔ x ∈ out ∨ (x ∈ bs ∧ lookW l x ≠ noWhy ∧ (lookW l x).level < lev)
  | [], out => by simp [bodyGo]
  | b :: bs, out => by
    simp only [bodyGo]
    rw [mem_bodyGo l lev x bs]
    by_cases c : lookW l b ≠ noWhy ∧ (lookW l b).level < lev ∧ inB out b = false
    · rw [if_pos c]
      simp only [List.mem_append, List.mem_cons, List.not_mem_nil, or_false]
      constructor
      · rintro ((h | rfl) | h)
        · exact .inl h
        · exact .inr ⟨.inl rfl, c.1, c.2.1⟩
        · exact .inr ⟨.inr h.1, h.2⟩
      · rintro (h | ⟨rfl | h, h2⟩)
        · exact .inl (.inl h)
        · exact .inl (.inr rfl)
        · exact .inr ⟨h, h2⟩
    · rw [if_neg c]
      simp only [List.mem_cons]
      constructor
      · rintro (h | h)
        · exact .inl h
        · exact .inr ⟨.inr h.1, h.2⟩
      · rintro (h | ⟨rfl | h, h2⟩)
        · exact .inl h
        · left
          have : ¬ inB out x = false := fun e => c ⟨h2.1, h2.2, e⟩
          exact (inB_iff _ _).1 (by simpa using this)
        · exact .inr ⟨h, h2⟩
theorem bodyGo_ok {l : List Why} {m : List Int} (hm : ∀ y ∈ l, y.atom ∈ m) (lev : Int) : ∀ (bs out : List Int), OutOk l m out → OutOk l m (bodyGo l lev out bs)
  | [], _, h => h
  | b :: bs, out, h => by
    simp only [bodyGo]
    by_cases c : lookW l b ≠ noWhy ∧ (lookW l b).level < lev ∧ inB out b = false
    · rw [if_pos c]; exact bodyGo_ok hm lev bs _ (h.add hm c.1 c.2.2)
    · rw [if_neg c]; exact bodyGo_ok hm lev bs _ h
theorem bodyGo_prefix (l : List Why) (lev : Int) : ∀ (bs out : List Int), ∃ e, bodyGo l lev out bs = out ++ e
  | [], out => ⟨[], by simp [bodyGo]⟩
  | b :: bs, out => by
    simp only [bodyGo]
    by_cases c : lookW l b ≠ noWhy ∧ (lookW l b).level < lev ∧ inB out b = false
    · rw [if_pos c]
      obtain ⟨e, he⟩ := bodyGo_prefix l lev bs (out ++ [b])
      exact ⟨b :: e, by rw [he]; simp⟩
    · rw [if_neg c]; exact bodyGo_prefix l lev bs out

/-- The edges, and what they reach. -/
def EdgeW (l : List Why) (rules : List GRule) (u b : Int) : Prop := b ∈ ruleBody rules (lookW l u) ∧ lookW l b ≠ noWhy ∧ (lookW l b).level < (lookW l u).level
inductive Reach (l : List Why) (rules : List GRule) (a : Int) : Int → Prop
  | here : Reach l rules a a
  | step {u b : Int} : Reach l rules a u → EdgeW l rules u b → Reach l rules a b
def ClosedW (l : List Why) (rules : List GRule) (out : List Int) (u : Int) : Prop := ∀ b, EdgeW l rules u b → b ∈ out
theorem reach_closed {l : List Why} {rules : List GRule} {a : Int} {out : List Int} (ha : a ∈ out) (hc : ∀ u ∈ out, ClosedW l rules out u) {x : Int} (h : Reach l rules a x) : x ∈ out := by
  induction h with
  | here => exact ha
  | step _ e ih => exact hc _ ih _ e

theorem suppGo_spec {l : List Why} {rules : List GRule} {m : List Int} {a : Int} (hm : ∀ y ∈ l, y.atom ∈ m) : ∀ (f at_ : Nat) (out : List Int), OutOk l m out → a ∈ out → m.length + 1 ≤ f + at_ →
    (∀ i x, i < at_ → out[i]? = some x → ClosedW l rules out x) → (∀ x ∈ out, Reach l rules a x) →
    OutOk l m (suppGo l rules f at_ out) ∧ a ∈ suppGo l rules f at_ out ∧ (∀ u ∈ suppGo l rules f at_ out, ClosedW l rules (suppGo l rules f at_ out) u) ∧ ∀ x ∈ suppGo l rules f at_ out, Reach l rules a x
  | 0, at_, out, ho, ha, hf, hc, hr => by
    refine ⟨ho, ha, fun u hu => ?_, hr⟩
    obtain ⟨i, hi⟩ := List.mem_iff_getElem?.1 hu
    have h1 : i < out.length := (List.getElem?_eq_some_iff.1 hi).1
    have h2 := nodup_length out m ho.nodup ho.sub
    exact hc i u (by omega) hi
  | f + 1, at_, out, ho, ha, hf, hc, hr => by
    cases hx : out[at_]? with
    | none =>
      have e : suppGo l rules (f + 1) at_ out = out := by simp only [suppGo, hx]
      rw [e]
      refine ⟨ho, ha, fun u hu => ?_, hr⟩
      obtain ⟨i, hi⟩ := List.mem_iff_getElem?.1 hu
      have h1 : i < out.length := (List.getElem?_eq_some_iff.1 hi).1
      have h2 : out.length ≤ at_ := by simpa using hx
      exact hc i u (by omega) hi
    | some x =>
      have e : suppGo l rules (f + 1) at_ out = suppGo l rules f (at_ + 1) (bodyGo l (lookW l x).level out (rules.getD (lookW l x).rule.toNat default).body) := by simp only [suppGo, hx]
      rw [e]
      obtain ⟨ex, hex⟩ := bodyGo_prefix l (lookW l x).level (rules.getD (lookW l x).rule.toNat default).body out
      have hsub : ∀ z ∈ out, z ∈ bodyGo l (lookW l x).level out (rules.getD (lookW l x).rule.toNat default).body := fun z hz => by rw [hex]; exact List.mem_append.2 (.inl hz)
      have hlen : at_ < out.length := (List.getElem?_eq_some_iff.1 hx).1
      refine suppGo_spec hm f (at_ + 1) _ (bodyGo_ok hm _ _ _ ho) (hsub a ha) (by omega) (fun i z hi hz b hb => ?_) (fun z hz => ?_)
      · have hz' : out[i]? = some z := by rw [← hz, hex, List.getElem?_append_left (by omega)]
        by_cases c : i < at_
        · exact hsub _ (hc i z c hz' b hb)
        · obtain rfl : i = at_ := by omega
          rw [hx] at hz'
          obtain rfl : x = z := by simpa using hz'
          exact (mem_bodyGo l _ b _ _).2 (.inr ⟨hb.1, hb.2.1, hb.2.2⟩)
      · rcases (mem_bodyGo l _ z _ _).1 hz with h | h
        · exact hr z h
        · exact .step (hr x (List.mem_of_getElem? hx)) ⟨h.1, h.2.1, h.2.2⟩

theorem passR_ok {l : List Why} {rules : List GRule} {m : List Int} (h1 : OneEach l) (hm : ∀ y ∈ l, y.atom ∈ m) : ∀ (ys : List Why) (out : List Int), OutOk l m out → OutOk l m (passR l rules out ys)
  | [], _, h => h
  | y :: ys, out, h => by
    simp only [passR]
    split
    · rw [bodyR_eq h1]; exact passR_ok h1 hm ys _ (bodyGo_ok hm _ _ _ h)
    · exact passR_ok h1 hm ys _ h
theorem passR_prefix {l : List Why} {rules : List GRule} (h1 : OneEach l) : ∀ (ys : List Why) (out : List Int), ∃ e, passR l rules out ys = out ++ e
  | [], out => ⟨[], by simp [passR]⟩
  | y :: ys, out => by
    simp only [passR]
    split
    · rw [bodyR_eq h1]
      obtain ⟨e1, he1⟩ := bodyGo_prefix l y.level (ruleBody rules y) out
      obtain ⟨e2, he2⟩ := passR_prefix (rules := rules) h1 ys (bodyGo l y.level out (ruleBody rules y))
      exact ⟨e1 ++ e2, by rw [he2, he1]; simp⟩
    · exact passR_prefix h1 ys out
theorem passR_reach {l : List Why} {rules : List GRule} {a : Int} (h1 : OneEach l) : ∀ (ys : List Why) (out : List Int), (∀ y ∈ ys, y ∈ l) → (∀ x ∈ out, Reach l rules a x) → ∀ x ∈ passR l rules out ys, Reach l rules a x
  | [], _, _, h => h
  | y :: ys, out, hs, h => by
    simp only [passR]
    split
    · rename_i hy
      rw [bodyR_eq h1]
      refine passR_reach h1 ys _ (fun z hz => hs z (by simp [hz])) fun x hx => ?_
      rcases (mem_bodyGo l _ x _ _).1 hx with h' | h'
      · exact h x h'
      · refine .step (h y.atom ((inB_iff _ _).1 hy)) ?_
        unfold EdgeW
        rw [lookW_hit h1.nd (hs y (by simp))]
        exact h'
    · exact passR_reach h1 ys _ (fun z hz => hs z (by simp [hz])) h
/-- A pass that adds nothing finds all closed. -/
theorem passR_same {l : List Why} {rules : List GRule} (h1 : OneEach l) : ∀ (ys : List Why) (out : List Int), (∀ y ∈ ys, y ∈ l) → passR l rules out ys = out → ∀ y ∈ ys, y.atom ∈ out → ClosedW l rules out y.atom
  | [], _, _, _ => by simp
  | y :: ys, out, hs, h => by
    simp only [passR] at h
    intro z hz hin b hb
    have hout : (if inB out y.atom = true then bodyR l y.level out (ruleBody rules y) else out) = out := by
      split at h
      · rename_i c
        rw [if_pos c]
        rw [bodyR_eq h1] at h ⊢
        obtain ⟨e1, he1⟩ := bodyGo_prefix l y.level (ruleBody rules y) out
        obtain ⟨e2, he2⟩ := passR_prefix (rules := rules) h1 ys (bodyGo l y.level out (ruleBody rules y))
        rw [he2, he1, List.append_assoc] at h
        have : e1 ++ e2 = [] := by simpa using h
        rw [he1, (List.append_eq_nil_iff.1 this).1, List.append_nil]
      · rename_i c; rw [if_neg c]
    rw [hout] at h
    rcases List.mem_cons.1 hz with rfl | hz
    · rw [if_pos ((inB_iff _ _).2 hin), bodyR_eq h1] at hout
      rw [← hout]
      unfold EdgeW at hb
      rw [lookW_hit h1.nd (hs z (by simp))] at hb
      exact (mem_bodyGo l _ b _ _).2 (.inr hb)
    · exact passR_same h1 ys out (fun u hu => hs u (by simp [hu])) h z hz hin b hb
theorem roundsR_stop {l : List Why} {rules : List GRule} {out : List Int} (h : passR l rules out l = out) : ∀ f, roundsR l rules f out = out
  | 0 => rfl
  | f + 1 => by simp only [roundsR]; rw [h]; exact roundsR_stop h f
theorem roundsR_spec {l : List Why} {rules : List GRule} {m : List Int} {a : Int} (h1 : OneEach l) (hm : ∀ y ∈ l, y.atom ∈ m) : ∀ (f : Nat) (out : List Int), OutOk l m out → a ∈ out → (∀ x ∈ out, Reach l rules a x) →
    OutOk l m (roundsR l rules f out) ∧ a ∈ roundsR l rules f out ∧ (∀ x ∈ roundsR l rules f out, Reach l rules a x) ∧ (passR l rules (roundsR l rules f out) l = roundsR l rules f out ∨ out.length + f ≤ (roundsR l rules f out).length)
  | 0, out, ho, ha, hr => ⟨ho, ha, hr, .inr (by simp [roundsR])⟩
  | f + 1, out, ho, ha, hr => by
    obtain ⟨e, he⟩ := passR_prefix (rules := rules) h1 l out
    cases e with
    | nil =>
      rw [List.append_nil] at he
      rw [roundsR_stop he (f + 1)]
      exact ⟨ho, ha, hr, .inl he⟩
    | cons z e =>
      simp only [roundsR]
      have ih := roundsR_spec h1 hm f (passR l rules out l) (passR_ok h1 hm l out ho) (by rw [he]; exact List.mem_append.2 (.inl ha)) (passR_reach h1 l out (fun _ h => h) hr)
      refine ⟨ih.1, ih.2.1, ih.2.2.1, ih.2.2.2.imp id fun h => ?_⟩
      have : (passR l rules out l).length = out.length + (e.length + 1) := by rw [he]; simp
      omega

theorem upTo_pairwise (n : Nat) : (upTo n).Pairwise (· < ·) := by
  unfold upTo
  rw [List.pairwise_map]
  exact List.pairwise_lt_range.imp fun h => by omega
theorem mem_upTo {n : Nat} {x : Int} : x ∈ upTo n ↔ 1 ≤ x ∧ x ≤ n := by
  unfold upTo
  rw [List.mem_map]
  constructor
  · rintro ⟨i, hi, rfl⟩; have := List.mem_range.1 hi; omega
  · intro h; exact ⟨(x - 1).toNat, List.mem_range.2 (by omega), by omega⟩
theorem sorted_same {a b : List Int} (ha : a.Pairwise (· < ·)) (hb : b.Pairwise (· < ·)) (h : ∀ x, x ∈ a ↔ x ∈ b) : a = b :=
  sorted_sub_eq b a ha hb (fun x hx => (h x).1 hx) (nodup_length b a (nodup_of_lt hb) fun x hx => (h x).2 hx)

theorem chk_one {p : GProg} {m : List Int} {x : Expl} (c : ChkP p m x) : OneEach x.whys := ⟨c.nd, fun y hy => (c.ok y hy).2.2.1⟩
theorem look_iff {l : List Why} (h : OneEach l) (a : Int) : lookW l a ≠ noWhy ↔ ∃ y ∈ l, y.atom = a := by
  constructor
  · intro c; exact ⟨_, (lookW_mem c).1, (lookW_mem c).2⟩
  · rintro ⟨y, hy, rfl⟩; rw [lookW_hit h.nd hy]; exact h.ne hy

theorem supp_eq {p : GProg} {m : List Int} {x : Expl} {a : Int} (hmi : ∀ a ∈ m, 1 ≤ a ∧ a ≤ p.n) (c : ChkP p m x) (ha : lookW x.whys a ≠ noWhy) :
    (suppGo x.whys p.rules (m.length + 1) 0 [a]).mergeSort (fun a b => decide (a ≤ b)) = supportR p x a := by
  have h1 := chk_one c
  have hm : ∀ y ∈ x.whys, y.atom ∈ m := fun y hy => (c.ok y hy).1
  have ham : a ∈ m := by have := lookW_mem ha; rw [← this.2]; exact hm _ this.1
  have ho : OutOk x.whys m [a] := ⟨by simp, fun z hz => by rw [List.mem_singleton.1 hz]; exact ha, fun z hz => by rw [List.mem_singleton.1 hz]; exact ham⟩
  have hr : ∀ z ∈ [a], Reach x.whys p.rules a z := fun z hz => by rw [List.mem_singleton.1 hz]; exact .here
  obtain ⟨g1, g2, g3, g4⟩ := suppGo_spec (rules := p.rules) (a := a) hm (m.length + 1) 0 [a] ho (by simp) (by omega) (by simp) hr
  obtain ⟨r1, r2, r3, r4⟩ := roundsR_spec (rules := p.rules) (a := a) h1 hm x.whys.length [a] ho (by simp) hr
  have hclosed : ∀ u ∈ roundsR x.whys p.rules x.whys.length [a], ClosedW x.whys p.rules (roundsR x.whys p.rules x.whys.length [a]) u := by
    rcases r4 with r4 | r4
    · intro u hu
      obtain ⟨y, hy, rfl⟩ := (look_iff h1 u).1 (r1.look u hu)
      exact passR_same h1 x.whys _ (fun _ h => h) r4 y hy hu
    · exfalso
      have := nodup_length _ (x.whys.map (·.atom)) r1.nodup fun z hz => by
        obtain ⟨y, hy, rfl⟩ := (look_iff h1 z).1 (r1.look z hz)
        exact List.mem_map.2 ⟨y, hy, rfl⟩
      simp at this r4; omega
  have hperm := List.mergeSort_perm (suppGo x.whys p.rules (m.length + 1) 0 [a]) (fun a b : Int => decide (a ≤ b))
  refine sorted_same (lt_of_le_nodup _ ?_ (hperm.nodup_iff.2 g1.nodup)) ((upTo_pairwise _).filter _) fun z => ?_
  · have := List.pairwise_mergeSort (le := fun a b : Int => decide (a ≤ b)) (by intro a b c h1 h2; simp at *; omega) (by intro a b; simp; omega) (suppGo x.whys p.rules (m.length + 1) 0 [a])
    exact this.imp fun h => by simpa using h
  · rw [hperm.mem_iff, supportR, List.mem_filter, mem_upTo, inB_iff]
    constructor
    · intro hz
      have := hmi z (g1.sub z hz)
      exact ⟨by omega, reach_closed r2 hclosed (g4 z hz)⟩
    · rintro ⟨_, hz⟩
      exact reach_closed g2 g3 (r3 z hz)
end Go.Proofs.YtaemfafnmhndiaaGreatDoor
namespace Go.Proofs.YtaemfafnmhndiaaGreatDoor
open Go.RowKit Go.Maps Go.WideMaps Go.Sort

theorem cellB_new (w : World) (cs : Array Value) (T : TypeId) (j : Nat) : (w.alloc (.cells cs T)).cell? (Addr.add ⟨w.heap.size, 0, none⟩ j) = cs[j]? := by
  by_cases h : j = 0 <;> simp [Addr.add, h]

set_option maxRecDepth 100000 in
set_option maxHeartbeats 4000000 in
theorem blocks_bad (w : World) (p : GProg) (n : Int) (on : Option Addr) (ln cn : Nat) (os : Option Addr) (ls cs : Nat) (or : Option Addr) (lr cr : Nat) (om : Option Addr) (lm cm : Nat)
    (oa : Option Addr) (len cap : Nat) (m : List Int) (a : Int) (h : IsProg w n on ln os ls or lr om lm p) (hm : IsInts w oa len m) (E : Int) (hE : blocksErr p m a = E) (hE0 : E ≠ 0) :
    Calls Tryz.prog 17 #[.agg #[.int .i64 n, .slice on ln cn, .slice os ls cs, .slice or lr cr, .slice om lm cm], .slice oa len cap, .int .i64 a] w
      (RetBlks w [] E) := by
  have HW0 : Hid (Below w.heap.size w (w.alloc (.cells #[.int .i64 n, .slice on ln cn, .slice os ls cs, .slice or lr cr, .slice om lm cm] 27))) := below_alloc w _
  have hn := h.hn
  have hcc : explainErr p m = 0 → a < 1 ∨ n < a ∨ inB m a = true := fun he => by
    have := hE; unfold blocksErr at this; rw [if_neg (by simp [he])] at this; split at this
    · rw [hn]; assumption
    · omega
  have HE := Lib.hid hE
  clear hE hn
  by_cases he : explainErr p m = 0
  · have He := Lib.hid he
    have hE2 : E = 2 := by have := HE.out; unfold blocksErr at this; rw [if_neg (by simp [he])] at this; split at this <;> omega
    have hc := hcc he
    clear he hcc hE0
    subst hE2
    go_enter Tryz.func17, Tryz.ntmps17
    go_wp2_with fail
    refine (echeck_any _ _ _ _ _ _ _ _ _ _ _ _ _ _ _ _ _ _ m (h.below HW0.out) (hm.below HW0.out)).mono ?_
    rw [He.out]
    rintro e w1 ⟨rfl, hb1⟩
    have HB1 := Lib.hid (below_trans_of HW0.out hb1)
    have hbx : ∀ j, w1.cell? ⟨w.heap.size, j, none⟩ = (#[.int .i64 n, .slice on ln cn, .slice os ls cs, .slice or lr cr, .slice om lm cm] : Array Value)[j]? := fun j => (oldCell hb1 w.heap.size j (by simp)).trans (by simp)
    clear hb1
    have HC := Lib.hid (contains_any w1 oa len cap m a (hm.below HB1.out))
    by_cases h1 : a < 1
    · clear hc
      go_wp2_with fail
      go_ret2
      exact ⟨none, 0, 0, rfl, ⟨rfl, by omega, fun h => absurd h (by omega)⟩, HB1.out⟩
    · by_cases h2 : n < a
      · clear hc
        go_wp2_with fail
        go_ret2
        exact ⟨none, 0, 0, rfl, ⟨rfl, by omega, fun h => absurd h (by omega)⟩, HB1.out⟩
      · have h3 : inB m a = true := by rcases hc with c | c | c <;> first | exact absurd c h1 | exact absurd c h2 | exact c
        have H3 := Lib.hid h3
        clear hc h3
        go_wp2_with (go_at_call 57; refine HC.out.mono ?_; rw [H3.out]; rintro e w2 ⟨rfl, m2, rfl⟩)
        go_ret2
        exact ⟨none, 0, 0, rfl, ⟨rfl, by omega, fun h => absurd h (by omega)⟩, below_drewN_of HB1.out _⟩
  · have hE2 : explainErr p m = E := by have := HE.out; unfold blocksErr at this; rwa [if_pos he] at this
    have hE3 := Lib.hid hE2
    have hc1 : (E != 0) = true := by simpa using hE0
    clear he hE2 hcc
    go_enter Tryz.func17, Tryz.ntmps17
    go_wp2_with fail
    refine (echeck_any _ _ _ _ _ _ _ _ _ _ _ _ _ _ _ _ _ _ m (h.below HW0.out) (hm.below HW0.out)).mono ?_
    rw [hE3.out]
    rintro e w1 ⟨rfl, hb1⟩
    have HB1 := Lib.hid (below_trans_of HW0.out hb1)
    clear hb1
    go_wp2_with fail
    go_ret2
    exact ⟨none, 0, 0, rfl, ⟨rfl, by omega, fun h => absurd h (by omega)⟩, HB1.out⟩

set_option maxRecDepth 100000 in
set_option maxHeartbeats 4000000 in
theorem blocks_good (w : World) (n : Int) (names : List ByteArray) (shown : List Int) (rules : List GRule) (mins : List GMin) (on : Option Addr) (ln cn : Nat) (os : Option Addr) (ls cs : Nat) (or : Option Addr) (lr cr : Nat) (om : Option Addr) (lm cm : Nat)
    (oa : Option Addr) (len cap : Nat) (m : List Int) (a : Int) (h : IsProg w n on ln os ls or lr om lm ⟨n, names, shown, rules, mins⟩) (hm : IsInts w oa len m) (he : explainErr ⟨n, names, shown, rules, mins⟩ m = 0)
    (ha1 : 1 ≤ a) (ha2 : a ≤ n) (ha3 : inB m a = false) (hlr : lr ≤ 40000) :
    Calls Tryz.prog 17 #[.agg #[.int .i64 n, .slice on ln cn, .slice os ls cs, .slice or lr cr, .slice om lm cm], .slice oa len cap, .int .i64 a] w
      (RetBlks w (blkGo m a 0 rules) 0) := by
  have HW0 : Hid (Below w.heap.size w (w.alloc (.cells #[.int .i64 n, .slice on ln cn, .slice os ls cs, .slice or lr cr, .slice om lm cm] 27))) := below_alloc w _
  have HG := Lib.hid (rules_good he)
  have He := Lib.hid he
  have H3 := Lib.hid ha3
  have HRl := Lib.hid h.rules.hlen
  clear he ha3
  go_enter Tryz.func17, Tryz.ntmps17
  go_wp2_with fail
  refine (echeck_any _ _ _ _ _ _ _ _ _ _ _ _ _ _ _ _ _ _ m (h.below HW0.out) (hm.below HW0.out)).mono ?_
  rw [He.out]
  rintro e w1 ⟨rfl, hb1⟩
  have HB1 := Lib.hid (below_trans_of HW0.out hb1)
  have hbx : ∀ j, w1.cell? ⟨w.heap.size, j, none⟩ = (#[.int .i64 n, .slice on ln cn, .slice os ls cs, .slice or lr cr, .slice om lm cm] : Array Value)[j]? := fun j => (oldCell hb1 w.heap.size j (by simp)).trans (by simp)
  have hs1 : w.heap.size < w1.heap.size := by have := hb1.size; simp at this; omega
  clear hb1
  have HC := Lib.hid (contains_any w1 oa len cap m a (hm.below HB1.out))
  go_wp2_with (go_at_call 57; refine HC.out.mono ?_; rw [H3.out]; rintro e w2 ⟨rfl, m2, rfl⟩)
  go_loopw [9, 37] (fun out i wr => ∃ (k nB : Nat) (oB : Option Addr) (cB : Nat) (L : List Blk), k ≤ lr ∧ i = .int .i64 k ∧ out = .slice oB nB cB ∧ nB ≤ k ∧ Hid (OwnB wr w1.heap.size oB nB cB L) ∧ Hid (Below w1.heap.size w1 wr) ∧
      Hid (blkGo m a 0 rules = L ++ blkGo m a k (rules.drop k))) (fun _ i _ => lr - (intOf i).toNat)
  case atStart => exact ⟨0, 0, none, 0, [], Nat.zero_le _, rfl, rfl, Nat.le_refl _, OwnB.nil_ _ _, below_drewN _ _, rfl⟩
  case round =>
    obtain ⟨k, nB, oB, cB, L, hk, rfl, rfl, hnB, HL, HB, HGo⟩ := hrel
    have HW : Hid (Below w.heap.size w wr) := below_trans_of HB1.out HB.out
    have hsr := HB.out.size
    have hs1r : w.heap.size < wr.heap.size := by omega
    by_cases hlt : k < lr
    · obtain ⟨b, off, r, oh, lh, ch, ob, lb, cb, ow, lw, cw, rfl, hb, c0, c1, c2, c3, c4, c5, i1, i2, i3, i4, hd, hg⟩ := (h.rules.below HW.out).at_ hlt
      have Hgo : Hid (blkGo m a 0 rules = L ++ ((if inB r.head a then [⟨k, blockK r m, blockL r m⟩] else []) ++ blkGo m a (k + 1) (rules.drop (k + 1)))) := by rw [Hid, HGo.out, hd.out]; rfl
      have Hr := Lib.hid (HG.out r (List.mem_of_getElem? hg.out))
      have e1 : (0 : Int) ≤ k := by omega
      have e2 : (k : Int) < lr := by omega
      have hk4 : k ≤ 40000 := by omega
      clear HGo hd hg
      cases hin : inB r.head a
      · have Hin := Lib.hid hin
        go_wp2_with (go_at_call 57; refine (contains_any _ _ _ _ r.head a (i1.below ?_)).mono ?_; (· (repeat (first | with_reducible exact Below.refl _ _ | with_reducible refine below_drewN_of ?_ _ | with_reducible refine below_alloc_of ?_ _ | with_reducible refine below_set_of ?_ _ _ _ (by simp) | with_reducible assumption | exact ⟨rfl, rfl, rfl, Nat.le_refl _, fun _ _ => rfl⟩))); rw [Hin.out]; rintro e w2 ⟨rfl, m2, rfl⟩)
        go_roundw
        case rel => exact ⟨k + 1, nB, oB, cB, L, by omega, by go_num, rfl, by omega, HL.out.below (by (repeat (first | with_reducible exact Below.refl _ _ | with_reducible refine below_drewN_of ?_ _ | with_reducible refine below_alloc_of ?_ _ | with_reducible refine below_set_of ?_ _ _ _ (by simp) | with_reducible assumption | exact ⟨rfl, rfl, rfl, Nat.le_refl _, fun _ _ => rfl⟩))), below_trans_of HB.out (by (repeat (first | with_reducible exact Below.refl _ _ | with_reducible refine below_drewN_of ?_ _ | with_reducible refine below_alloc_of ?_ _ | with_reducible refine below_set_of ?_ _ _ _ (by simp) | with_reducible assumption | exact ⟨rfl, rfl, rfl, Nat.le_refl _, fun _ _ => rfl⟩))), by rw [Hid, Hgo.out, Hin.out]; simp⟩
        case measure => simp [intOf]; omega
      · have Hin := Lib.hid hin
        have HBK := Lib.hid (blockK_in r m)
        have HBL := Lib.hid (blockL_64 m (ints_i64 i1) (ints_i64 i2))
        obtain ⟨K, hK⟩ : ∃ K, K = blockK r m := ⟨_, rfl⟩
        obtain ⟨B, hB⟩ : ∃ B, B = blockL r m := ⟨_, rfl⟩
        rw [← hK] at HBK
        rw [← hB] at HBL
        have HK := Lib.hid hK
        have HBq := Lib.hid hB
        clear hK hB hin
        obtain ⟨bK1, bK2⟩ := HBK.out
        go_wp2_with (go_at_call 57; refine (contains_any _ _ _ _ r.head a (i1.below ?_)).mono ?_; (· (repeat (first | with_reducible exact Below.refl _ _ | with_reducible refine below_drewN_of ?_ _ | with_reducible refine below_alloc_of ?_ _ | with_reducible refine below_set_of ?_ _ _ _ (by simp) | with_reducible assumption | exact ⟨rfl, rfl, rfl, Nat.le_refl _, fun _ _ => rfl⟩))); rw [Hin.out]; rintro e w2 ⟨rfl, m2, rfl⟩)
        refine (block_any _ r oh lh ch ob lb cb ow lw cw oa len cap m (i1.below ?_) (i2.below ?_) (i3.below ?_) i4 Hr.out.1 Hr.out.2.1 Hr.out.2.2 ((hm.below HW.out).below ?_) K B HK.out HBq.out).mono ?_
        · (repeat (first | with_reducible exact Below.refl _ _ | with_reducible refine below_drewN_of ?_ _ | with_reducible refine below_alloc_of ?_ _ | with_reducible refine below_set_of ?_ _ _ _ (by simp) | with_reducible assumption | exact ⟨rfl, rfl, rfl, Nat.le_refl _, fun _ _ => rfl⟩))
        · (repeat (first | with_reducible exact Below.refl _ _ | with_reducible refine below_drewN_of ?_ _ | with_reducible refine below_alloc_of ?_ _ | with_reducible refine below_set_of ?_ _ _ _ (by simp) | with_reducible assumption | exact ⟨rfl, rfl, rfl, Nat.le_refl _, fun _ _ => rfl⟩))
        · (repeat (first | with_reducible exact Below.refl _ _ | with_reducible refine below_drewN_of ?_ _ | with_reducible refine below_alloc_of ?_ _ | with_reducible refine below_set_of ?_ _ _ _ (by simp) | with_reducible assumption | exact ⟨rfl, rfl, rfl, Nat.le_refl _, fun _ _ => rfl⟩))
        · (repeat (first | with_reducible exact Below.refl _ _ | with_reducible refine below_drewN_of ?_ _ | with_reducible refine below_alloc_of ?_ _ | with_reducible refine below_set_of ?_ _ _ _ (by simp) | with_reducible assumption | exact ⟨rfl, rfl, rfl, Nat.le_refl _, fun _ _ => rfl⟩))
        rintro e w3 ⟨rfl, hb3⟩
        have HB3 : Hid (Below wr.heap.size wr w3) := below_trans_of (by (repeat (first | with_reducible exact Below.refl _ _ | with_reducible refine below_drewN_of ?_ _ | with_reducible refine below_alloc_of ?_ _ | with_reducible refine below_set_of ?_ _ _ _ (by simp) | with_reducible assumption | exact ⟨rfl, rfl, rfl, Nat.le_refl _, fun _ _ => rfl⟩))) hb3
        have hs3 := hb3.size
        simp only [World.size_alloc, World.drewN] at hs3
        clear hb3
        go_wp2_with (at_builtin; refine wpList_append_blk rfl _ _ rfl w1.heap.size _ _ _ L ⟨k, K, B⟩ rfl (HL.out.below ?_) ⟨_, 0, none⟩ 1 rfl ?_ ?_ (by omega) ?_ ?_)
        · exact below_alloc_of (below_alloc_of HB3.out _) _
        · intro j u hu
          have e : w3.heap.size + 1 = (w3.alloc (.cells #[.int .i64 k, .int .u8 K, .int .i64 B] 65)).heap.size := by rw [World.size_alloc]
          rw [e]
          rw [cellB_new]
          simpa [cellsB] using hu
        · exact ⟨(⟨by omega, by omega⟩ : I64 (k : Int)), ⟨bK1, bK2⟩, HBL.out⟩
        · simp; omega
        intro oa' cap' w5 hown5 hg5
        have HL5 := Lib.hid hown5
        have hb5 : Below w1.heap.size w1 w5 := ((below_trans_of HB.out HB3.out).alloc (by omega) _ |>.alloc (by simp; omega) _).grown hg5 (by simp; omega) (fun g hg => (HL.out.1.lt g hg).1)
        have HB5 := Lib.hid hb5
        clear hown5 hg5 hb5
        go_wp2_with fail
        go_roundw
        case rel => exact ⟨k + 1, nB + 1, oa', cap', L ++ [(⟨(k : Int), K, B⟩ : Blk)], by omega, by go_num, rfl, by omega, HL5.out, HB5.out, by rw [Hid, Hgo.out, Hin.out, HK.out, HBq.out]; simp⟩
        case measure => simp [intOf]; omega
    · have hfin : Hid (blkGo m a 0 rules = L) := by rw [Hid, HGo.out, List.drop_eq_nil_of_le (by rw [HRl.out]; omega)]; simp [blkGo]
      clear HGo
      go_wp2_with fail
      go_ret2
      exact ⟨oB, nB, cB, rfl, by rw [hfin.out]; exact HL.out.blks, HW.out⟩

theorem blocks_any (w : World) (p : GProg) (n : Int) (on : Option Addr) (ln cn : Nat) (os : Option Addr) (ls cs : Nat) (or : Option Addr) (lr cr : Nat) (om : Option Addr) (lm cm : Nat)
    (oa : Option Addr) (len cap : Nat) (m : List Int) (a : Int) (h : IsProg w n on ln os ls or lr om lm p) (hm : IsInts w oa len m) :
    Calls Tryz.prog 17 #[.agg #[.int .i64 n, .slice on ln cn, .slice os ls cs, .slice or lr cr, .slice om lm cm], .slice oa len cap, .int .i64 a] w
      (RetBlks w (blocksL p m a) (blocksErr p m a)) := by
  by_cases hE : blocksErr p m a = 0
  · have he : explainErr p m = 0 := by
      unfold blocksErr at hE
      exact Classical.byContradiction fun c => by rw [if_pos c] at hE; exact c hE
    have hc : ¬ (a < 1 ∨ p.n < a ∨ inB m a = true) := fun c => by
      unfold blocksErr at hE
      rw [if_neg (by simp [he]), if_pos c] at hE; omega
    have hlr : lr ≤ 40000 := by
      have hv : validErr p = 0 := by
        unfold explainErr at he
        split at he
        · omega
        · unfold checkErr at he
          split at he
          · contradiction
          · rename_i d; exact Classical.byContradiction fun e => d e
      have := h.rules.hlen
      unfold validErr at hv
      split at hv
      · omega
      · split at hv <;> omega
    have e2 : blocksL p m a = blkGo m a 0 p.rules := by simp [blocksL, hE]
    rw [e2, hE]
    obtain ⟨pn, names, shown, rules, mins⟩ := p
    have hn := h.hn
    simp only at hn hc
    subst hn
    exact blocks_good w n names shown rules mins on ln cn os ls cs or lr cr om lm cm oa len cap m a h hm he (by omega) (by omega) (by cases e : inB m a <;> simp_all) hlr
  · have e2 : blocksL p m a = [] := by simp [blocksL, hE]
    rw [e2]
    exact blocks_bad w p n on ln cn os ls cs or lr cr om lm cm oa len cap m a h hm _ rfl hE
end Go.Proofs.YtaemfafnmhndiaaGreatDoor
namespace Go.Proofs.YtaemfafnmhndiaaGreatDoor
open Go.RowKit Go.Shelf

theorem bSize : (Tryz.prog.info? 100).map (·.size) = some 2 := by kernel_rfl
theorem bLies : liesAt Tryz.prog Tryz.prog.depth 100 (2 / Tryz.prog.cellsOf 100) 0 100 1 = true := by kernel_rfl
theorem bInfo : (Tryz.prog.info? 5).map (fun i => (i.zero, i.size, i.bytes)) = some (some (.int .u8 0), 1, 1) := by kernel_rfl

set_option maxHeartbeats 1000000 in
set_option maxRecDepth 100000 in
theorem copyCheck_used (b : Nat) (w : World) (h0 : w.cell? ⟨b, 0, none⟩ = some (.pointer (some ⟨b, 0, none⟩))) :
    Calls Tryz.prog 120 #[.pointer (some ⟨b, 0, none⟩)] w fun e w' => e = .returned (.tuple #[]) ∧ w' = w := by
  obtain ⟨j, hj, _⟩ := Option.map_eq_some_iff.1 bSize
  go_enter Tryz.func120, Tryz.ntmps120
  go_wp2_with fail
  rw [Lib.run_neq_ptr_same w _ Tryz.underlying97 hj]
  go_wp2_with fail
  go_end0
  exact ⟨rfl, rfl⟩

set_option maxHeartbeats 1000000 in
set_option maxRecDepth 100000 in
theorem copyCheck_fresh (b : Nat) (w : World) (h0 : w.cell? ⟨b, 0, none⟩ = some (.pointer none)) (hsh : w.shape? b = some (100, 2)) (hfz : w.frozen? ⟨b, 0, none⟩ = false) :
    Calls Tryz.prog 120 #[.pointer (some ⟨b, 0, none⟩)] w fun e w' => e = .returned (.tuple #[]) ∧ w' = w.setCell ⟨b, 0, none⟩ (.pointer (some ⟨b, 0, none⟩)) := by
  obtain ⟨j, hj, hjs⟩ := Option.map_eq_some_iff.1 bSize
  go_enter Tryz.func120, Tryz.ntmps120
  go_wp2_with fail
  rw [Lib.run_to_unsafe w ⟨b, 0, none⟩ Tryz.underlying97 Tryz.underlying185 hj (by rw [hjs]; decide) hsh (Nat.zero_lt_succ 1)]
  simp only [Result.andThen]
  rw [Oper.upon_value]
  go_wp2_with fail
  rw [run_callFunc_extern Tryz.func161 (by kernel_rfl) (by kernel_rfl) (by kernel_rfl) (e := Extern.AbiNoEscape.same) (by kernel_rfl)]
  rw [Lib.run_noEscape]
  simp only [Result.andThen]
  rw [Oper.upon_value]
  go_wp2_with fail
  rw [Lib.run_from_unsafe w ⟨b, 0, none⟩ Tryz.underlying185 Tryz.underlying97 hj hsh bLies]
  simp only [Result.andThen]
  rw [Oper.upon_value]
  go_wp2_with fail
  go_end0
  exact ⟨rfl, rfl⟩

/-- Blocks of other types than bytes stand, the builder's own apart. -/
def Stand (b : Nat) (w w' : World) : Prop := ∀ k cs T fr, k ≠ b → T ≠ 5 → w.heap[k]? = some (.cells cs T fr) → w'.heap[k]? = some (.cells cs T fr)
theorem Stand.refl (b : Nat) (w : World) : Stand b w w := fun _ _ _ _ _ _ h => h
theorem Stand.set (b j : Nat) (w : World) (v : Value) : Stand b w (w.setCell ⟨b, j, none⟩ v) := fun k cs T fr hk _ h => by
  rw [Below.heap_setCell _ _ _ _ (fun e => hk (by simpa using e))]; exact h
theorem Stand.trans {b : Nat} {w w' w'' : World} (h : Stand b w w') (h' : Stand b w' w'') : Stand b w w'' := fun k cs T fr h1 h2 h3 => h' k cs T fr h1 h2 (h k cs T fr h1 h2 h3)

theorem copyCheck_any (B b : Nat) (bs : List Value) (w : World) (h : Lib.IsBuilder 100 5 B b bs w) :
    Calls Tryz.prog 120 #[.pointer (some ⟨b, 0, none⟩)] w fun e w' => e = .returned (.tuple #[]) ∧ (Lib.BuilderAt 100 5 B b (.pointer (some ⟨b, 0, none⟩)) bs w' ∧ Below B w w' ∧ Stand b w w') := by
  rcases h with h | h
  · refine (copyCheck_fresh b w h.cell0 h.shape h.frozen0).mono ?_
    rintro e w' ⟨rfl, rfl⟩
    exact ⟨rfl, h.used _, (Below.refl B w).setCell (p := ⟨b, 0, none⟩) h.1 _, Stand.set b 0 w _⟩
  · refine (copyCheck_used b w h.cell0).mono ?_
    rintro e w' ⟨rfl, rfl⟩
    exact ⟨rfl, h, Below.refl B _, Stand.refl b _⟩

set_option maxHeartbeats 2000000 in
set_option maxRecDepth 100000 in
theorem writeString_any (B b : Nat) (bs : List Value) (s : ByteArray) (w : World) (h : Lib.IsBuilder 100 5 B b bs w) (hlen : bs.length + s.size ≤ 140737488355328) (hBw : B ≤ w.heap.size) :
    Calls Tryz.prog 62 #[.pointer (some ⟨b, 0, none⟩), .string s] w fun e w' => e = .returned (.tuple #[.int .i64 s.size, .nilIface]) ∧ (Lib.IsBuilder 100 5 B b (bs ++ Lib.strCells s) w' ∧ Below B w w' ∧ Stand b w w') := by
  obtain ⟨i0, hi, hz0, hz1, hz2⟩ := info_parts bInfo
  go_enter Tryz.func62, Tryz.ntmps62
  go_wp2_with fail
  refine (copyCheck_any B b bs _ h).mono ?_
  rintro e w1 ⟨rfl, h1, hb1, hst1⟩
  have HSt := Lib.hid hst1
  clear hst1
  obtain ⟨hB, v, hbk, hown, hne⟩ := h1
  have c0 : w1.cell? ⟨b, 0, none⟩ = some (.pointer (some ⟨b, 0, none⟩)) := by rw [Lib.cell_of_heap hbk]; rfl
  have c1 : w1.cell? ⟨b, 1, none⟩ = some v := by rw [Lib.cell_of_heap hbk]; rfl
  go_wp2_with (at_builtin; refine Lib.wpList_append_own_string _ rfl _ _ 98 9 rfl B 5 i0 Tryz.underlying98 Tryz.underlying9 hi hz0 hz1 hz2 _ _ _ rfl hown s rfl ?c3 ?c4 ?c5 ?_)
  case c3 => unfold maxLen; omega
  case c4 => omega
  case c5 => have := hb1.size; omega
  intro v' w2 hown' hgrow _
  have hlt : b < w1.heap.size := by
    rcases Nat.lt_or_ge b w1.heap.size with h' | h'
    · exact h'
    · simp [Array.getElem?_eq_none h'] at hbk
  have hb2 : w2.heap[b]? = some (.cells #[.pointer (some ⟨b, 0, none⟩), v] 100 (0, 0)) := by
    rw [hgrow.block b hlt (fun e => hne e.symm)]
    exact hbk
  have d0 : w2.cell? ⟨b, 0, none⟩ = some (.pointer (some ⟨b, 0, none⟩)) := by rw [Lib.cell_of_heap hb2]; rfl
  have d1 : w2.cell? ⟨b, 1, none⟩ = some v := by rw [Lib.cell_of_heap hb2]; rfl
  have f1 : w2.frozen? ⟨b, 1, none⟩ = false := Lib.frozen_of_heap hb2 1
  obtain ⟨ao, n', cap, rfl⟩ : ∃ ao n' cap, v' = .slice ao n' cap := by
    rcases hown'.2 with ⟨hv, _⟩ | ⟨g, cap, cur, hv, _⟩
    · exact ⟨_, _, _, hv⟩
    · exact ⟨_, _, _, hv⟩
  go_wp2_with fail
  go_ret2
  refine ⟨rfl, .inr ?_, ?_, (HSt.out.trans fun k cs T fr hk hT h => ?_).trans (Stand.set b 1 w2 _)⟩
  · exact Lib.BuilderAt.put (T := 100) (e := 5) hB hb2 (bs' := bs ++ Lib.strCells s) (by simpa [Lib.strCells_length] using hown') (by decide)
  · exact (hb1.grown hgrow (by have := hb1.size; omega) (fun k hk => (hown.lt k hk).1)).setCell (p := ⟨b, 1, none⟩) hB _
  · rw [hgrow.block k (by rcases Nat.lt_or_ge k w1.heap.size with c | c; exact c; rw [Array.getElem?_eq_none c] at h; cases h) (fun e => Lib.ownBlock_ne hown h hT e.symm)]
    exact h
end Go.Proofs.YtaemfafnmhndiaaGreatDoor
namespace Go.Proofs.YtaemfafnmhndiaaGreatDoor
open Go.RowKit

/-- Go's table of powers of ten lies where strconv looks for it. -/
def Tab (w : World) : Prop := Lib.TabIs Tryz.prog w "internal/strconv.uint64pow10" .u64 Lib.pow10Tab
theorem Tab.below {w w' : World} (h : Tab w) (hb : Below w.heap.size w w') : Tab w' := by
  unfold Tab Lib.TabIs World.var? at h ⊢
  cases hg : Tryz.prog.globalNamed "internal/strconv.uint64pow10" with
  | none => rw [hg] at h; cases h
  | some g =>
    rw [hg] at h
    simp only [Option.bind_some] at h ⊢
    have hlt : g < w.heap.size := by
      rcases Nat.lt_or_ge g w.heap.size with h' | h'
      · exact h'
      · rw [Array.getElem?_eq_none h'] at h; cases h
    rw [hb.block g hlt]
    exact h
def itoaB (n : Int) : ByteArray := ⟨(Lib.itoa n).toArray⟩
theorem itoa_any (w : World) (n : Int) (hn : I64 n) (ht : Tab w) : Calls Tryz.prog 61 #[.int .i64 n] w fun e w' => e = .returned (.string (itoaB n)) ∧ Below w.heap.size w w' :=
  (Tryz.strconv_Itoa n hn.1 hn.2 w ht).mono fun e w' ⟨h1, k, os, h2⟩ => ⟨h1, by rw [h2]; exact Lib.below_grow _ _ (Nat.le_refl _) _ _⟩
theorem itoaB_size {n : Int} (hn : I64 n) : (itoaB n).size ≤ 21 := by
  have := Lib.itoa_length_le n hn.1 hn.2
  simpa [itoaB, ByteArray.size] using this
theorem ret_str {a b : ByteArray} (h : a = b) : Ending.returned (.string a) = .returned (.string b) := by rw [h]
def nameB (names : List ByteArray) (a : Int) : ByteArray :=
  if 1 ≤ a ∧ a ≤ names.length ∧ (names.getD (a - 1).toNat .empty).toList.isEmpty = false then names.getD (a - 1).toNat .empty else ⟨#[35]⟩ ++ itoaB a

set_option maxRecDepth 100000 in
set_option maxHeartbeats 1000000 in
theorem name1_any (w : World) (a : Int) (ha : I64 a) (Bp : Nat) (n : Int) (on : Option Addr) (ln cn : Nat) (os : Option Addr) (ls cs : Nat) (or : Option Addr) (lr cr : Nat) (om : Option Addr) (lm cm : Nat) (names : List ByteArray)
    (hp : ∀ j, w.cell? ⟨Bp, j, none⟩ = (#[.int .i64 n, .slice on ln cn, .slice os ls cs, .slice or lr cr, .slice om lm cm] : Array Value)[j]?) (hn : IsStrs w on ln names) (ht : Tab w) :
    Calls Tryz.prog 60 #[.int .i64 a, .pointer (some ⟨Bp, 0, none⟩)] w fun e w' => e = .returned (.string (nameB names a)) ∧ Below w.heap.size w w' := by
  have hl := hn.hlen
  have hmx := hn.hmax
  obtain ⟨ha1, ha2⟩ := ha
  have hz := itoaB_size (n := a) ⟨ha1, ha2⟩
  have HI := Lib.hid (itoa_any w a ⟨ha1, ha2⟩ ht)
  by_cases h1 : 1 ≤ a
  · by_cases h2 : a ≤ ln
    · obtain ⟨k, rfl⟩ : ∃ k : Nat, a = k + 1 := ⟨(a - 1).toNat, by omega⟩
      have hk : k < ln := by omega
      obtain ⟨b, off, s, rfl, hc, hs, hd, hg⟩ := hn.at_ hk
      have e0 : IntKind.i64.wrap ((k : Int) + 1 - 1) = k := by rw [IntKind.wrap_i64]; omega
      have e1 : (k : Int) + 1 - 1 = k := by omega
      have e2 : (0 : Int) ≤ k := by omega
      have e3 : (k : Int) < ln := by omega
      have HN : Hid (nameB names (k + 1) = if s.toList.isEmpty = false then s else ⟨#[35]⟩ ++ itoaB (k + 1)) := by
        have e4 : (((k : Int) + 1 - 1).toNat) = k := by omega
        have e5 : names.getD k .empty = s := by rw [List.getD_eq_getElem?_getD, hg.out]; rfl
        unfold Hid nameB
        rw [e4, e5]
        by_cases h : s.toList.isEmpty = false
        · rw [if_pos ⟨by omega, by omega, h⟩, if_pos h]
        · rw [if_neg (fun c => h c.2.2), if_neg h]
      have HL := Lib.hid hl
      clear hl
      by_cases hs0 : s.toList = []
      · go_enter Tryz.func60, Tryz.ntmps60
        go_wp2_with fail
        refine HI.out.mono ?_
        rintro e w1 ⟨rfl, hb1⟩
        go_wp2_with fail
        go_ret
        exact ⟨ret_str (by rw [HN.out, if_neg (by simp [hs0])]), hb1⟩
      · have hs1 : (!s.toList.isEmpty) = true := by simp [hs0]
        go_enter Tryz.func60, Tryz.ntmps60
        go_wp2_with fail
        go_ret
        exact ⟨ret_str (by rw [HN.out, if_pos (by simpa using hs0)]), Below.refl _ _⟩
    · have HN : Hid (nameB names a = ⟨#[35]⟩ ++ itoaB a) := by unfold Hid nameB; rw [if_neg (fun c => h2 (by rw [← hl]; exact c.2.1))]
      have HL := Lib.hid hl
      clear hl
      go_enter Tryz.func60, Tryz.ntmps60
      go_wp2_with fail
      refine HI.out.mono ?_
      rintro e w1 ⟨rfl, hb1⟩
      go_wp2_with fail
      go_ret
      exact ⟨ret_str (by rw [HN.out]), hb1⟩
  · have HN : Hid (nameB names a = ⟨#[35]⟩ ++ itoaB a) := by unfold Hid nameB; rw [if_neg (fun c => h1 c.1)]
    have HL := Lib.hid hl
    clear hl
    go_enter Tryz.func60, Tryz.ntmps60
    go_wp2_with fail
    refine HI.out.mono ?_
    rintro e w1 ⟨rfl, hb1⟩
    go_wp2_with fail
    go_ret
    exact ⟨ret_str (by rw [HN.out]), hb1⟩
end Go.Proofs.YtaemfafnmhndiaaGreatDoor
namespace Go.Proofs.YtaemfafnmhndiaaGreatDoor
open Go.RowKit

def lineB (names : List ByteArray) (y : Why) : ByteArray := nameB names y.atom ++ ⟨#[32, 98, 121, 32]⟩ ++ itoaB y.rule ++ ⟨#[32, 108, 101, 118, 101, 108, 32]⟩ ++ itoaB y.level ++ ⟨#[10]⟩
def lineL (names : List ByteArray) (y : Why) : List UInt8 := (lineB names y).data.toList
def wordL (names : List ByteArray) (a : Int) : List UInt8 := ((⟨#[32]⟩ : ByteArray) ++ nameB names a).data.toList
def textL (names : List ByteArray) (x : Expl) : List UInt8 :=
  x.whys.flatMap (lineL names) ++ (if x.rest = [] then [] else [114, 101, 115, 116] ++ x.rest.flatMap (wordL names) ++ [10])
def textB (names : List ByteArray) (x : Expl) : ByteArray := ⟨(textL names x).toArray⟩

theorem isBuilder_below {T e : TypeId} {B b : Nat} {bs : List Value} {w w' : World} (h : Lib.IsBuilder T e B b bs w) (hb : Below w.heap.size w w') : Lib.IsBuilder T e B b bs w' := by
  have key : ∀ p, Lib.BuilderAt T e B b p bs w → Lib.BuilderAt T e B b p bs w' := by
    rintro p ⟨h1, v, h2, h3, h4⟩
    refine ⟨h1, v, ?_, own_below h3 hb (fun g hg => (h3.lt g hg).2), h4⟩
    rw [hb.block b (by rcases Nat.lt_or_ge b w.heap.size with c | c; exact c; rw [Array.getElem?_eq_none c] at h2; cases h2)]
    exact h2
  exact h.imp (key _) (key _)
theorem nameB_size {names : List ByteArray} {a : Int} (h : ∀ s ∈ names, s.size ≤ 200) (ha : I64 a) : (nameB names a).size ≤ 200 := by
  unfold nameB
  split
  · rename_i c
    rw [List.getD_eq_getElem?_getD]
    cases e : names[(a - 1).toNat]? with
    | none => simp
    | some s => exact h s (List.mem_of_getElem? e)
  · have := itoaB_size ha
    have e : (⟨#[35]⟩ : ByteArray).size = 1 := rfl
    rw [ByteArray.size_append, e]; omega
theorem lineB_size {names : List ByteArray} {y : Why} (h : ∀ s ∈ names, s.size ≤ 200) (hy : OkWhy y) : (lineB names y).size ≤ 260 := by
  have h1 := nameB_size h hy.1
  have h2 := itoaB_size hy.2.1
  have h3 := itoaB_size hy.2.2
  have e1 : (⟨#[32, 98, 121, 32]⟩ : ByteArray).size = 4 := rfl
  have e2 : (⟨#[32, 108, 101, 118, 101, 108, 32]⟩ : ByteArray).size = 7 := rfl
  have e3 : (⟨#[10]⟩ : ByteArray).size = 1 := rfl
  unfold lineB
  simp only [ByteArray.size_append, e1, e2, e3]; omega
theorem strCells_eq (s : ByteArray) : Lib.strCells s = Lib.byteCells s.data.toList := rfl
theorem byteCells_app (a b : List UInt8) : Lib.byteCells (a ++ b) = Lib.byteCells a ++ Lib.byteCells b := by simp [Lib.byteCells]
theorem take_line {names : List ByteArray} {l : List Why} {k : Nat} {y : Why} (h : l[k]? = some y) : (l.take (k + 1)).flatMap (lineL names) = (l.take k).flatMap (lineL names) ++ (lineB names y).data.toList := by
  rw [List.take_add_one, h]; simp [lineL]

set_option maxRecDepth 100000 in
set_option maxHeartbeats 4000000 in
theorem text_any (w : World) (n : Int) (names : List ByteArray) (on : Option Addr) (ln cn : Nat) (os : Option Addr) (ls cs : Nat) (or : Option Addr) (lr cr : Nat) (om : Option Addr) (lm cm : Nat)
    (ow : Option Addr) (lw cw : Nat) (oe : Option Addr) (le ce : Nat) (whys : List Why) (rest : List Int) (hn : IsStrs w on ln names) (hx : IsExpl w ow lw oe le ⟨whys, rest⟩) (ht : Tab w) (h200 : ∀ s ∈ names, s.size ≤ 200) (hlw : lw ≤ 1000) (hle : le ≤ 1000) :
    Calls Tryz.prog 18 #[.agg #[.int .i64 n, .slice on ln cn, .slice os ls cs, .slice or lr cr, .slice om lm cm], .agg #[.slice ow lw cw, .slice oe le ce]] w
      fun e w' => e = .returned (.string (textB names ⟨whys, rest⟩)) ∧ Below w.heap.size w w' := by
  have H200 := Lib.hid h200
  have HT := Lib.hid ht
  have Hwl := Lib.hid hx.whys.hlen
  have Hrl := Lib.hid hx.rest.hlen
  clear h200 ht
  obtain ⟨W3, hW3⟩ : ∃ W3, W3 = ((w.alloc (.cells #[.int .i64 n, .slice on ln cn, .slice os ls cs, .slice or lr cr, .slice om lm cm] 27)).alloc (.cells #[.slice ow lw cw, .slice oe le ce] 30)).alloc (.cells #[.pointer none, .slice none 0 0] 100) := ⟨_, rfl⟩
  have HP3 : Hid (∀ j, W3.cell? ⟨w.heap.size, j, none⟩ = (#[.int .i64 n, .slice on ln cn, .slice os ls cs, .slice or lr cr, .slice om lm cm] : Array Value)[j]?) := fun j => by rw [hW3]; exact (by simp only [World.cell?, heap_alloc, World.size_alloc]; (repeat (first | rw [if_pos trivial] | rw [if_pos (by omega)] | rw [if_neg (by omega)])); rfl)
  have HX3 : Hid (∀ j, W3.cell? ⟨w.heap.size + 1, j, none⟩ = (#[.slice ow lw cw, .slice oe le ce] : Array Value)[j]?) := fun j => by rw [hW3]; exact (by simp only [World.cell?, heap_alloc, World.size_alloc]; (repeat (first | rw [if_pos trivial] | rw [if_pos (by omega)] | rw [if_neg (by omega)])); rfl)
  have HB3 : Hid (Below w.heap.size w W3) := by rw [hW3]; exact below_alloc_of (below_alloc_of (below_alloc w _) _) _
  have HBl3 : Hid (Lib.IsBuilder 100 5 (w.heap.size + 1 + 1) (w.heap.size + 1 + 1) (Lib.byteCells []) W3) := by
    have := Lib.fresh_isBuilder 100 5 ((w.alloc (.cells #[.int .i64 n, .slice on ln cn, .slice os ls cs, .slice or lr cr, .slice om lm cm] 27)).alloc (.cells #[.slice ow lw cw, .slice oe le ce] 30))
    rw [hW3]; simpa [Hid, Lib.byteCells] using this
  have hs3 : W3.heap.size = w.heap.size + 3 := by rw [hW3]; simp
  have HS3 := Lib.hid hs3
  have HW3 := Lib.hid hW3
  clear hW3 hs3
  go_enter Tryz.func18, Tryz.ntmps18
  go_wp2_with fail
  rw [← HW3.out]
  go_loopw [15] (fun i wr => ∃ (k : Nat), k ≤ lw ∧ i = .int .i64 k ∧ Hid (Lib.IsBuilder 100 5 (w.heap.size + 1 + 1) (w.heap.size + 1 + 1) (Lib.byteCells ((whys.take k).flatMap (lineL names))) wr) ∧
      Hid (Below (w.heap.size + 1 + 1) W3 wr) ∧ Hid (((whys.take k).flatMap (lineL names)).length ≤ 260 * k)) (fun i _ => lw - (intOf i).toNat)
  case atStart => exact ⟨0, Nat.zero_le _, rfl, HBl3.out, Below.refl _ _, by simp [Hid]⟩
  case round =>
    obtain ⟨k, hk, rfl, HBl, HBW, HLen⟩ := hrel
    have hsr : w.heap.size + 3 ≤ wr.heap.size := by have := HBW.out.size; rw [HS3.out] at this; exact this
    have HW : Hid (Below w.heap.size w wr) := HB3.out.trans (HBW.out.mono (by omega))
    by_cases hlt : k < lw
    · obtain ⟨b, off, y, rfl, hb, c0, c1, c2, hy1, hy2, hy3, hd, hg⟩ := (hx.whys.below HW.out).at_ hlt
      have HY := Lib.hid (And.intro hy1 (And.intro hy2 hy3))
      clear hy1 hy2 hy3
      go_wp2_with fail
      have HBq : Hid (Below (wr.heap.size + 1) (wr.alloc (.cells #[.int .i64 y.atom, .int .i64 y.rule, .int .i64 y.level] 49)) (wr.alloc (.cells #[.int .i64 y.atom, .int .i64 y.rule, .int .i64 y.level] 49))) := Below.refl _ _
      have HLater : Hid (∀ W, Below (wr.heap.size + 1) (wr.alloc (.cells #[.int .i64 y.atom, .int .i64 y.rule, .int .i64 y.level] 49)) W → Below (w.heap.size + 1 + 1) W3 W ∧ Below w.heap.size w W ∧ Tab W ∧ IsStrs W on ln names ∧ (∀ j, W.cell? ⟨w.heap.size, j, none⟩ = (#[.int .i64 n, .slice on ln cn, .slice os ls cs, .slice or lr cr, .slice om lm cm] : Array Value)[j]?) ∧
          Lib.IsBuilder 100 5 (w.heap.size + 1 + 1) (w.heap.size + 1 + 1) (Lib.byteCells ((whys.take k).flatMap (lineL names))) W ∧ W.heap[wr.heap.size]? = some (.cells #[.int .i64 y.atom, .int .i64 y.rule, .int .i64 y.level] 49 (0, 0)) ∧ w.heap.size + 1 + 1 ≤ W.heap.size) := fun W hW => by
        have h1 := box_below hW
        have h2 : Below (w.heap.size + 1 + 1) W3 W := HBW.out.trans (h1.mono (by omega))
        have h3 : Below w.heap.size w W := below_trans_of HW.out h1
        exact ⟨h2, h3, HT.out.below h3, hn.below h3, fun j => (h2.cell (p := ⟨w.heap.size, j, none⟩) (by show w.heap.size < _; omega)).trans (HP3.out j), isBuilder_below HBl.out h1, (hW.block wr.heap.size (by omega)).trans (heap_alloc_new wr _), by have := h1.size; omega⟩
      have hz1 := nameB_size H200.out HY.out.1
      have hz2 := itoaB_size HY.out.2.1
      have hz3 := itoaB_size HY.out.2.2
      have hzl := lineB_size H200.out HY.out
      have hc1 : ¬ (9223372036854775807 < (nameB names y.atom).size + 4) := by omega
      have hc2 : ¬ (9223372036854775807 < (nameB names y.atom).size + 4 + (itoaB y.rule).size) := by omega
      have hc3 : ¬ (9223372036854775807 < (nameB names y.atom).size + 4 + (itoaB y.rule).size + 7) := by omega
      have hc4 : ¬ (9223372036854775807 < (nameB names y.atom).size + 4 + (itoaB y.rule).size + 7 + (itoaB y.level).size) := by omega
      have hc5 : ¬ (9223372036854775807 < (nameB names y.atom).size + 4 + (itoaB y.rule).size + 7 + (itoaB y.level).size + 1) := by omega
      go_region_held3 (fun w' => w'.cell? ⟨wr.heap.size, 0, none⟩ = some (.int .i64 y.atom) ∧ w'.cell? ⟨wr.heap.size, 1, none⟩ = some (.int .i64 y.rule) ∧ w'.cell? ⟨wr.heap.size, 2, none⟩ = some (.int .i64 y.level)) (first | go_keep | (simp [hqx]; done)) (first
        | (go_at_call 60; refine (name1_any _ _ HY.out.1 w.heap.size n on ln cn os ls cs or lr cr om lm cm names (HLater.out _ (by first | exact HBq.out | exact HBq.out.drew)).2.2.2.2.1 (HLater.out _ (by first | exact HBq.out | exact HBq.out.drew)).2.2.2.1 (HLater.out _ (by first | exact HBq.out | exact HBq.out.drew)).2.2.1).mono ?_; rintro e w4 ⟨rfl, hb4⟩; have HBq := Lib.hid (box_next (by first | exact HBq.out | exact HBq.out.drew) hb4); have hqx := box_cells HBq.out; clear hb4)
        | (go_at_call 61; refine (itoa_any _ _ (by first | exact HY.out.2.1 | exact HY.out.2.2) (HLater.out _ HBq.out).2.2.1).mono ?_; rintro e w5 ⟨rfl, hb5⟩; have HBq := Lib.hid (box_next (by first | exact HBq.out | exact HBq.out.drew) hb5); have hqx := box_cells HBq.out; clear hb5)
        | (go_at_call 62; refine (writeString_any _ _ _ _ _ (HLater.out _ HBq.out).2.2.2.2.2.1 ?_ (HLater.out _ HBq.out).2.2.2.2.2.2.2).mono ?_; (· (have h1 := hzl; unfold lineB at h1; have h2 := HLen.out; rw [Lib.byteCells_length]; omega)); rintro e w6 ⟨rfl, hbl6, hb6, hst6⟩; have hqx := (cells_of_heap (hst6 wr.heap.size _ _ _ (by omega) (by decide) (HLater.out _ HBq.out).2.2.2.2.2.2.1)).1))
      go_wp2
      all_goals
        refine ⟨⟨k + 1, by omega, by go_num, ?_, (HLater.out _ HBq.out).1.trans hb6, ?_⟩, by simp [intOf]; omega⟩
        · rw [Hid, take_line hg.out, byteCells_app]; exact hbl6
        · rw [Hid, take_line hg.out, List.length_append]
          have h2 := HLen.out
          have h3 : (lineB names y).data.toList.length ≤ 260 := hzl
          omega
    · obtain rfl : k = lw := by omega
      have hall : whys.take k = whys := List.take_of_length_le (by rw [Hwl.out]; exact Nat.le_refl _)
      rw [hall] at HBl HLen
      clear hall
      have hpx : ∀ j, wr.cell? ⟨w.heap.size + 1, j, none⟩ = (#[.slice ow k cw, .slice oe le ce] : Array Value)[j]? := fun j => (HBW.out.cell (p := ⟨w.heap.size + 1, j, none⟩) (by show w.heap.size + 1 < _; omega)).trans (HX3.out j)
      by_cases h0 : le = 0
      · subst h0
        go_wp2_with fail
        refine (Tryz.Builder_String_any _ _ _ _ HBl.out ?_).mono ?_
        · omega
        rintro e w4 ⟨rfl, hb4⟩
        go_wp2_with fail
        go_ret
        exact ⟨ret_str (by have := List.eq_nil_of_length_eq_zero Hrl.out; simp [textB, textL, this]), HB3.out.trans ((HBW.out.trans hb4).mono (by omega))⟩
      · obtain ⟨acc, hacc⟩ : ∃ acc, acc = whys.flatMap (lineL names) := ⟨_, rfl⟩
        rw [← hacc] at HBl HLen
        have Hacc := Lib.hid hacc
        have hlen0 := HLen.out
        have hle0 : 0 < le := by omega
        obtain ⟨V, hV⟩ : ∃ V, V = wr := ⟨_, rfl⟩
        subst hV
        clear hacc
        go_wp2_with fail
        refine (writeString_any _ _ _ _ _ HBl.out ?_ ?_).mono ?_
        · rw [Lib.byteCells_length]
          have e : (⟨#[114, 101, 115, 116]⟩ : ByteArray).size = 4 := rfl
          rw [e]; omega
        · omega
        rintro e w6 ⟨rfl, hbl6, hb6, hst6⟩
        have HBl6 : Hid (Lib.IsBuilder 100 5 (w.heap.size + 1 + 1) (w.heap.size + 1 + 1) (Lib.byteCells (acc ++ [114, 101, 115, 116])) w6) := by rw [Hid, byteCells_app]; exact hbl6
        have HB6 : Hid (Below (w.heap.size + 1 + 1) W3 w6) := HBW.out.trans hb6
        have hpx6 : ∀ j, w6.cell? ⟨w.heap.size + 1, j, none⟩ = (#[.slice ow k cw, .slice oe le ce] : Array Value)[j]? := fun j => (HB6.out.cell (p := ⟨w.heap.size + 1, j, none⟩) (by show w.heap.size + 1 < _; omega)).trans (HX3.out j)
        have hs6 : w.heap.size + 3 ≤ w6.heap.size := by have := HB6.out.size; rw [HS3.out] at this; exact this
        clear hbl6 hb6 hst6 hpx
        go_wp2_with fail
        go_loopw [44] (fun i wr => ∃ (q : Nat), q ≤ le ∧ i = .int .i64 q ∧ Hid (Lib.IsBuilder 100 5 (w.heap.size + 1 + 1) (w.heap.size + 1 + 1) (Lib.byteCells (acc ++ [114, 101, 115, 116] ++ (rest.take q).flatMap (wordL names))) wr) ∧
          Hid (Below (w.heap.size + 1 + 1) W3 wr) ∧ Hid ((acc ++ [114, 101, 115, 116] ++ (rest.take q).flatMap (wordL names)).length ≤ 260 * k + 4 + 260 * q)) (fun i _ => le - (intOf i).toNat)
        case atStart => exact ⟨0, Nat.zero_le _, rfl, by simpa [Hid] using HBl6.out, HB6.out, by simp [Hid]; omega⟩
        case round =>
          clear HBl HBW HLen HBl6 HB6 hs6 hpx6 HW hsr
          obtain ⟨q, hq, rfl, HBl, HBW, HLen⟩ := hrel
          have hsr : w.heap.size + 3 ≤ wr.heap.size := by have := HBW.out.size; rw [HS3.out] at this; exact this
          have HW : Hid (Below w.heap.size w wr) := HB3.out.trans (HBW.out.mono (by omega))
          by_cases hlt2 : q < le
          · obtain ⟨b, off, x, rfl, hc, hx1, hx2, hd, hg⟩ := (hx.rest.below HW.out).at_ hlt2
            have hz1 := nameB_size (a := x) H200.out ⟨hx1, hx2⟩
            go_wp2_with fail
            refine (name1_any _ x ⟨hx1, hx2⟩ w.heap.size n on ln cn os ls cs or lr cr om lm cm names (fun j => (HBW.out.cell (p := ⟨w.heap.size, j, none⟩) (by show w.heap.size < _; omega)).trans (HP3.out j)) (hn.below HW.out) (HT.out.below HW.out)).mono ?_
            rintro e w4 ⟨rfl, hb4⟩
            have HBl4 : Hid (Lib.IsBuilder 100 5 (w.heap.size + 1 + 1) (w.heap.size + 1 + 1) (Lib.byteCells (acc ++ [114, 101, 115, 116] ++ (rest.take q).flatMap (wordL names))) w4) := isBuilder_below HBl.out hb4
            have HB4 : Hid (Below (w.heap.size + 1 + 1) W3 w4) := HBW.out.trans (hb4.mono (by omega))
            have hs4 := hb4.size
            clear hb4
            go_wp2_with fail
            refine (writeString_any _ _ _ _ _ HBl4.out ?_ ?_).mono ?_
            · rw [Lib.byteCells_length]
              have e : (⟨#[32]⟩ : ByteArray).size = 1 := rfl
              have := HLen.out
              rw [ByteArray.size_append, e]; omega
            · omega
            rintro e w5 ⟨rfl, hbl5, hb5, hst5⟩
            have HBl5 : Hid (Lib.IsBuilder 100 5 (w.heap.size + 1 + 1) (w.heap.size + 1 + 1) (Lib.byteCells (acc ++ [114, 101, 115, 116] ++ (rest.take (q + 1)).flatMap (wordL names))) w5) := by
              rw [Hid, List.take_add_one, hg.out, Option.toList_some, List.flatMap_append, List.flatMap_singleton, ← List.append_assoc, byteCells_app]; exact hbl5
            have HB5 : Hid (Below (w.heap.size + 1 + 1) W3 w5) := HB4.out.trans hb5
            clear hbl5 hb5 hst5
            go_wp2_with fail
            go_roundw
            case rel => exact ⟨q + 1, by omega, by go_num, HBl5.out, HB5.out, by
              rw [Hid, List.take_add_one, hg.out, Option.toList_some, List.flatMap_append, List.flatMap_singleton, ← List.append_assoc, List.length_append]
              have h2 := HLen.out
              have h3 : (wordL names x).length ≤ 201 := by
                have e : (⟨#[32]⟩ : ByteArray).size = 1 := rfl
                show ((⟨#[32]⟩ : ByteArray) ++ nameB names x).size ≤ 201
                rw [ByteArray.size_append, e]; omega
              omega⟩
            case measure => simp [intOf]; omega
          · obtain rfl : q = le := by omega
            have hall : rest.take q = rest := List.take_of_length_le (by rw [Hrl.out]; exact Nat.le_refl _)
            rw [hall] at HBl HLen
            clear hall
            go_wp2_with fail
            refine (writeString_any _ _ _ _ _ HBl.out ?_ ?_).mono ?_
            · rw [Lib.byteCells_length]
              have e : (⟨#[10]⟩ : ByteArray).size = 1 := rfl
              have := HLen.out
              rw [e]; omega
            · omega
            rintro e w5 ⟨rfl, hbl5, hb5, hst5⟩
            have HBl5 : Hid (Lib.IsBuilder 100 5 (w.heap.size + 1 + 1) (w.heap.size + 1 + 1) (Lib.byteCells (acc ++ [114, 101, 115, 116] ++ rest.flatMap (wordL names) ++ [10])) w5) := by
              rw [Hid, byteCells_app]; exact hbl5
            have HB5 : Hid (Below (w.heap.size + 1 + 1) W3 w5) := HBW.out.trans hb5
            have hs5 : w.heap.size + 3 ≤ w5.heap.size := by have := HB5.out.size; rw [HS3.out] at this; exact this
            clear hbl5 hb5 hst5
            go_wp2_with fail
            refine (Tryz.Builder_String_any _ _ _ _ HBl5.out ?_).mono ?_
            · omega
            rintro e w7 ⟨rfl, hb7⟩
            go_wp2_with fail
            go_ret
            exact ⟨ret_str (by
              have hr0 : rest ≠ [] := fun e => by have := Hrl.out; rw [e] at this; simp at this; omega
              simp [textB, textL, hr0, Hacc.out]), HB3.out.trans ((HB5.out.trans hb7).mono (by omega))⟩
end Go.Proofs.YtaemfafnmhndiaaGreatDoor
namespace Go.Proofs.YtaemfafnmhndiaaGreatDoor
open Go.RowKit

def exM : List Int := [1, 3, 5]
def exX : Expl := ⟨[⟨1, 0, 1⟩, ⟨3, 1, 2⟩, ⟨5, 2, 3⟩], []⟩
def ex2Rules : List GRule := [⟨false, [1, 2], false, 0, [], []⟩, ⟨false, [1], false, 0, [2], []⟩, ⟨false, [2], false, 0, [1], []⟩]
def ex2Prog : GProg := ⟨2, List.replicate 2 .empty, [], ex2Rules, []⟩
theorem ex_err : explainErr exProg exM = 0 := by kernel_rfl
theorem ex_expl : explainE exProg exM = exX := (explainE_eq ex_err).trans (by kernel_rfl)
theorem ex_valid : validB exProg exM exX = true := (validB_eq ex_err).trans (by kernel_rfl)
theorem ex_check : checkB exProg exM exX = true := by unfold checkB; rw [ex_err, ex_valid]; rfl
theorem ex_chk : ChkP exProg exM exX := (valid_chk ex_err).1 ex_valid
theorem ex_look : lookW exX.whys 5 ≠ noWhy := by decide
theorem ex_serr : supportErr exProg exM exX 5 = 0 := by
  unfold supportErr; rw [ex_err, ex_valid, if_neg (by decide), if_neg (by decide), if_neg ex_look]
theorem ex_supp : supportL exProg exM exX 5 = exM := by
  obtain ⟨_, _, _, hat⟩ := explain_ok ex_err
  unfold supportL
  rw [ex_serr, if_neg (by decide), supp_eq (atoms_in _ _ none hat) ex_chk ex_look]
  kernel_rfl
theorem ex_b4 : blocksErr exProg exM 4 = 0 := by kernel_rfl
theorem ex_b2 : blocksErr exProg exM 2 = 0 := by kernel_rfl
theorem ex_b6 : blocksErr exProg exM 6 = 0 := by kernel_rfl
theorem ex_l4 : blocksL exProg exM 4 = [⟨2, 3, 5⟩] := by kernel_rfl
theorem ex_l2 : blocksL exProg exM 2 = [⟨4, 1, -1⟩] := by kernel_rfl
theorem ex_l6 : blocksL exProg exM 6 = [] := by kernel_rfl
theorem ex_nil : explainErr exProg [] = 410 := by kernel_rfl
theorem ex2_err : explainErr ex2Prog [1, 2] = 0 := by kernel_rfl
theorem ex2_expl : explainE ex2Prog [1, 2] = ⟨[], [1, 2]⟩ := (explainE_eq ex2_err).trans (by kernel_rfl)
def exText : ByteArray := ⟨#[35, 49, 32, 98, 121, 32, 48, 32, 108, 101, 118, 101, 108, 32, 49, 10, 35, 51, 32, 98, 121, 32, 49, 32, 108, 101, 118, 101, 108, 32, 50, 10, 35, 53, 32, 98, 121, 32, 50, 32, 108, 101, 118, 101, 108, 32, 51, 10]⟩
theorem ex_text : textB exProg.names exX = exText := by kernel_rfl
end Go.Proofs.YtaemfafnmhndiaaGreatDoor
