/-
  Joined texts, in build order: Pf, Pi, Pp, Fa. Each part says what it proves; no conditions beyond those that a part names.
-/
import Derived.Test.YtnppcdiicnofpaaZ01
import Derived.Test.YtnppcdiicnofpaaZ02
import Derived.Test.YtnppcdiicnofpaaZ03
import Derived.Test.YtnppcdiicnofpaaZ04
import Derived.Test.YtnppcdiicnofpaaZ05
/-
  Plain totals: what is put together in two parts and merged is what is put together at once. No program in sight. No conditions.
-/
namespace Go.Proofs.Ytnppcdiicnofpaa
namespace Pl
def plus : Option Total → Option Total → Option Total
  | none, y => y
  | some a, none => some a
  | some a, some b => some (tadd a b)
theorem tadd_assoc (a b c : Total) : tadd (tadd a b) c = tadd a (tadd b c) := by
  unfold tadd
  simp only [Total.mk.injEq, true_and]
  refine ⟨by omega, by omega, ?_, ?_⟩
  · repeat' split
    all_goals omega
  · repeat' split
    all_goals omega
theorem plus_none (x : Option Total) : plus x none = x := by cases x <;> rfl
theorem plus_assoc (x y z : Option Total) : plus (plus x y) z = plus x (plus y z) := by
  cases x with
  | none => rfl
  | some a =>
    cases y with
    | none => rfl
    | some b =>
      cases z with
      | none => rfl
      | some c => exact congrArg some (tadd_assoc a b c)
/-- what a list has under a text -/
def agg (s : ByteArray) : List Total → Option Total
  | [] => none
  | x :: r => plus (if txt x = s then some x else none) (agg s r)
theorem agg_cons (s : ByteArray) (x : Total) (r : List Total) : agg s (x :: r) = plus (if txt x = s then some x else none) (agg s r) := rfl
theorem agg_app (s : ByteArray) : ∀ X Y : List Total, agg s (X ++ Y) = plus (agg s X) (agg s Y)
  | [], _ => rfl
  | x :: r, Y => by
    rw [List.cons_append, agg_cons, agg_cons, agg_app s r Y, plus_assoc]
theorem agg_no {s : ByteArray} : ∀ {X : List Total}, (∀ x, x ∈ X → txt x ≠ s) → agg s X = none
  | [], _ => rfl
  | x :: r, h => by
    rw [agg_cons, if_neg (h x (by simp)), agg_no (fun y hy => h y (by simp [hy]))]
    rfl
theorem agg_one (s : ByteArray) (t : Total) : agg s [t] = if txt t = s then some t else none := plus_none _
theorem agg_txt {s : ByteArray} : ∀ {X : List Total} {a : Total}, agg s X = some a → txt a = s
  | [], _, h => by cases h
  | x :: r, a, h => by
    unfold agg at h
    by_cases hx : txt x = s
    · rw [if_pos hx] at h
      cases hr : agg s r with
      | none => rw [hr] at h; injection h with h; rw [← h]; exact hx
      | some b => rw [hr] at h; injection h with h; rw [← h]; exact hx
    · rw [if_neg hx] at h
      exact agg_txt (X := r) h
theorem agg_lab {s : ByteArray} : ∀ {X : List Total} {a : Total}, agg s X = some a → ∃ x, x ∈ X ∧ x.Labels = a.Labels
  | [], _, h => by cases h
  | x :: r, a, h => by
    unfold agg at h
    by_cases hx : txt x = s
    · rw [if_pos hx] at h
      cases hr : agg s r with
      | none => rw [hr] at h; injection h with h; exact ⟨x, by simp, by rw [h]⟩
      | some b => rw [hr] at h; injection h with h; exact ⟨x, by simp, by rw [← h]; rfl⟩
    · rw [if_neg hx] at h
      obtain ⟨y, hy, he⟩ := agg_lab (X := r) h
      exact ⟨y, by simp [hy], he⟩
theorem less_ne {a b : ByteArray} (h : lessB a b = true) : a ≠ b := fun e => by subst e; rw [less_irrefl] at h; cases h
theorem sort_app {l1 l2 : List Total} {o : Total} (h : TSort (l1 ++ o :: l2)) : (∀ x, x ∈ l1 → lessB (txt x) (txt o) = true) ∧ ∀ x, x ∈ l2 → lessB (txt o) (txt x) = true := by
  refine ⟨fun x hx => ?_, fun x hx => ?_⟩
  · obtain ⟨i, hi, rfl⟩ := List.mem_iff_getElem.1 hx
    exact h i l1.length _ _ hi (by rw [List.getElem?_append_left hi]; exact List.getElem?_eq_getElem hi) (by rw [List.getElem?_append_right (Nat.le_refl _), Nat.sub_self]; rfl)
  · obtain ⟨i, hi, rfl⟩ := List.mem_iff_getElem.1 hx
    exact h l1.length (l1.length + (i + 1)) _ _ (by omega) (by rw [List.getElem?_append_right (Nat.le_refl _), Nat.sub_self]; rfl) (by rw [List.getElem?_append_right (by omega), Nat.add_sub_cancel_left, List.getElem?_cons_succ]; exact List.getElem?_eq_getElem hi)
theorem agg_put {l : List Total} {t : Total} (h : TSort l) (s : ByteArray) : agg s (tput l t) = plus (agg s l) (agg s [t]) := by
  by_cases hh : ∃ o, l[tpos (txt t) l]? = some o ∧ txt o = txt t
  · obtain ⟨o, ho, he⟩ := hh
    rw [tput_hit ho he]
    obtain ⟨hp, hpo⟩ := List.getElem?_eq_some_iff.1 ho
    have e1 : l = l.take (tpos (txt t) l) ++ o :: l.drop (tpos (txt t) l + 1) := by rw [← hpo, ← List.drop_eq_getElem_cons hp, List.take_append_drop]
    have e2 : l.set (tpos (txt t) l) (tadd o t) = l.take (tpos (txt t) l) ++ tadd o t :: l.drop (tpos (txt t) l + 1) := List.set_eq_take_append_cons_drop.trans (by rw [if_pos hp])
    rw [e2]
    obtain ⟨q, hq⟩ : ∃ q, tpos (txt t) l = q := ⟨_, rfl⟩
    rw [hq] at e1 ⊢
    have hs := sort_app (e1 ▸ h)
    conv => rhs; rw [e1]
    rw [agg_app, agg_app, agg_one, agg_cons, agg_cons, tadd_txt]
    by_cases hk : txt t = s
    · rw [if_pos (he.trans hk), if_pos hk, if_pos (he.trans hk), agg_no (X := l.take q) (fun x hx e => less_ne (hs.1 x hx) (by rw [e, he, hk])), agg_no (X := l.drop (q + 1)) (fun x hx e => less_ne (hs.2 x hx) (by rw [e, he, hk]))]
      rfl
    · rw [if_neg (fun e => hk (he.symm.trans e)), if_neg hk, if_neg (fun e => hk (he.symm.trans e)), plus_none]
  · have hm : ∀ o, l[tpos (txt t) l]? = some o → txt o ≠ txt t := fun o ho he => hh ⟨o, ho, he⟩
    rw [tput_miss hm]
    have hs := sort_app (l1 := l.take (tpos (txt t) l)) (o := t) (l2 := l.drop (tpos (txt t) l)) (h.insert hm)
    unfold Mm.insertAt
    conv => rhs; rw [← List.take_append_drop (tpos (txt t) l) l]
    rw [agg_app, agg_app, agg_one]
    obtain ⟨q, hq⟩ : ∃ q, tpos (txt t) l = q := ⟨_, rfl⟩
    rw [hq] at hs ⊢
    rw [show agg s (t :: l.drop q) = plus (if txt t = s then some t else none) (agg s (l.drop q)) from rfl]
    by_cases hk : txt t = s
    · rw [if_pos hk, agg_no (X := l.take q) (fun x hx e => less_ne (hs.1 x hx) (by rw [e, hk])), agg_no (X := l.drop q) (fun x hx e => less_ne (hs.2 x hx) (by rw [e, hk]))]
      rfl
    · rw [if_neg hk, plus_none]
      rfl
theorem tcomb_sort (X : List Total) : TSort (tcomb X) := by
  have : ∀ (r : List Total) (l : List Total), TSort l → TSort (r.foldl tput l) := by
    intro r
    induction r with
    | nil => intro l h; exact h
    | cons t r ih => intro l h; exact ih _ (tput_sort h)
  exact this X [] (fun i j x y _ h => by simp at h)
theorem agg_comb (s : ByteArray) (X : List Total) : agg s (tcomb X) = agg s X := by
  have : ∀ (n : Nat) (X : List Total), X.length = n → agg s (tcomb X) = agg s X := by
    intro n
    induction n with
    | zero => intro X h; rw [List.length_eq_zero_iff.1 h]; rfl
    | succ n ih =>
      intro X h
      obtain ⟨Y, t, rfl⟩ : ∃ Y t, X = Y ++ [t] := by
        rcases List.eq_nil_or_concat X with rfl | ⟨Y, t, rfl⟩
        · simp at h
        · exact ⟨Y, t, by simp⟩
      rw [tcomb_snoc, agg_put (tcomb_sort Y), ih Y (by simpa using h), ← agg_app]
  exact this _ X rfl
theorem sort_head {x : Total} {r : List Total} (h : TSort (x :: r)) : ∀ y, y ∈ r → lessB (txt x) (txt y) = true := (sort_app (l1 := []) h).2
theorem agg_head {x : Total} {r : List Total} (h : TSort (x :: r)) : agg (txt x) (x :: r) = some x := by
  rw [agg_cons, if_pos rfl, agg_no (fun y hy e => less_ne (sort_head h y hy) e.symm)]
  rfl
theorem sort_eq : ∀ {l m : List Total}, TSort l → TSort m → (∀ s, agg s l = agg s m) → l = m
  | [], [], _, _, _ => rfl
  | [], y :: m, _, hm, h => by have := h (txt y); rw [agg_head hm] at this; cases this
  | x :: l, [], hl, _, h => by have := h (txt x); rw [agg_head hl] at this; cases this
  | x :: l, y :: m, hl, hm, h => by
    have hxy : txt x = txt y := by
      apply Classical.byContradiction
      intro hne
      rcases less_total hne with h1 | h1
      · have := h (txt x)
        rw [agg_head hl, agg_no (X := y :: m) (fun z hz e => by
          rcases List.mem_cons.1 hz with rfl | hz
          · exact less_ne h1 e.symm
          · exact less_ne (less_trans h1 (sort_head hm z hz)) e.symm)] at this
        cases this
      · have := h (txt y)
        rw [agg_head hm, agg_no (X := x :: l) (fun z hz e => by
          rcases List.mem_cons.1 hz with rfl | hz
          · exact less_ne h1 e.symm
          · exact less_ne (less_trans h1 (sort_head hl z hz)) e.symm)] at this
        cases this
    have he : x = y := by
      have := h (txt x)
      rw [agg_head hl, hxy, agg_head hm] at this
      injection this
    subst he
    rw [sort_eq hl.tail hm.tail (fun s => ?_)]
    by_cases hk : txt x = s
    · subst hk
      rw [agg_no (fun z hz e => less_ne (sort_head hl z hz) e.symm), agg_no (fun z hz e => less_ne (sort_head hm z hz) e.symm)]
    · have := h s
      rw [agg_cons, agg_cons, if_neg hk] at this
      exact this
/-- two parts, merged -/
theorem comb_merge (A B : List Total) : tcomb (tcomb A ++ tcomb B) = tcomb (A ++ B) :=
  sort_eq (tcomb_sort _) (tcomb_sort _) fun s => by rw [agg_comb, agg_comb, agg_app, agg_app, agg_comb, agg_comb]
theorem tadd_comm {a b : Total} (h : a.Labels = b.Labels) : tadd a b = tadd b a := by
  unfold tadd
  simp only [Total.mk.injEq, h, true_and]
  refine ⟨by omega, by omega, ?_, ?_⟩
  · repeat' split
    all_goals omega
  · repeat' split
    all_goals omega
end Pl
end Go.Proofs.Ytnppcdiicnofpaa

/-
  Plain totals: a text tells its labels; merged in either order; as many as were counted. No program in sight. No conditions.
-/
namespace Go.Proofs.Ytnppcdiicnofpaa
namespace Pl
theorem cut_eq {c : UInt8} : ∀ {a b s t : List UInt8}, c ∉ a → c ∉ b → (s = [] ∨ ∃ s', s = c :: s') → (t = [] ∨ ∃ t', t = c :: t') → a ++ s = b ++ t → a = b ∧ s = t
  | [], [], s, t, _, _, _, _, h => ⟨rfl, h⟩
  | [], y :: b, s, t, _, hb, hs, _, h => by
    rcases hs with rfl | ⟨s', rfl⟩
    · cases h
    · injection h with h1 _
      exact absurd (by rw [h1]; simp) hb
  | x :: a, [], s, t, ha, _, _, ht, h => by
    rcases ht with rfl | ⟨t', rfl⟩
    · cases h
    · injection h with h1 _
      exact absurd (by rw [← h1]; simp) ha
  | x :: a, y :: b, s, t, ha, hb, hs, ht, h => by
    injection h with h1 h2
    obtain ⟨e1, e2⟩ := cut_eq (fun hm => ha (List.mem_cons_of_mem _ hm)) (fun hm => hb (List.mem_cons_of_mem _ hm)) hs ht h2
    exact ⟨by rw [h1, e1], e2⟩
theorem wbyte_no {d : Bool} {c : UInt8} (h : wbyte d c = true) : c ≠ 44 ∧ c ≠ 61 := by
  refine ⟨fun e => ?_, fun e => ?_⟩ <;> (subst e; revert h; cases d <;> decide)
theorem word_no {d : Bool} {l : List UInt8} (h : word d l = true) : (44 : UInt8) ∉ l ∧ (61 : UInt8) ∉ l := by
  unfold word at h
  rw [Bool.and_eq_true, List.all_eq_true] at h
  exact ⟨fun hm => (wbyte_no (h.1 _ hm)).1 rfl, fun hm => (wbyte_no (h.1 _ hm)).2 rfl⟩
theorem labTxt_no {x : Label} (h : labelOk x = true) : (44 : UInt8) ∉ labTxt x ∧ labTxt x ≠ [] := by
  unfold labelOk at h
  rw [Bool.and_eq_true] at h
  have h1 := word_no h.1
  have h2 := word_no h.2
  unfold labTxt
  refine ⟨fun hm => ?_, by simp⟩
  rcases List.mem_append.1 hm with hm | hm
  · exact h1.1 hm
  · rcases List.mem_cons.1 hm with hm | hm
    · cases hm
    · exact h2.1 hm
theorem labTxt_inj {x y : Label} (hx : labelOk x = true) (hy : labelOk y = true) (h : labTxt x = labTxt y) : x = y := by
  unfold labelOk at hx hy
  rw [Bool.and_eq_true] at hx hy
  unfold labTxt at h
  obtain ⟨e1, e2⟩ := cut_eq (c := 61) (word_no hx.1).2 (word_no hy.1).2 (.inr ⟨_, rfl⟩) (.inr ⟨_, rfl⟩) h
  injection e2 with _ e2
  cases x; cases y
  simp only [Label.mk.injEq]
  exact ⟨ba_ext e1, ba_ext e2⟩
theorem tail_form (xs : List (List UInt8)) : Lib.joinTail [44] xs = [] ∨ ∃ s', Lib.joinTail [44] xs = 44 :: s' := by
  cases xs with
  | nil => exact .inl rfl
  | cons x r => exact .inr ⟨x ++ Lib.joinTail [44] r, by unfold Lib.joinTail; simp⟩
theorem tail_inj : ∀ {xs ys : List (List UInt8)}, (∀ x, x ∈ xs → (44 : UInt8) ∉ x) → (∀ y, y ∈ ys → (44 : UInt8) ∉ y) → Lib.joinTail [44] xs = Lib.joinTail [44] ys → xs = ys
  | [], [], _, _, _ => rfl
  | [], y :: s, _, _, h => by unfold Lib.joinTail at h; simp at h
  | x :: r, [], _, _, h => by unfold Lib.joinTail at h; simp at h
  | x :: r, y :: s, hx, hy, h => by
    have e : ∀ (z : List UInt8) (q : List (List UInt8)), Lib.joinTail [44] (z :: q) = 44 :: (z ++ Lib.joinTail [44] q) := fun z q => by
      unfold Lib.joinTail
      simp
    rw [e, e] at h
    injection h with _ h
    obtain ⟨e1, e2⟩ := cut_eq (hx x (by simp)) (hy y (by simp)) (tail_form r) (tail_form s) h
    rw [e1, tail_inj (fun z hz => hx z (by simp [hz])) (fun z hz => hy z (by simp [hz])) e2]
theorem join_inj {xs ys : List (List UInt8)} (hx : ∀ x, x ∈ xs → (44 : UInt8) ∉ x ∧ x ≠ []) (hy : ∀ y, y ∈ ys → (44 : UInt8) ∉ y ∧ y ≠ []) (h : Lib.join xs [44] = Lib.join ys [44]) : xs = ys := by
  cases xs with
  | nil =>
    cases ys with
    | nil => rfl
    | cons y s =>
      rw [Lib.join_nil, Lib.join_cons] at h
      exact absurd (List.append_eq_nil_iff.1 h.symm).1 (hy y (by simp)).2
  | cons x r =>
    cases ys with
    | nil =>
      rw [Lib.join_nil, Lib.join_cons] at h
      exact absurd (List.append_eq_nil_iff.1 h).1 (hx x (by simp)).2
    | cons y s =>
      rw [Lib.join_cons, Lib.join_cons] at h
      obtain ⟨e1, e2⟩ := cut_eq (hx x (by simp)).1 (hy y (by simp)).1 (tail_form r) (tail_form s) h
      rw [e1, tail_inj (fun z hz => (hx z (by simp [hz])).1) (fun z hz => (hy z (by simp [hz])).1) e2]
theorem map_inj {α β : Type} {f : α → β} : ∀ {l m : List α}, (∀ x y, x ∈ l → y ∈ m → f x = f y → x = y) → l.map f = m.map f → l = m
  | [], [], _, _ => rfl
  | [], _ :: _, _, h => by cases h
  | _ :: _, [], _, h => by cases h
  | x :: l, y :: m, hf, h => by
    rw [List.map_cons, List.map_cons] at h
    injection h with h1 h2
    rw [hf x y (by simp) (by simp) h1, map_inj (fun a b ha hb => hf a b (by simp [ha]) (by simp [hb])) h2]
/-- a text tells its labels -/
theorem labelsText_inj {l m : List Label} (hl : labelsOk l = true) (hm : labelsOk m = true) (h : labelsText l = labelsText m) : l = m := by
  have h1 := congrArg (fun z : ByteArray => z.data.toList) h
  rw [labelsText_data, labelsText_data] at h1
  injection h1 with _ h1
  have h2 := List.append_cancel_right h1
  have e := join_inj (fun z hz => by
    obtain ⟨x, hx, rfl⟩ := List.mem_map.1 hz
    exact labTxt_no ((labelsOk_iff.1 hl).1 x hx)) (fun z hz => by
    obtain ⟨x, hx, rfl⟩ := List.mem_map.1 hz
    exact labTxt_no ((labelsOk_iff.1 hm).1 x hx)) h2
  exact map_inj (fun x y hx hy he => labTxt_inj ((labelsOk_iff.1 hl).1 x hx) ((labelsOk_iff.1 hm).1 y hy) he) e
theorem plus_comm {s : ByteArray} {A B : List Total} (hA : ∀ x, x ∈ A → labelsOk x.Labels = true) (hB : ∀ x, x ∈ B → labelsOk x.Labels = true) : plus (agg s A) (agg s B) = plus (agg s B) (agg s A) := by
  cases ha : agg s A with
  | none => rw [plus_none]; rfl
  | some a =>
    cases hb : agg s B with
    | none => rfl
    | some b =>
      obtain ⟨x, hx, ex⟩ := agg_lab ha
      obtain ⟨y, hy, ey⟩ := agg_lab hb
      refine congrArg some (tadd_comm ?_)
      rw [← ex, ← ey]
      refine labelsText_inj (hA x hx) (hB y hy) ?_
      have h1 := agg_txt ha
      have h2 := agg_txt hb
      unfold txt at h1 h2
      rw [ex, ey, h1, h2]
/-- .. in either order -/
theorem comb_merge' {A B : List Total} (hA : ∀ x, x ∈ A → labelsOk x.Labels = true) (hB : ∀ x, x ∈ B → labelsOk x.Labels = true) : tcomb (tcomb B ++ tcomb A) = tcomb (A ++ B) := by
  rw [comb_merge]
  exact sort_eq (tcomb_sort _) (tcomb_sort _) fun s => by rw [agg_comb, agg_comb, agg_app, agg_app, plus_comm hA hB]
def cntSum (l : List Total) : Int := (l.map (·.Count)).sum
theorem cntSum_put (l : List Total) (t : Total) : cntSum (tput l t) = cntSum l + t.Count := by
  have ins : ∀ k, cntSum (Mm.insertAt l k t) = cntSum l + t.Count := fun k => by
    unfold cntSum Mm.insertAt
    rw [List.map_append, List.map_cons, List.sum_append, List.sum_cons]
    conv => rhs; rw [← List.take_append_drop k l, List.map_append, List.sum_append]
    omega
  unfold tput
  split
  · rename_i o ho
    split
    · obtain ⟨hp, hpo⟩ := List.getElem?_eq_some_iff.1 ho
      obtain ⟨q, hq⟩ : ∃ q, tpos (txt t) l = q := ⟨_, rfl⟩
      rw [hq] at hp ⊢
      have hpo' : l[q] = o := by simp only [← hq]; exact hpo
      have e1 : l = l.take q ++ o :: l.drop (q + 1) := by rw [← hpo', ← List.drop_eq_getElem_cons hp, List.take_append_drop]
      have e2 : l.set q (tadd o t) = l.take q ++ tadd o t :: l.drop (q + 1) := List.set_eq_take_append_cons_drop.trans (by rw [if_pos hp])
      rw [e2]
      conv => rhs; rw [e1]
      unfold cntSum
      rw [List.map_append, List.map_cons, List.sum_append, List.sum_cons, List.map_append, List.map_cons, List.sum_append, List.sum_cons]
      show _ + (o.Count + t.Count + _) = _
      omega
    · exact ins _
  · exact ins _
theorem cntSum_comb (names : List ByteArray) (l : List Item) : ∀ k, k ≤ l.length → cntSum (tcomb ((l.map (titem names)).take k)) = (k : Int)
  | 0, _ => rfl
  | k + 1, hk => by
    have hx : (l.map (titem names))[k]? = some (titem names l[k]) := by rw [List.getElem?_map, List.getElem?_eq_getElem (by omega)]; rfl
    rw [tcomb_next hx, cntSum_put, cntSum_comb names l k (by omega)]
    show (k : Int) + 1 = _
    omega
end Pl
end Go.Proofs.Ytnppcdiicnofpaa

/-
  Plain: totals of two parts, merged, are the totals of all (chapter 14); contracts of the program's own checks. No conditions.
-/
namespace Go.Proofs.Ytnppcdiicnofpaa
open Go.RowKit
attribute [local go_sem] und_cell World.cell?_alloc_some
namespace Pl
theorem tby_true {l : List Item} {names : List ByteArray} {ts : List Total} (h : tby l names = (ts, true)) : itemsOk l = true ∧ names.length ≤ 6 ∧ ts = tcomb (l.map (titem names)) := by
  unfold tby at h
  split at h
  · rename_i h1
    rw [Bool.and_eq_true, decide_eq_true_eq] at h1
    injection h with h _
    exact ⟨h1.1, h1.2, h.symm⟩
  · injection h with _ h; cases h
theorem tby_of {l : List Item} {names : List ByteArray} (h : itemsOk l = true) (hn : names.length ≤ 6) : tby l names = (tcomb (l.map (titem names)), true) := if_pos (by rw [h]; simpa using hn)
theorem itemsOk_part {l m : List Item} (h : itemsOk l = true) (hs : ∀ x, x ∈ m → x ∈ l) (hl : m.length ≤ l.length) : itemsOk m = true := by
  obtain ⟨h1, h2⟩ := itemsOk_iff.1 h
  exact itemsOk_iff.2 ⟨fun x hx => h1 x (hs x hx), by omega⟩
theorem tmerge_of {a b c : List Total} (ha : totalsOk a = true) (hb : totalsOk b = true) (hc : tcomb (a ++ b) = c) (hk : totalsOk c = true) : tmerge a b = (c, true) := by
  unfold tmerge tgood
  rw [if_pos (by rw [ha, hb]; rfl), hc, if_pos hk]
theorem tby_split {l : List Item} {names : List ByteArray} {ts : List Total} (h : tby l names = (ts, true)) (k : Nat) :
    ∃ a b, tby (l.take k) names = (a, true) ∧ tby (l.drop k) names = (b, true) ∧ tmerge a b = (ts, true) ∧ tmerge b a = (ts, true) := by
  obtain ⟨h1, h2, rfl⟩ := tby_true h
  have ht : itemsOk (l.take k) = true := itemsOk_part h1 (fun x hx => List.mem_of_mem_take hx) (by rw [List.length_take]; omega)
  have hd : itemsOk (l.drop k) = true := itemsOk_part h1 (fun x hx => List.mem_of_mem_drop hx) (by rw [List.length_drop]; omega)
  have hlt : ∀ m : List Item, itemsOk m = true → ∀ x, x ∈ m.map (titem names) → labelsOk x.Labels = true := fun m hm x hx => (totOk_iff.1 (items_tok names hm x hx)).1
  have e : (l.take k).map (titem names) ++ (l.drop k).map (titem names) = l.map (titem names) := by rw [← List.map_append, List.take_append_drop]
  refine ⟨_, _, tby_of ht h2, tby_of hd h2, tmerge_of (tby_good names ht) (tby_good names hd) ?_ (tby_good names h1), tmerge_of (tby_good names hd) (tby_good names ht) ?_ (tby_good names h1)⟩
  · rw [comb_merge, e]
  · rw [comb_merge' (hlt _ ht) (hlt _ hd), e]
theorem cnt_take {l : List Total} {k : Nat} {x : Total} (h : l[k]? = some x) : cntSum (l.take (k + 1)) = cntSum (l.take k) + x.Count := by
  obtain ⟨hk, hx⟩ := List.getElem?_eq_some_iff.1 h
  unfold cntSum
  rw [List.take_succ_eq_append_getElem hk, hx, List.map_append, List.sum_append]
  simp
theorem cnt_all {l : List Item} {names : List ByteArray} {ts : List Total} (h : tby l names = (ts, true)) : cntSum ts = (l.length : Int) := by
  obtain ⟨h1, h2, rfl⟩ := tby_true h
  have := cntSum_comb names l l.length (Nat.le_refl _)
  rwa [List.take_of_length_le (by rw [List.length_map]; exact Nat.le_refl _)] at this
theorem tby_ok {l : List Item} {names : List ByteArray} {ts : List Total} (h : tby l names = (ts, true)) : totalsOk ts = true ∧ l.length ≤ 40 := by
  obtain ⟨h1, h2, rfl⟩ := tby_true h
  exact ⟨tby_good names h1, (itemsOk_iff.1 h1).2⟩
/-- the counts of good totals, summed to some place, stay small -/
theorem cnt_small {l : List Total} (h : totalsOk l = true) : ∀ k, k ≤ l.length → 0 ≤ cntSum (l.take k) ∧ cntSum (l.take k) ≤ 1000 * (k : Int)
  | 0, _ => by simp [cntSum]
  | k + 1, hk => by
    have ih := cnt_small h k (by omega)
    have hx := List.getElem?_eq_getElem (show k < l.length by omega)
    rw [cnt_take hx]
    have := (totOk_iff.1 (totalsOk_all h _ (List.getElem_mem (show k < l.length by omega)))).2.1
    omega
end Pl
theorem implGoodItems_c (l : List Item) (A : Option Addr) (n c : Nat) (w : World) (B : Nat) (hl : Mm.SlAt rItem w B l A n c) (hB : B ≤ w.heap.size) :
    Calls Try.prog 27 #[.slice A n c] w fun e w' => e = .returned (.bool (Pl.itemsOk l)) ∧ Below w.heap.size w w' := by
  have CA := areItems_c l A n c w B hl hB
  go_enter Try.func27, Try.ntmps27
  go_wp2_with (go_at_call 64; (with_reducible refine CA.mono ?_); clear CA; rintro e w1 ⟨rfl, hb1⟩)
  go_ret
  exact ⟨rfl, hb1⟩
theorem implGoodTotals_c (l : List Total) (A : Option Addr) (n c : Nat) (w : World) (B : Nat) (hl : Mm.SlAt rTotal w B l A n c) (hB : B ≤ w.heap.size) :
    Calls Try.prog 30 #[.slice A n c] w fun e w' => e = .returned (.bool (Pl.totalsOk l)) ∧ Below w.heap.size w w' := by
  have CA := areTotals_c l A n c w B hl hB
  go_enter Try.func30, Try.ntmps30
  go_wp2_with (go_at_call 51; (with_reducible refine CA.mono ?_); clear CA; rintro e w1 ⟨rfl, hb1⟩)
  go_ret
  exact ⟨rfl, hb1⟩
end Go.Proofs.Ytnppcdiicnofpaa

/-
  What stays true while a call only makes memory: a list of facts that move on together. No program in sight. No conditions.
-/
namespace Go.Proofs.Ytnppcdiicnofpaa
open Go.RowKit
namespace Mm
structure Fact where
  holds : World → Prop
  keep : ∀ {w w' : World}, holds w → Below w.heap.size w w' → holds w'
/-- a reading of a struct, a slice; a block known whole -/
def frd {α : Type} (R : Rep α) (x : α) (cs : List Value) : Fact := ⟨fun w => R.at_ w w.heap.size x cs, fun h hb => R.more (R.keep h fun b hb' => hb.block b hb') hb.size⟩
def fsl {α : Type} (E : Rep α) (xs : List α) (A : Option Addr) (n c : Nat) : Fact := ⟨fun w => SlAt E w w.heap.size xs A n c, fun h hb => (h.keep fun b hb' => hb.block b hb').more hb.size⟩
def fbk (g : Nat) (t : TypeId) (cs : List Value) : Fact := ⟨fun w => Blk w g t cs, fun h hb => h.bel hb⟩
structure Facts (w0 w : World) (fs : List Fact) : Prop where
  bel : Below w0.heap.size w0 w
  all : ∀ f, f ∈ fs → f.holds w
section
variable {w0 w w' : World} {fs gs : List Fact} {f : Fact}
theorem Facts.nil (w : World) : Facts w w [] := ⟨Below.refl _ _, fun f h => by cases h⟩
theorem Facts.step (h : Facts w0 w fs) (hb : Below w.heap.size w w') : Facts w0 w' fs := ⟨below_step h.bel hb, fun f hf => f.keep (h.all f hf) hb⟩
theorem Facts.add (h : Facts w0 w fs) (hb : Below w.heap.size w w') (hf : f.holds w') : Facts w0 w' (fs ++ [f]) :=
  ⟨below_step h.bel hb, fun g hg => by
    rcases List.mem_append.1 hg with hg | hg
    · exact g.keep (h.all g hg) hb
    · rw [List.mem_singleton.1 hg]; exact hf⟩
theorem Facts.put (h : Facts w0 w fs) (hf : f.holds w) : Facts w0 w (fs ++ [f]) := h.add (Below.refl _ _) hf
/-- a variable of its own: its block, laid at the world's end -/
theorem Facts.var {g : Nat} (h : Facts w0 w fs) (hg : w.heap.size = g) (t : TypeId) (cs : List Value) : Facts w0 (w.alloc (.cells cs.toArray t)) (fs ++ [fbk g t cs]) := by
  subst hg
  exact h.add (below_new (Below.refl _ _) _) (Blk.new w t cs)
theorem Facts.at_ (h : Facts w0 w fs) (i : Nat) (hi : fs[i]? = some f) : f.holds w := h.all f (List.mem_of_getElem? hi)
theorem Facts.rd {α : Type} {R : Rep α} {x : α} {cs : List Value} (h : Facts w0 w fs) (i : Nat) (hi : fs[i]? = some (frd R x cs)) : R.at_ w w.heap.size x cs := h.at_ i hi
theorem Facts.sl {α : Type} {E : Rep α} {xs : List α} {A : Option Addr} {n c : Nat} (h : Facts w0 w fs) (i : Nat) (hi : fs[i]? = some (fsl E xs A n c)) : SlAt E w w.heap.size xs A n c := h.at_ i hi
theorem Facts.cell {g k : Nat} {t : TypeId} {cs : List Value} {u : Value} (h : Facts w0 w fs) (i : Nat) (hi : fs[i]? = some (fbk g t cs)) (hu : cs[k]? = some u) : w.cell? ⟨g, k, none⟩ = some u := (show Blk w g t cs from h.at_ i hi).cell hu
theorem Facts.und (h : Facts w0 w fs) (x : Und w) : Facts w0 (und w x) fs := h.step x.h
theorem Facts.fewer (h : Facts w0 w fs) (hs : gs.Sublist fs) : Facts w0 w gs := ⟨h.bel, fun f hf => h.all f (hs.subset hf)⟩
end
end Mm
end Go.Proofs.Ytnppcdiicnofpaa
