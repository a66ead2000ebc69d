/-
  Plain laws: sketches of lists of names. No program in sight. No conditions.
-/
import Derived.Test.YtjmcbggdckfefaaPj
namespace Go.Proofs.Ytjmcbggdckfefaa
namespace Pl
def cntP (L : List ByteArray) (r p : Nat) : Nat := L.countP fun x => decide ((place r x.data.toList).toNat = p)
theorem cntP_le (L : List ByteArray) (r p : Nat) : cntP L r p ≤ L.length := List.countP_le_length
theorem cntP_snoc (L : List ByteArray) (x : ByteArray) (r p : Nat) : cntP (L ++ [x]) r p = cntP L r p + if (place r x.data.toList).toNat = p then 1 else 0 := by
  unfold cntP
  rw [List.countP_append, List.countP_singleton]
  simp only [decide_eq_true_eq]
theorem cnt_lt_succ {α : Type} (f : α → Nat) (j : Nat) : ∀ L : List α, L.countP (fun x => decide (f x < j + 1)) = L.countP (fun x => decide (f x < j)) + L.countP (fun x => decide (f x = j))
  | [] => rfl
  | x :: t => by
    have ih := cnt_lt_succ f j t
    rw [List.countP_cons, List.countP_cons, List.countP_cons, ih]
    simp only [decide_eq_true_eq]
    split <;> split <;> split <;> omega
/-- the sketch of a list of names -/
structure SkOf (R : Nat) (L : List ByteArray) (s : Sketch) : Prop where
  len : s.Rows.length = R
  tot : s.Total = L.length
  row : ∀ r row, s.Rows[r]? = some row → row.length = 11 ∧ ∀ p, p < 11 → row[p]? = some (cntP L r p : Int)
theorem SkOf.eq {R : Nat} {L L' : List ByteArray} {s s' : Sketch} (h : SkOf R L s) (h' : SkOf R L' s') (hc : ∀ r p, cntP L r p = cntP L' r p) (hl : L.length = L'.length) : s = s' := by
  have ht : s.Total = s'.Total := by rw [h.tot, h'.tot, hl]
  have hr : s.Rows = s'.Rows := by
    apply List.ext_getElem?
    intro i
    by_cases hi : i < R
    · have h1 := List.getElem?_eq_getElem (show i < s.Rows.length by rw [h.len]; exact hi)
      have h2 := List.getElem?_eq_getElem (show i < s'.Rows.length by rw [h'.len]; exact hi)
      have k1 := h.row i _ h1
      have k2 := h'.row i _ h2
      rw [h1, h2]
      congr 1
      apply List.ext_getElem?
      intro p
      by_cases hp : p < 11
      · rw [k1.2 p hp, k2.2 p hp, hc]
      · rw [List.getElem?_eq_none (by omega), List.getElem?_eq_none (by omega)]
    · rw [List.getElem?_eq_none (by rw [h.len]; omega), List.getElem?_eq_none (by rw [h'.len]; omega)]
  cases s; cases s'
  simp only at ht hr
  rw [ht, hr]
theorem SkOf.ok {R : Nat} {L : List ByteArray} {s : Sketch} (h : SkOf R L s) (h1 : 1 ≤ R) (h2 : R ≤ 3) (hl : L.length ≤ 1000) : sketchOk s = true := by
  unfold sketchOk
  rw [Bool.and_eq_true]
  refine ⟨isIn_mk (by rw [h.len]; omega) (by rw [h.len]; omega), List.all_eq_true.2 fun row hrow => ?_⟩
  obtain ⟨r, hr⟩ := List.mem_iff_getElem?.1 hrow
  obtain ⟨k1, k2⟩ := h.row r row hr
  refine rowOk_iff.2 ⟨k1, List.all_eq_true.2 fun x hx => ?_, ?_⟩
  · obtain ⟨p, hp⟩ := List.mem_iff_getElem?.1 hx
    have hp11 := (List.getElem?_eq_some_iff.1 hp).1
    rw [k2 p (by omega)] at hp
    injection hp with hp
    have := cntP_le L r p
    exact isIn_mk (by omega) (by omega)
  · have hs : ∀ j, j ≤ 11 → sumTo row j = (L.countP (fun x => decide ((place r x.data.toList).toNat < j)) : Nat) := by
      intro j
      induction j with
      | zero => intro _; simp [sumTo]
      | succ j ih =>
        intro hj
        have hc := cnt_lt_succ (fun x : ByteArray => (place r x.data.toList).toNat) j L
        rw [sumTo_next (k2 j (by omega)), ih (by omega), hc]
        unfold cntP
        push_cast
        rfl
    unfold sum
    rw [k1, hs 11 (Nat.le_refl _), h.tot]
    congr 1
    rw [List.countP_eq_length]
    intro x _
    have := place_bd r x.data.toList
    simp only [decide_eq_true_eq]
    omega
theorem SkOf.add {R : Nat} {L : List ByteArray} {s : Sketch} (h : SkOf R L s) (h1 : 1 ≤ R) (h2 : R ≤ 3) (hl : L.length ≤ 900) {name : ByteArray} (hw : word false name.data.toList = true) : ∃ s', addSketch s name 1 = (s', true) ∧ SkOf R (L ++ [name]) s' := by
  have hb : SkOf R (L ++ [name]) (bumped s name.data.toList 1) := by
    have hget : ∀ k r, r < k → k ≤ R → ∀ row, s.Rows[r]? = some row → (addTo s.Rows name.data.toList 1 k)[r]? = some (bump row (place r name.data.toList).toNat 1) := by
      intro k
      induction k with
      | zero => intro r hr; omega
      | succ k ih =>
        intro r hr hk row hrow
        obtain ⟨rk, hrk⟩ : ∃ rk, s.Rows[k]? = some rk := ⟨_, List.getElem?_eq_getElem (show k < s.Rows.length by rw [h.len]; omega)⟩
        rw [addTo_next hrk]
        by_cases hlt : r < k
        · rw [List.getElem?_append_left (by rw [addTo_len]; exact hlt)]
          exact ih r hlt (by omega) row hrow
        · have : r = k := by omega
          subst this
          rw [hrow] at hrk
          injection hrk with hrk
          subst hrk
          rw [List.getElem?_append_right (by rw [addTo_len]; exact Nat.le_refl _), addTo_len, Nat.sub_self]; rfl
    refine ⟨by show (addTo _ _ _ _).length = R; rw [addTo_len, h.len], by show s.Total + 1 = _; rw [h.tot, List.length_append, List.length_singleton]; push_cast; rfl, fun r row hrow => ?_⟩
    have hr : r < R := by have := (List.getElem?_eq_some_iff.1 hrow).1; change r < (addTo _ _ _ _).length at this; rw [addTo_len, h.len] at this; exact this
    obtain ⟨ro, hro⟩ : ∃ ro, s.Rows[r]? = some ro := ⟨_, List.getElem?_eq_getElem (show r < s.Rows.length by rw [h.len]; omega)⟩
    have hg := hget s.Rows.length r (by rw [h.len]; exact hr) (by rw [h.len]; exact Nat.le_refl _) ro hro
    change (addTo s.Rows name.data.toList 1 s.Rows.length)[r]? = some row at hrow
    rw [hg] at hrow
    injection hrow with hrow
    subst hrow
    obtain ⟨k1, k2⟩ := h.row r ro hro
    have hp0 := place_bd r name.data.toList
    unfold bump
    refine ⟨by rw [List.length_set]; exact k1, fun p hp => ?_⟩
    rw [cntP_snoc, getD_of (k2 _ (show (place r name.data.toList).toNat < 11 by omega))]
    by_cases hpe : (place r name.data.toList).toNat = p
    · subst hpe
      rw [List.getElem?_set_self (by omega), if_pos rfl]; push_cast; rfl
    · rw [List.getElem?_set_ne hpe, k2 p hp, if_neg hpe]; push_cast; rfl
  refine ⟨bumped s name.data.toList 1, ?_, hb⟩
  have hok := hb.ok h1 h2 (by rw [List.length_append, List.length_singleton]; omega)
  unfold addSketch
  rw [if_pos (by rw [h.ok h1 h2 (by omega), hw]; decide), if_pos hok]
theorem add_bad (s : Sketch) {name : ByteArray} (hw : word false name.data.toList = false) (many : Int) : addSketch s name many = (sk0, false) := if_neg (by rw [hw]; simp)
theorem SkOf.join {R : Nat} {A B C : List ByteArray} {a b : Sketch} (ha : SkOf R A a) (hb : SkOf R B b) (h1 : 1 ≤ R) (h2 : R ≤ 3) (hc : ∀ r p, cntP C r p = cntP A r p + cntP B r p) (hl : C.length = A.length + B.length) (hC : C.length ≤ 900) : ∃ j, joinSketches a b = (j, true) ∧ SkOf R C j := by
  have hj : SkOf R C (joined a b) := by
    have hget : ∀ k r, r < k → k ≤ R → ∀ x y, a.Rows[r]? = some x → b.Rows[r]? = some y → (joinTo a.Rows b.Rows k)[r]? = some (joinRow x y) := by
      intro k
      induction k with
      | zero => intro r hr; omega
      | succ k ih =>
        intro r hr hk x y hx hy
        obtain ⟨xk, hxk⟩ : ∃ xk, a.Rows[k]? = some xk := ⟨_, List.getElem?_eq_getElem (show k < a.Rows.length by rw [ha.len]; omega)⟩
        obtain ⟨yk, hyk⟩ : ∃ yk, b.Rows[k]? = some yk := ⟨_, List.getElem?_eq_getElem (show k < b.Rows.length by rw [hb.len]; omega)⟩
        rw [joinTo_next hxk hyk]
        by_cases hlt : r < k
        · rw [List.getElem?_append_left (by rw [joinTo_len]; exact hlt)]
          exact ih r hlt (by omega) x y hx hy
        · have : r = k := by omega
          subst this
          rw [hx] at hxk; rw [hy] at hyk
          injection hxk with hxk; injection hyk with hyk
          subst hxk; subst hyk
          rw [List.getElem?_append_right (by rw [joinTo_len]; exact Nat.le_refl _), joinTo_len, Nat.sub_self]; rfl
    refine ⟨by show (joinTo _ _ _).length = R; rw [joinTo_len, ha.len], by show a.Total + b.Total = _; rw [ha.tot, hb.tot, hl]; push_cast; rfl, fun r row hrow => ?_⟩
    have hr : r < R := by have := (List.getElem?_eq_some_iff.1 hrow).1; change r < (joinTo _ _ _).length at this; rw [joinTo_len, ha.len] at this; exact this
    obtain ⟨x, hx⟩ : ∃ x, a.Rows[r]? = some x := ⟨_, List.getElem?_eq_getElem (show r < a.Rows.length by rw [ha.len]; omega)⟩
    obtain ⟨y, hy⟩ : ∃ y, b.Rows[r]? = some y := ⟨_, List.getElem?_eq_getElem (show r < b.Rows.length by rw [hb.len]; omega)⟩
    have hg := hget a.Rows.length r (by rw [ha.len]; exact hr) (by rw [ha.len]; exact Nat.le_refl _) x y hx hy
    change (joinTo a.Rows b.Rows a.Rows.length)[r]? = some row at hrow
    rw [hg] at hrow
    injection hrow with hrow
    subst hrow
    obtain ⟨k1, k2⟩ := ha.row r x hx
    obtain ⟨m1, m2⟩ := hb.row r y hy
    refine ⟨by rw [joinRow_len (by omega)]; exact k1, fun p hp => ?_⟩
    rw [joinRow_get (k2 p hp) (m2 p hp), hc]; push_cast; rfl
  refine ⟨joined a b, ?_, hj⟩
  have hok := hj.ok h1 h2 (by omega)
  unfold joinSketches
  rw [if_pos (by rw [ha.ok h1 h2 (by omega), hb.ok h1 h2 (by omega), ha.len, hb.len]; simp), if_pos hok]
/-- how often a name is in a list -/
def cntN (L : List ByteArray) (x : ByteArray) : Nat := L.countP fun y => decide (y = x)
theorem cntN_le_cntP (L : List ByteArray) (x : ByteArray) (r : Nat) : cntN L x ≤ cntP L r (place r x.data.toList).toNat := by
  unfold cntN cntP
  refine List.countP_mono_left fun y _ h => ?_
  simp only [decide_eq_true_eq] at h ⊢
  rw [h]
theorem SkOf.guess {R : Nat} {L : List ByteArray} {s : Sketch} (h : SkOf R L s) (h1 : 1 ≤ R) (h2 : R ≤ 3) (hl : L.length ≤ 900) {name : ByteArray} (hw : word false name.data.toList = true) : ∃ g, guessOf s name = (g, true) ∧ (cntN L name : Int) ≤ g ∧ g ≤ s.Total := by
  refine ⟨guessTo s.Rows name.data.toList s.Rows.length, if_pos (by rw [h.ok h1 h2 (by omega), hw]; rfl), ?_, ?_⟩
  · have : ∀ k, k ≤ R → (cntN L name : Int) ≤ guessTo s.Rows name.data.toList k := by
      intro k
      induction k with
      | zero => intro _; have := List.countP_le_length (p := fun y => decide (y = name)) (l := L); unfold guessTo cntN; omega
      | succ k ih =>
        intro hk
        obtain ⟨ro, hro⟩ : ∃ ro, s.Rows[k]? = some ro := ⟨_, List.getElem?_eq_getElem (show k < s.Rows.length by rw [h.len]; omega)⟩
        have hp0 := place_bd k name.data.toList
        have hx := (h.row k ro hro).2 (place k name.data.toList).toNat (by omega)
        rw [guessTo_next hro hx]
        have := ih (by omega)
        have hc := cntN_le_cntP L name k
        split <;> omega
    exact this _ (by rw [h.len]; exact Nat.le_refl _)
  · rw [h.len, h.tot]
    have main : ∀ k, k + 1 ≤ R → guessTo s.Rows name.data.toList (k + 1) ≤ L.length := by
      intro k
      induction k with
      | zero =>
        intro _
        obtain ⟨ro, hro⟩ : ∃ ro, s.Rows[0]? = some ro := ⟨_, List.getElem?_eq_getElem (show 0 < s.Rows.length by rw [h.len]; omega)⟩
        have hp0 := place_bd ((0 : Nat) : Int) name.data.toList
        have hx := (h.row 0 ro hro).2 (place ((0 : Nat) : Int) name.data.toList).toNat (by omega)
        have hb := cntP_le L 0 (place ((0 : Nat) : Int) name.data.toList).toNat
        rw [guessTo_next hro hx]
        have h0 : guessTo s.Rows name.data.toList 0 = 100000 := rfl
        rw [h0]
        split <;> omega
      | succ j ih =>
        intro hlt
        obtain ⟨ro, hro⟩ : ∃ ro, s.Rows[j + 1]? = some ro := ⟨_, List.getElem?_eq_getElem (show j + 1 < s.Rows.length by rw [h.len]; omega)⟩
        have hp0 := place_bd ((j + 1 : Nat) : Int) name.data.toList
        have hx := (h.row (j + 1) ro hro).2 (place ((j + 1 : Nat) : Int) name.data.toList).toNat (by omega)
        rw [guessTo_next hro hx]
        have h3 := ih (by omega)
        split <;> omega
    obtain ⟨k, rfl⟩ : ∃ k, R = k + 1 := ⟨R - 1, by omega⟩
    exact main k (Nat.le_refl _)
/-- the law's loop: all together, the even and the odd -/
def okw (x : ByteArray) : Bool := word false x.data.toList
def SkLoop (R : Nat) (l : List ByteArray) (k : Nat) (al : Bool) (s f t : Sketch) : Prop :=
  ∃ F S : List ByteArray, SkOf R ((l.take k).filter okw) s ∧ SkOf R F f ∧ SkOf R S t ∧ (∀ r p, cntP ((l.take k).filter okw) r p = cntP F r p + cntP S r p) ∧ ((l.take k).filter okw).length = F.length + S.length ∧ (al = true → ((l.take k).filter okw).length = k)
theorem SkLoop.start {R : Nat} {l : List ByteArray} {s : Sketch} (h : SkOf R [] s) : SkLoop R l 0 true s s s :=
  ⟨[], [], by simpa using h, h, h, fun r p => by simp [cntP], by simp, fun _ => by simp⟩
theorem take_filter {l : List ByteArray} {k : Nat} {x : ByteArray} (hx : l[k]? = some x) : (l.take (k + 1)).filter okw = (l.take k).filter okw ++ if okw x = true then [x] else [] := by
  have hk := (List.getElem?_eq_some_iff.1 hx).1
  have : l.take (k + 1) = l.take k ++ [x] := by
    rw [List.take_add_one, hx]; rfl
  rw [this, List.filter_append]
  congr 1
  cases h : okw x <;> simp [h]
theorem filter_len (l : List ByteArray) (k : Nat) : ((l.take k).filter okw).length ≤ k := by
  refine Nat.le_trans (List.length_filter_le _ _) ?_
  rw [List.length_take]; omega
theorem SkLoop.skip {R : Nat} {l : List ByteArray} {k : Nat} {al : Bool} {s f t : Sketch} {x : ByteArray} (h : SkLoop R l k al s f t) (hx : l[k]? = some x) (hw : okw x = false) : SkLoop R l (k + 1) false s f t := by
  obtain ⟨F, S, h1, h2, h3, h4, h5, h6⟩ := h
  have e : (l.take (k + 1)).filter okw = (l.take k).filter okw := by rw [take_filter hx, hw]; simp
  unfold SkLoop
  rw [e]
  exact ⟨F, S, h1, h2, h3, h4, h5, fun h => by cases h⟩
theorem SkLoop.both {R : Nat} {l : List ByteArray} {k : Nat} {al : Bool} {s f t : Sketch} {x : ByteArray} (h : SkLoop R l k al s f t) (h1 : 1 ≤ R) (h3 : R ≤ 3) (hk : k ≤ 300) (hx : l[k]? = some x) (hw : okw x = true) :
    ∃ s', addSketch s x 1 = (s', true) ∧ (∃ f', addSketch f x 1 = (f', true) ∧ SkLoop R l (k + 1) al s' f' t) ∧ (∃ t', addSketch t x 1 = (t', true) ∧ SkLoop R l (k + 1) al s' f t') := by
  obtain ⟨F, S, k1, k2, k3, k4, k5, k6⟩ := h
  have e : (l.take (k + 1)).filter okw = (l.take k).filter okw ++ [x] := by rw [take_filter hx, hw]; simp
  have hl := filter_len l k
  obtain ⟨s', hs, ks⟩ := k1.add h1 h3 (by omega) hw
  obtain ⟨f', hf, kf⟩ := k2.add h1 h3 (by omega) hw
  obtain ⟨t', ht, kt⟩ := k3.add h1 h3 (by omega) hw
  refine ⟨s', hs, ⟨f', hf, F ++ [x], S, by rw [e]; exact ks, kf, k3, fun r p => ?_, ?_, fun h => ?_⟩, ⟨t', ht, F, S ++ [x], by rw [e]; exact ks, k2, kt, fun r p => ?_, ?_, fun h => ?_⟩⟩
  · rw [e, cntP_snoc, cntP_snoc, k4]; omega
  · rw [e]; simp only [List.length_append, List.length_singleton]; omega
  · rw [e]; simp only [List.length_append, List.length_singleton]; have := k6 h; omega
  · rw [e, cntP_snoc, cntP_snoc, k4]; omega
  · rw [e]; simp only [List.length_append, List.length_singleton]; omega
  · rw [e]; simp only [List.length_append, List.length_singleton]; have := k6 h; omega
theorem SkLoop.done {R : Nat} {l : List ByteArray} {al : Bool} {s f t : Sketch} (h : SkLoop R l l.length al s f t) (h1 : 1 ≤ R) (h3 : R ≤ 3) (hl : l.length ≤ 300) :
    joinSketches f t = (s, true) ∧ (al = true → s.Total = l.length) ∧ (∀ name, okw name = true → ∃ g, guessOf s name = (g, true) ∧ (cntN l name : Int) ≤ g ∧ g ≤ s.Total) := by
  obtain ⟨F, S, k1, k2, k3, k4, k5, k6⟩ := h
  rw [List.take_length] at k1 k4 k5 k6
  have hf : (l.filter okw).length ≤ l.length := List.length_filter_le _ _
  obtain ⟨j, hj, kj⟩ := k2.join k3 h1 h3 (C := l.filter okw) k4 k5 (by omega)
  refine ⟨by rw [hj, kj.eq k1 (fun _ _ => rfl) rfl], fun h => by rw [k1.tot, k6 h], fun name hw => ?_⟩
  obtain ⟨g, hg, g1, g2⟩ := k1.guess h1 h3 (by omega) hw
  refine ⟨g, hg, ?_, g2⟩
  have : cntN (l.filter okw) name = cntN l name := by
    unfold cntN
    rw [List.countP_filter]
    refine List.countP_congr fun y _ => ?_
    simp only [Bool.and_eq_true, decide_eq_true_eq]
    exact ⟨fun h => h.1, fun h => ⟨h, by rw [h]; exact hw⟩⟩
  omega
theorem guess_bad (s : Sketch) {name : ByteArray} (hw : okw name = false) : guessOf s name = (0, false) := if_neg (by unfold okw at hw; rw [hw]; simp)
theorem cntN_next {l : List ByteArray} {k : Nat} {x name : ByteArray} (hx : l[k]? = some x) : cntN (l.take (k + 1)) name = cntN (l.take k) name + if x = name then 1 else 0 := by
  unfold cntN
  rw [List.take_add_one, hx, Option.toList_some, List.countP_append, List.countP_singleton]
  simp only [decide_eq_true_eq]
theorem cntN_le (l : List ByteArray) (name : ByteArray) (k : Nat) : cntN (l.take k) name ≤ k := by
  refine Nat.le_trans List.countP_le_length ?_
  rw [List.length_take]; omega
end Pl
end Go.Proofs.Ytjmcbggdckfefaa
