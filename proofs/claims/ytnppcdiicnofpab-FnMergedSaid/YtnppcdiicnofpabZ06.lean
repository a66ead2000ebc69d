/-
  Joined texts, in build order: S0, S1, Rs, S2, S3, S4, S5, S6, S7, Wz. Each part says what it proves; no conditions beyond those that a part names.
-/
import Derived.Test.YtnppcdiicnofpabZ01
import Derived.Test.YtnppcdiicnofpabZ03
import Derived.Test.YtnppcdiicnofpabZ04
import Derived.Deep.LoopGhost
import Derived.Deep.DeepCutAuto
import Derived.Deep.CutBlock
/-
  Plain functions: elements moved among themselves: insertion, exchange, rotation. No program in sight. No conditions.
-/
namespace Go.Proofs.Ytnppcdiicnofpab
namespace Pl
/-- x comes ahead of y: the greater value first, among equals the smaller number -/
def Bef (v : Int → Int) (x y : Int) : Prop := v y < v x ∨ (v x = v y ∧ x < y)
theorem Bef.trans {v : Int → Int} {x y z : Int} (h : Bef v x y) (k : Bef v y z) : Bef v x z := by unfold Bef at *; omega
theorem Bef.irr {v : Int → Int} {x : Int} (h : Bef v x x) : False := by unfold Bef at *; omega
theorem Bef.lt {v : Int → Int} {x y : Int} (h : x < y) : Bef v y x ↔ v x < v y := by unfold Bef; omega
theorem Bef.lt' {v : Int → Int} {x y : Int} (h : x < y) : Bef v x y ↔ ¬ v x < v y := by unfold Bef; omega
/-- the elements from a on, below b, moved among themselves -/
structure Mv (a b : Nat) (d d' : List Int) : Prop where
  len : d'.length = d.length
  out : ∀ i, i < a ∨ b ≤ i → d'[i]? = d[i]?
  inn : ∀ i, a ≤ i → i < b → ∃ j, a ≤ j ∧ j < b ∧ d'[i]? = d[j]?
  perm : d'.Perm d
theorem Mv.refl (a b : Nat) (d : List Int) : Mv a b d d := ⟨rfl, fun _ _ => rfl, fun i h1 h2 => ⟨i, h1, h2, rfl⟩, List.Perm.refl _⟩
theorem Mv.trans {a b : Nat} {d e f : List Int} (h : Mv a b d e) (k : Mv a b e f) : Mv a b d f :=
  ⟨k.len.trans h.len, fun i hi => (k.out i hi).trans (h.out i hi), fun i h1 h2 => by
    obtain ⟨j, j1, j2, e1⟩ := k.inn i h1 h2
    obtain ⟨q, q1, q2, e2⟩ := h.inn j j1 j2
    exact ⟨q, q1, q2, e1.trans e2⟩, k.perm.trans h.perm⟩
theorem Mv.mono {a b a' b' : Nat} {d e : List Int} (h : Mv a b d e) (ha : a' ≤ a) (hb : b ≤ b') : Mv a' b' d e :=
  ⟨h.len, fun i hi => h.out i (by omega), fun i h1 h2 => by
    by_cases hi : a ≤ i ∧ i < b
    · obtain ⟨j, j1, j2, e1⟩ := h.inn i hi.1 hi.2
      exact ⟨j, by omega, by omega, e1⟩
    · exact ⟨i, h1, h2, h.out i (by omega)⟩, h.perm⟩
/-- two elements exchanged -/
def swp (d : List Int) (i j : Nat) (x y : Int) : List Int := (d.set i y).set j x
theorem swp_get {d : List Int} {i j : Nat} {x y : Int} (hi : d[i]? = some x) (hj : d[j]? = some y) (t : Nat) : (swp d i j x y)[t]? = if t = j then some x else if t = i then some y else d[t]? := by
  have h1 := (List.getElem?_eq_some_iff.1 hi).1
  have h2 := (List.getElem?_eq_some_iff.1 hj).1
  unfold swp
  by_cases e : t = j
  · subst e
    rw [if_pos rfl, List.getElem?_set_self (by simpa using h2)]
  · rw [if_neg e, List.getElem?_set_ne (Ne.symm e)]
    by_cases e2 : t = i
    · subst e2
      rw [if_pos rfl, List.getElem?_set_self h1]
    · rw [if_neg e2, List.getElem?_set_ne (Ne.symm e2)]
theorem Mv.swp {a b : Nat} {d : List Int} {i j : Nat} {x y : Int} (hi : d[i]? = some x) (hj : d[j]? = some y) (h1 : a ≤ i) (h2 : i < b) (h3 : a ≤ j) (h4 : j < b) : Mv a b d (swp d i j x y) := by
  refine ⟨by unfold Pl.swp; simp, fun t ht => ?_, fun t t1 t2 => ?_, ?_⟩
  · rw [swp_get hi hj, if_neg (by omega), if_neg (by omega)]
  · rw [swp_get hi hj]
    by_cases e : t = j
    · rw [if_pos e]; exact ⟨i, h1, h2, hi.symm⟩
    · rw [if_neg e]
      by_cases e2 : t = i
      · rw [if_pos e2]; exact ⟨j, h3, h4, hj.symm⟩
      · rw [if_neg e2]; exact ⟨t, t1, t2, rfl⟩
  · obtain ⟨p1, p2⟩ := List.getElem?_eq_some_iff.1 hi
    obtain ⟨q1, q2⟩ := List.getElem?_eq_some_iff.1 hj
    have := List.set_set_perm p1 q1
    rw [p2, q2] at this
    exact this
def Srt (v : Int → Int) (d : List Int) (a b : Nat) : Prop := ∀ (i j : Nat) (x y : Int), a ≤ i → i < j → j < b → d[i]? = some x → d[j]? = some y → Bef v x y
/-- all numbers from a on, below m, are smaller than those from m on, below b -/
def Lft (d : List Int) (a m b : Nat) : Prop := ∀ (i j : Nat) (x y : Int), a ≤ i → i < m → m ≤ j → j < b → d[i]? = some x → d[j]? = some y → x < y
def Asc (d : List Int) (a b : Nat) : Prop := ∀ (i j : Nat) (x y : Int), a ≤ i → i < j → j < b → d[i]? = some x → d[j]? = some y → x < y
theorem Srt.one {v : Int → Int} {d : List Int} {a b : Nat} (h : b ≤ a + 1) : Srt v d a b := fun i j x y h1 h2 h3 _ _ => by omega
theorem Srt.sub {v : Int → Int} {d : List Int} {a b a' b' : Nat} (h : Srt v d a b) (ha : a ≤ a') (hb : b' ≤ b) : Srt v d a' b' := fun i j x y h1 h2 h3 hx hy => h i j x y (by omega) h2 (by omega) hx hy
/-- the same elements, so many places on -/
theorem Srt.shift {v : Int → Int} {d d' : List Int} {a b a' b' : Nat} (h : Srt v d a b) (k : ∀ t, a' ≤ t → t < b' → ∃ s, d'[t]? = d[s]? ∧ a + (t - a') = s ∧ s < b) : Srt v d' a' b' := fun i j x y h1 h2 h3 hx hy => by
  obtain ⟨s1, e1, r1, _⟩ := k i h1 (by omega)
  obtain ⟨s2, e2, r2, r3⟩ := k j (by omega) h3
  exact h s1 s2 x y (by omega) (by omega) r3 (by rw [← e1]; exact hx) (by rw [← e2]; exact hy)
/-- in the midst of an insertion: element i goes down, and stands at j -/
structure InsAt (v : Int → Int) (d0 d : List Int) (a i j : Nat) (z : Int) : Prop where
  mv : Mv a (i + 1) d0 d
  at_ : d[j]? = some z
  rest : ∀ (p q : Nat) (x y : Int), a ≤ p → p < q → q ≤ i → p ≠ j → q ≠ j → d[p]? = some x → d[q]? = some y → Bef v x y
  up : ∀ (q : Nat) (y : Int), j < q → q ≤ i → d[q]? = some y → Bef v z y
  small : ∀ (p : Nat) (x : Int), a ≤ p → p ≤ i → p ≠ j → d[p]? = some x → x < z
theorem InsAt.start {v : Int → Int} {d0 d : List Int} {a b i : Nat} {z : Int} (hm : Mv a i d0 d) (hs : Srt v d a i) (hasc : Asc d0 a b) (hb : i < b) (hi : a ≤ i) (hz : d[i]? = some z) : InsAt v d0 d a i i z := by
  refine ⟨hm.mono (Nat.le_refl _) (Nat.le_succ _), hz, fun p q x y h1 h2 h3 h4 h5 hx hy => hs p q x y h1 h2 (by omega) hx hy, fun q y h1 h2 => by omega, fun p x h1 h2 h3 hx => ?_⟩
  obtain ⟨j, j1, j2, e⟩ := hm.inn p h1 (by omega)
  rw [e] at hx
  rw [hm.out i (.inr (Nat.le_refl _))] at hz
  exact hasc j i x z j1 j2 hb hx hz
theorem InsAt.step {v : Int → Int} {d0 d : List Int} {a i j : Nat} {z x : Int} (h : InsAt v d0 d a i j z) (hj : a < j) (hji : j ≤ i) (hx : d[j - 1]? = some x) (hb : Bef v z x) : InsAt v d0 (swp d j (j - 1) z x) a i (j - 1) z := by
  have g := swp_get h.at_ hx
  refine ⟨h.mv.trans (Mv.swp h.at_ hx (by omega) (by omega) (by omega) (by omega)), by rw [g, if_pos rfl], fun p q u w h1 h2 h3 h4 h5 hu hw => ?_, fun q y h1 h2 hy => ?_, fun p u h1 h2 h3 hu => ?_⟩
  · rw [g, if_neg h4] at hu
    rw [g, if_neg h5] at hw
    by_cases ep : p = j
    · rw [if_pos ep] at hu; injection hu with hu; subst hu
      rw [if_neg (by omega)] at hw
      exact h.rest (j - 1) q x w (by omega) (by omega) h3 (by omega) (by omega) hx hw
    · rw [if_neg ep] at hu
      by_cases eq : q = j
      · rw [if_pos eq] at hw; injection hw with hw; subst hw
        exact h.rest p (j - 1) u x h1 (by omega) (by omega) ep (by omega) hu hx
      · rw [if_neg eq] at hw
        exact h.rest p q u w h1 h2 h3 ep eq hu hw
  · rw [g, if_neg (by omega)] at hy
    by_cases e : q = j
    · rw [if_pos e] at hy; injection hy with hy; subst hy; exact hb
    · rw [if_neg e] at hy
      exact h.up q y (by omega) h2 hy
  · rw [g, if_neg h3] at hu
    by_cases e : p = j
    · rw [if_pos e] at hu; injection hu with hu; subst hu
      exact h.small (j - 1) x (by omega) (by omega) (by omega) hx
    · rw [if_neg e] at hu
      exact h.small p u h1 h2 e hu
theorem InsAt.done {v : Int → Int} {d0 d : List Int} {a i j : Nat} {z : Int} (h : InsAt v d0 d a i j z) (hj : j = a ∨ ∃ x, d[j - 1]? = some x ∧ Bef v x z) : Mv a (i + 1) d0 d ∧ Srt v d a (i + 1) := by
  refine ⟨h.mv, fun p q x y h1 h2 h3 hx hy => ?_⟩
  by_cases ep : p = j
  · subst ep
    rw [h.at_] at hx; injection hx with hx; subst hx
    exact h.up q y h2 (by omega) hy
  · by_cases eq : q = j
    · subst eq
      rw [h.at_] at hy; injection hy with hy; subst hy
      rcases hj with hj | ⟨u, hu, hb⟩
      · omega
      · by_cases e : p = q - 1
        · rw [e, hu] at hx; injection hx with hx; rw [← hx]; exact hb
        · exact (h.rest p (q - 1) x u h1 (by omega) (by omega) ep (by omega) hx hu).trans hb
    · exact h.rest p q x y h1 h2 (by omega) ep eq hx hy
/-- two pieces of n elements exchanged, from a and from b on: k of them so far -/
def swF (d : List Int) (a b k t : Nat) : Option Int := if a ≤ t ∧ t < a + k then d[t + (b - a)]? else if b ≤ t ∧ t < b + k then d[t - (b - a)]? else d[t]?
structure SwAt (d0 d : List Int) (a b n k : Nat) : Prop where
  mv : Mv a (b + n) d0 d
  get : ∀ t, d[t]? = swF d0 a b k t
theorem SwAt.start (d : List Int) (a b n : Nat) : SwAt d d a b n 0 := ⟨Mv.refl _ _ _, fun t => by unfold swF; rw [if_neg (by omega), if_neg (by omega)]⟩
theorem SwAt.step {d0 d : List Int} {a b n k : Nat} {x y : Int} (h : SwAt d0 d a b n k) (hk : k < n) (hab : a + n ≤ b) (hx : d[a + k]? = some x) (hy : d[b + k]? = some y) : SwAt d0 (swp d (a + k) (b + k) x y) a b n (k + 1) := by
  refine ⟨h.mv.trans (Mv.swp hx hy (by omega) (by omega) (by omega) (by omega)), fun t => ?_⟩
  rw [swp_get hx hy]
  have hx' := h.get (a + k)
  have hy' := h.get (b + k)
  rw [hx] at hx'
  rw [hy] at hy'
  unfold swF at hx' hy' ⊢
  rw [if_neg (by omega), if_neg (by omega)] at hx' hy'
  by_cases e1 : t = b + k
  · subst e1
    rw [if_pos rfl, if_neg (by omega), if_pos (by omega), hx']
    congr 1; omega
  · rw [if_neg e1]
    by_cases e2 : t = a + k
    · subst e2
      rw [if_pos rfl, if_pos (by omega), hy']
      congr 1; omega
    · rw [if_neg e2, h.get t]
      unfold swF
      repeat' split
      all_goals first | rfl | (exfalso; omega)
/-- the elements from m on, below b, ahead of those from a on, below m -/
def rotF (d : List Int) (a m b t : Nat) : Option Int := if t < a then d[t]? else if t < a + (b - m) then d[t + (m - a)]? else if t < b then d[t - (b - m)]? else d[t]?
structure RotAt (d0 d : List Int) (a m b i j : Nat) : Prop where
  mv : Mv a b d0 d
  get : ∀ t, rotF d0 a m b t = rotF d (m - i) m (m + j) t
theorem RotAt.start (d : List Int) {a m b : Nat} (ha : a ≤ m) (hb : m ≤ b) : RotAt d d a m b (m - a) (b - m) := ⟨Mv.refl _ _ _, fun t => by rw [show m - (m - a) = a by omega, show m + (b - m) = b by omega]⟩
theorem RotAt.left {d0 d d' : List Int} {a m b i j : Nat} (h : RotAt d0 d a m b i j) (hm : a + i ≤ m) (hb : m + j ≤ b) (hij : j < i) (hs : SwAt d d' (m - i) m j j) : RotAt d0 d' a m b (i - j) j := by
  refine ⟨h.mv.trans (hs.mv.mono (by omega) (by omega)), fun t => ?_⟩
  rw [h.get t]
  unfold rotF
  simp only [hs.get]
  unfold swF
  repeat' split
  all_goals first | rfl | (exfalso; omega) | (congr 1; omega)
theorem RotAt.right {d0 d d' : List Int} {a m b i j : Nat} (h : RotAt d0 d a m b i j) (hm : a + i ≤ m) (hb : m + j ≤ b) (hij : i < j) (hs : SwAt d d' (m - i) (m + j - i) i i) : RotAt d0 d' a m b i (j - i) := by
  refine ⟨h.mv.trans (hs.mv.mono (by omega) (by omega)), fun t => ?_⟩
  rw [h.get t]
  unfold rotF
  simp only [hs.get]
  unfold swF
  repeat' split
  all_goals first | rfl | (exfalso; omega) | (congr 1; omega)
theorem RotAt.done {d0 d d' : List Int} {a m b i : Nat} (h : RotAt d0 d a m b i i) (hm : a + i ≤ m) (hb : m + i ≤ b) (hs : SwAt d d' (m - i) m i i) : Mv a b d0 d' ∧ ∀ t, d'[t]? = rotF d0 a m b t := by
  refine ⟨h.mv.trans (hs.mv.mono (by omega) (by omega)), fun t => ?_⟩
  rw [h.get t, hs.get t]
  unfold rotF swF
  repeat' split
  all_goals first | rfl | (exfalso; omega) | (congr 1; omega)
end Pl
end Go.Proofs.Ytnppcdiicnofpab

/-
  Plain functions: two ordered pieces merged in place. No program in sight. No conditions.
-/
namespace Go.Proofs.Ytnppcdiicnofpab
namespace Pl
structure MPre (v : Int → Int) (d : List Int) (a m b : Nat) : Prop where
  am : a < m
  mb : m < b
  len : b ≤ d.length
  s1 : Srt v d a m
  s2 : Srt v d m b
  lf : Lft d a m b
theorem Bef.tot {v : Int → Int} {x y : Int} (h : x ≠ y) (hn : ¬ Bef v x y) : Bef v y x := by unfold Bef at *; omega
/-- in the midst of a search for z: all below i come ahead of z, z ahead of all from j on -/
structure Bs (v : Int → Int) (d : List Int) (z : Int) (lo hi i j : Nat) : Prop where
  lo : ∀ (h : Nat) (x : Int), lo ≤ h → h < i → d[h]? = some x → Bef v x z
  hi : ∀ (h : Nat) (x : Int), j ≤ h → h < hi → d[h]? = some x → Bef v z x
theorem Bs.start {v : Int → Int} {d : List Int} {z : Int} {lo hi : Nat} : Bs v d z lo hi lo hi := ⟨fun h x h1 h2 => by omega, fun h x h1 h2 => by omega⟩
theorem Bs.up {v : Int → Int} {d : List Int} {z : Int} {lo hi i j h : Nat} {x : Int} (k : Bs v d z lo hi i j) (hs : Srt v d lo hi) (h1 : lo ≤ h) (h2 : h < hi) (hx : d[h]? = some x) (hb : Bef v x z) : Bs v d z lo hi (h + 1) j :=
  ⟨fun t y t1 t2 hy => by
    by_cases e : t = h
    · subst e; rw [hx] at hy; injection hy with hy; rw [← hy]; exact hb
    · exact (hs t h y x t1 (by omega) h2 hy hx).trans hb, k.hi⟩
theorem Bs.down {v : Int → Int} {d : List Int} {z : Int} {lo hi i j h : Nat} {x : Int} (k : Bs v d z lo hi i j) (hs : Srt v d lo hi) (h1 : lo ≤ h) (h2 : h < hi) (hx : d[h]? = some x) (hb : Bef v z x) : Bs v d z lo hi i h :=
  ⟨k.lo, fun t y t1 t2 hy => by
    by_cases e : t = h
    · subst e; rw [hx] at hy; injection hy with hy; rw [← hy]; exact hb
    · exact hb.trans (hs h t x y h1 (by omega) t2 hx hy)⟩
/-- element a goes up, and stands at k -/
structure ShUp (d0 d : List Int) (a b k : Nat) (z : Int) : Prop where
  mv : Mv a b d0 d
  at_ : d[k]? = some z
  get : ∀ t, t ≠ k → d[t]? = if a ≤ t ∧ t < k then d0[t + 1]? else d0[t]?
theorem ShUp.start {d : List Int} {a b : Nat} {z : Int} (hz : d[a]? = some z) : ShUp d d a b a z := ⟨Mv.refl _ _ _, hz, fun t h => by rw [if_neg (by omega)]⟩
theorem ShUp.step {d0 d : List Int} {a b k : Nat} {z y : Int} (h : ShUp d0 d a b k z) (ha : a ≤ k) (hk : k + 1 < b) (hy : d[k + 1]? = some y) : ShUp d0 (swp d k (k + 1) z y) a b (k + 1) z := by
  have g := swp_get h.at_ hy
  refine ⟨h.mv.trans (Mv.swp h.at_ hy ha (by omega) (by omega) hk), by rw [g, if_pos rfl], fun t ht => ?_⟩
  rw [g, if_neg ht]
  by_cases e : t = k
  · subst e
    have := h.get (t + 1) (by omega)
    rw [if_neg (by omega)] at this
    rw [if_pos rfl, if_pos (by omega), ← this, hy]
  · rw [if_neg e, h.get t e]
    by_cases c : a ≤ t ∧ t < k
    · rw [if_pos c, if_pos (by omega)]
    · rw [if_neg c, if_neg (by omega)]
theorem ShUp.done {v : Int → Int} {d0 d : List Int} {a b i : Nat} {z : Int} (h : ShUp d0 d a b (i - 1) z) (hp : MPre v d0 a (a + 1) b) (hz : d0[a]? = some z) (hi : a + 1 ≤ i) (hib : i ≤ b) (hs : Bs v d0 z (a + 1) b i i) : Mv a b d0 d ∧ Srt v d a b := by
  refine ⟨h.mv, fun p q x y h1 h2 h3 hx hy => ?_⟩
  by_cases ep : p = i - 1
  · subst ep
    rw [h.at_] at hx; injection hx with hx; subst hx
    rw [h.get q (by omega), if_neg (by omega)] at hy
    exact hs.hi q y (by omega) h3 hy
  · rw [h.get p ep] at hx
    by_cases eq : q = i - 1
    · subst eq
      rw [h.at_] at hy; injection hy with hy; subst hy
      rw [if_pos (by omega)] at hx
      exact hs.lo (p + 1) x (by omega) (by omega) hx
    · rw [h.get q eq] at hy
      by_cases c1 : a ≤ p ∧ p < i - 1
      · rw [if_pos c1] at hx
        by_cases c2 : a ≤ q ∧ q < i - 1
        · rw [if_pos c2] at hy
          exact hp.s2 (p + 1) (q + 1) x y (by omega) (by omega) (by omega) hx hy
        · rw [if_neg c2] at hy
          exact (hs.lo (p + 1) x (by omega) (by omega) hx).trans (hs.hi q y (by omega) h3 hy)
      · rw [if_neg c1] at hx
        rw [if_neg (by omega)] at hy
        exact hp.s2 p q x y (by omega) h2 h3 hx hy
/-- element m goes down, and stands at k -/
structure ShDn (d0 d : List Int) (a m k : Nat) (z : Int) : Prop where
  mv : Mv a (m + 1) d0 d
  at_ : d[k]? = some z
  get : ∀ t, t ≠ k → d[t]? = if k < t ∧ t ≤ m then d0[t - 1]? else d0[t]?
theorem ShDn.start {d : List Int} {a m : Nat} {z : Int} (hz : d[m]? = some z) : ShDn d d a m m z := ⟨Mv.refl _ _ _, hz, fun t h => by rw [if_neg (by omega)]⟩
theorem ShDn.step {d0 d : List Int} {a m k : Nat} {z y : Int} (h : ShDn d0 d a m k z) (ha : a < k) (hk : k ≤ m) (hy : d[k - 1]? = some y) : ShDn d0 (swp d k (k - 1) z y) a m (k - 1) z := by
  have g := swp_get h.at_ hy
  refine ⟨h.mv.trans (Mv.swp h.at_ hy (by omega) (by omega) (by omega) (by omega)), by rw [g, if_pos rfl], fun t ht => ?_⟩
  rw [g, if_neg ht]
  by_cases e : t = k
  · subst e
    have := h.get (t - 1) (by omega)
    rw [if_neg (by omega)] at this
    rw [if_pos rfl, if_pos (by omega), ← this, hy]
  · rw [if_neg e, h.get t e]
    by_cases c : k < t ∧ t ≤ m
    · rw [if_pos c, if_pos (by omega)]
    · rw [if_neg c, if_neg (by omega)]
theorem ShDn.done {v : Int → Int} {d0 d : List Int} {a m i : Nat} {z : Int} (h : ShDn d0 d a m i z) (hp : MPre v d0 a m (m + 1)) (hi : a ≤ i) (him : i ≤ m) (hs : Bs v d0 z a m i i) : Mv a (m + 1) d0 d ∧ Srt v d a (m + 1) := by
  refine ⟨h.mv, fun p q x y h1 h2 h3 hx hy => ?_⟩
  by_cases ep : p = i
  · subst ep
    rw [h.at_] at hx; injection hx with hx; subst hx
    rw [h.get q (by omega), if_pos (by omega)] at hy
    exact hs.hi (q - 1) y (by omega) (by omega) hy
  · rw [h.get p ep] at hx
    by_cases eq : q = i
    · subst eq
      rw [h.at_] at hy; injection hy with hy; subst hy
      rw [if_neg (by omega)] at hx
      exact hs.lo p x h1 (by omega) hx
    · rw [h.get q eq] at hy
      by_cases c1 : i < q ∧ q ≤ m
      · rw [if_pos c1] at hy
        by_cases c2 : i < p ∧ p ≤ m
        · rw [if_pos c2] at hx
          exact hp.s1 (p - 1) (q - 1) x y (by omega) (by omega) (by omega) hx hy
        · rw [if_neg c2] at hx
          exact (hs.lo p x h1 (by omega) hx).trans (hs.hi (q - 1) y (by omega) (by omega) hy)
      · rw [if_neg c1] at hy
        rw [if_neg (by omega)] at hx
        exact hp.s1 p q x y h1 h2 (by omega) hx hy
/-- in the midst of the search for the middle: n = mid + m -/
structure Ms (v : Int → Int) (d : List Int) (n lo hi i j : Nat) : Prop where
  lo : ∀ (c : Nat) (x y : Int), lo ≤ c → c < i → d[c]? = some x → d[n - 1 - c]? = some y → Bef v x y
  hi : ∀ (c : Nat) (x y : Int), j ≤ c → c < hi → d[c]? = some x → d[n - 1 - c]? = some y → Bef v y x
theorem Ms.start {v : Int → Int} {d : List Int} {n lo hi : Nat} : Ms v d n lo hi lo hi := ⟨fun c x y h1 h2 => by omega, fun c x y h1 h2 => by omega⟩
section
variable {v : Int → Int} {d : List Int} {a m b n lo hi i j c : Nat} {x y : Int}
theorem Ms.up (k : Ms v d n lo hi i j) (hp : MPre v d a m b) (hl : a ≤ lo) (hh : hi ≤ m) (hn : ∀ c, lo ≤ c → c < hi → m ≤ n - 1 - c ∧ n - 1 - c < b ∧ c < n) (h1 : lo ≤ c) (h2 : c < hi) (hx : d[c]? = some x) (hy : d[n - 1 - c]? = some y) (hb : Bef v x y) : Ms v d n lo hi (c + 1) j :=
  ⟨fun t u w t1 t2 hu hw => by
    by_cases e : t = c
    · subst e; rw [hx] at hu; rw [hy] at hw; injection hu with hu; injection hw with hw; rw [← hu, ← hw]; exact hb
    · have q1 := hn t t1 (by omega)
      have q2 := hn c h1 h2
      exact ((hp.s1 t c u x (by omega) (by omega) (by omega) hu hx).trans hb).trans (hp.s2 (n - 1 - c) (n - 1 - t) y w q2.1 (by omega) q1.2.1 hy hw), k.hi⟩
theorem Ms.down (k : Ms v d n lo hi i j) (hp : MPre v d a m b) (hl : a ≤ lo) (hh : hi ≤ m) (hn : ∀ c, lo ≤ c → c < hi → m ≤ n - 1 - c ∧ n - 1 - c < b ∧ c < n) (h1 : lo ≤ c) (h2 : c < hi) (hx : d[c]? = some x) (hy : d[n - 1 - c]? = some y) (hb : Bef v y x) : Ms v d n lo hi i c :=
  ⟨k.lo, fun t u w t1 t2 hu hw => by
    by_cases e : t = c
    · subst e; rw [hx] at hu; rw [hy] at hw; injection hu with hu; injection hw with hw; rw [← hu, ← hw]; exact hb
    · have q1 := hn t (by omega) t2
      have q2 := hn c h1 h2
      exact ((hp.s2 (n - 1 - t) (n - 1 - c) w y q1.1 (by omega) q2.2.1 hw hy).trans hb).trans (hp.s1 c t x u (by omega) (by omega) (by omega) hx hu)⟩
end
/-- what the halves are behind the rotation -/
structure Halves (v : Int → Int) (d : List Int) (a s mid e b : Nat) : Prop where
  l1 : Srt v d a s
  l2 : Srt v d s mid
  l3 : Lft d a s mid
  r1 : Srt v d mid e
  r2 : Srt v d e b
  r3 : Lft d mid e b
  cr : ∀ (i j : Nat) (x y : Int), a ≤ i → i < mid → mid ≤ j → j < b → d[i]? = some x → d[j]? = some y → Bef v x y
theorem halves {v : Int → Int} {d d1 : List Int} {a m b mid s lo hi : Nat} (hp : MPre v d a m b) (hmid : mid = (a + b) / 2) (hlo : lo = if mid < m then mid + m - b else a) (hhi : hi = if mid < m then mid else m)
    (h1 : lo ≤ s) (h2 : s ≤ hi) (hs : Ms v d (mid + m) lo hi s s) (hr : ∀ t, d1[t]? = rotF d s m (mid + m - s) t) : a ≤ s ∧ s ≤ m ∧ s ≤ mid ∧ m ≤ mid + m - s ∧ mid ≤ mid + m - s ∧ mid + m - s ≤ b ∧ Halves v d1 a s mid (mid + m - s) b := by
  have ham := hp.am
  have hmb := hp.mb
  have hab : a ≤ s ∧ s ≤ m ∧ s ≤ mid ∧ m ≤ mid + m - s ∧ mid ≤ mid + m - s ∧ mid + m - s ≤ b := by
    split at hlo <;> split at hhi <;> omega
  obtain ⟨g1, g2, g3, g4, g5, g6⟩ := hab
  refine ⟨g1, g2, g3, g4, g5, g6, ?_⟩
  -- where an element comes from
  have A : ∀ t, t < s → d1[t]? = d[t]? := fun t ht => by rw [hr]; unfold rotF; rw [if_pos ht]
  have B : ∀ t, s ≤ t → t < mid → d1[t]? = d[t + (m - s)]? := fun t h1 h2 => by rw [hr]; unfold rotF; rw [if_neg (by omega), if_pos (by omega)]
  have C : ∀ t, mid ≤ t → t < mid + m - s → d1[t]? = d[t - (mid - s)]? := fun t h1 h2 => by
    rw [hr]; unfold rotF; rw [if_neg (by omega), if_neg (by omega), if_pos (by omega)]; congr 1; omega
  have D : ∀ t, mid + m - s ≤ t → d1[t]? = d[t]? := fun t h1 => by
    rw [hr]; unfold rotF; rw [if_neg (by omega)]
    by_cases c : t < s + (mid + m - s - m)
    · omega
    · rw [if_neg c, if_neg (by omega)]
  -- u[c] ahead of v's from the end on; v's ahead of the end before u[c]
  have X1 : ∀ (i j : Nat) (x y : Int), a ≤ i → i < s → mid + m - s ≤ j → j < b → d[i]? = some x → d[j]? = some y → Bef v x y := by
    intro i j x y q1 q2 q3 q4 hx hy
    have hls : lo < s := by split at hlo <;> omega
    have e1 := List.getElem?_eq_getElem (show s - 1 < d.length by have := hp.len; omega)
    have e2 := List.getElem?_eq_getElem (show mid + m - 1 - (s - 1) < d.length by have := hp.len; omega)
    have hb := hs.lo (s - 1) _ _ (by omega) (by omega) e1 e2
    have k1 : x = d[s - 1]'(by have := hp.len; omega) ∨ Bef v x (d[s - 1]'(by have := hp.len; omega)) := by
      by_cases e : i = s - 1
      · subst e; rw [e1] at hx; injection hx with hx; exact .inl hx.symm
      · exact .inr (hp.s1 i (s - 1) _ _ q1 (by omega) (by omega) hx e1)
    have k2 : d[mid + m - 1 - (s - 1)]'(by have := hp.len; omega) = y ∨ Bef v (d[mid + m - 1 - (s - 1)]'(by have := hp.len; omega)) y := by
      by_cases e : j = mid + m - 1 - (s - 1)
      · subst e; rw [e2] at hy; injection hy with hy; exact .inl hy
      · exact .inr (hp.s2 (mid + m - 1 - (s - 1)) j _ _ (by omega) (by omega) q4 e2 hy)
    rcases k1 with k1 | k1 <;> rcases k2 with k2 | k2
    · rw [k1, ← k2]; exact hb
    · rw [k1]; exact hb.trans k2
    · rw [← k2]; exact k1.trans hb
    · exact (k1.trans hb).trans k2
  have X2 : ∀ (i j : Nat) (x y : Int), s ≤ i → i < m → m ≤ j → j < mid + m - s → d[i]? = some x → d[j]? = some y → Bef v y x := by
    intro i j x y q1 q2 q3 q4 hx hy
    have hsh : s < hi := by split at hhi <;> omega
    obtain ⟨u, e1⟩ : ∃ u, d[s]? = some u := ⟨_, List.getElem?_eq_getElem (show s < d.length by have := hp.len; omega)⟩
    obtain ⟨w, e2⟩ : ∃ w, d[mid + m - 1 - s]? = some w := ⟨_, List.getElem?_eq_getElem (show mid + m - 1 - s < d.length by have := hp.len; omega)⟩
    have hb := hs.hi s _ _ (Nat.le_refl _) hsh e1 e2
    have k1 : u = x ∨ Bef v u x := by
      by_cases e : i = s
      · subst e; rw [e1] at hx; injection hx with hx; exact .inl hx
      · exact .inr (hp.s1 s i _ _ g1 (by omega) q2 e1 hx)
    have k2 : y = w ∨ Bef v y w := by
      by_cases e : j = mid + m - 1 - s
      · subst e; rw [e2] at hy; injection hy with hy; exact .inl hy.symm
      · exact .inr (hp.s2 j (mid + m - 1 - s) _ _ q3 (by omega) (by omega) hy e2)
    rcases k1 with k1 | k1 <;> rcases k2 with k2 | k2
    · rw [k2, ← k1]; exact hb
    · rw [← k1]; exact k2.trans hb
    · rw [k2]; exact hb.trans k1
    · exact (k2.trans hb).trans k1
  refine ⟨fun i j x y q1 q2 q3 hx hy => ?_, fun i j x y q1 q2 q3 hx hy => ?_, fun i j x y q1 q2 q3 q4 hx hy => ?_, fun i j x y q1 q2 q3 hx hy => ?_, fun i j x y q1 q2 q3 hx hy => ?_, fun i j x y q1 q2 q3 q4 hx hy => ?_, fun i j x y q1 q2 q3 q4 hx hy => ?_⟩
  · rw [A i (by omega)] at hx; rw [A j q3] at hy
    exact hp.s1 i j x y q1 q2 (by omega) hx hy
  · rw [B i q1 (by omega)] at hx; rw [B j (by omega) q3] at hy
    exact hp.s2 _ _ x y (by omega) (by omega) (by omega) hx hy
  · rw [A i q2] at hx; rw [B j q3 q4] at hy
    exact hp.lf _ _ x y q1 (by omega) (by omega) (by omega) hx hy
  · rw [C i q1 (by omega)] at hx; rw [C j (by omega) q3] at hy
    exact hp.s1 _ _ x y (by omega) (by omega) (by omega) hx hy
  · rw [D i q1] at hx; rw [D j (by omega)] at hy
    exact hp.s2 _ _ x y (by omega) q2 q3 hx hy
  · rw [C i q1 q2] at hx; rw [D j q3] at hy
    exact hp.lf _ _ x y (by omega) (by omega) (by omega) q4 hx hy
  · by_cases ci : i < s
    · rw [A i ci] at hx
      by_cases cj : j < mid + m - s
      · rw [C j q3 cj] at hy
        exact hp.s1 _ _ x y q1 (by omega) (by omega) hx hy
      · rw [D j (by omega)] at hy
        exact X1 i j x y q1 ci (by omega) q4 hx hy
    · rw [B i (by omega) q2] at hx
      by_cases cj : j < mid + m - s
      · rw [C j q3 cj] at hy
        exact X2 _ _ y x (by omega) (by omega) (by omega) (by omega) hy hx
      · rw [D j (by omega)] at hy
        exact hp.s2 _ _ x y (by omega) (by omega) q4 hx hy
/-- the halves sorted, the whole is -/
theorem halves_end {v : Int → Int} {d1 d2 d3 : List Int} {a s mid e b : Nat} (h : Halves v d1 a s mid e b) (m1 : Mv a mid d1 d2) (s1 : Srt v d2 a mid) (m2 : Mv mid b d2 d3) (s2 : Srt v d3 mid b) (ham : a ≤ mid) (hmb : mid ≤ b) : Mv a b d1 d3 ∧ Srt v d3 a b := by
  refine ⟨(m1.mono (Nat.le_refl _) hmb).trans (m2.mono ham (Nat.le_refl _)), fun i j x y q1 q2 q3 hx hy => ?_⟩
  by_cases ci : i < mid
  · rw [m2.out i (.inl ci)] at hx
    by_cases cj : j < mid
    · rw [m2.out j (.inl cj)] at hy
      exact s1 i j x y q1 q2 cj hx hy
    · obtain ⟨i', p1, p2, p3⟩ := m1.inn i q1 ci
      obtain ⟨j', r1, r2, r3⟩ := m2.inn j (by omega) q3
      rw [p3] at hx
      rw [r3, m1.out j' (.inr r1)] at hy
      exact h.cr i' j' x y p1 p2 r1 r2 hx hy
  · exact s2 i j x y (by omega) q2 q3 hx hy
/-- an ordered list is the only one of its elements -/
theorem srt_unique {v : Int → Int} {d e : List Int} (hp : d.Perm e) (h1 : Srt v d 0 d.length) (h2 : Srt v e 0 e.length) : d = e := by
  have pw : ∀ l : List Int, Srt v l 0 l.length → l.Pairwise (Bef v) := fun l h => List.pairwise_iff_getElem.2 fun i j hi hj hij => h i j _ _ (Nat.zero_le _) hij hj (List.getElem?_eq_getElem hi) (List.getElem?_eq_getElem hj)
  have main : ∀ d e : List Int, d.Perm e → d.Pairwise (Bef v) → e.Pairwise (Bef v) → d = e := by
    intro d
    induction d with
    | nil => intro e hp _ _; exact (List.Perm.nil_eq hp)
    | cons x t ih =>
      intro e hp h1 h2
      cases e with
      | nil => exact absurd hp.length_eq (by simp)
      | cons y u =>
        have hxy : x = y := by
          have hx : x ∈ y :: u := hp.mem_iff.1 (by simp)
          have hy : y ∈ x :: t := hp.mem_iff.2 (by simp)
          rcases List.mem_cons.1 hx with h | h
          · exact h
          · rcases List.mem_cons.1 hy with k | k
            · exact k.symm
            · exact absurd (((List.pairwise_cons.1 h1).1 y k).trans ((List.pairwise_cons.1 h2).1 x h)) (fun hh => hh.irr)
        subst hxy
        rw [ih u (List.Perm.cons_inv hp) (List.pairwise_cons.1 h1).2 (List.pairwise_cons.1 h2).2]
  exact main d e hp (pw d h1) (pw e h2)
end Pl
end Go.Proofs.Ytnppcdiicnofpab

/-
  Regions that draw their order and give: a store among the operations of the plan (it yields no value; the block that it stores into is taken and given back). No program in sight. No conditions.
-/
namespace Go.Proofs.Ytnppcdiicnofpab
open Go.RowKit
namespace Mm
section
variable {P : Program} {F : List Nat} {w : World} {N : Nat} {ops : Array Oper} {D : World → Prop} {rel : Nat → Option Rel} {takes : Nat → List Nat} {Q : Act → Sig → Prop} {i : Nat} {o : Oper} {rest : List Oper} {a : Act} {σ : Sig}
def GvQn (F : List Nat) (w : World) (r : List Thing → Prop) (df : List Deferred) (rest : List Thing) (x : Exit) (a' : Act) (w' : World) : Prop :=
  x = .normal ∧ a'.defers = df ∧ ∃ ds, r ds ∧ SepF F w w' (ds ++ rest)
theorem gvalid_none {r : Value → List Thing → Prop} {r' : List Thing → Prop} (hr : ∀ u ds, r' ds → r u ds) (hd : o.dst = none) (hw : Region.wanted o (yielded ops a.tmps) = true) (hi : i ≤ N) (hn : (takes i).Nodup) (hk : ∀ k ∈ takes i, k ≤ N)
    (h : ∀ others X, SepF F w X ((takes i).flatMap σ ++ others) → wpList P ops (GvQn F w r' a.defers others) [o] a X) : GValid P (GC F w N) takes i o a σ r := by
  intro σ' X hC hag
  have e4 : (takes i).flatMap σ' = (takes i).flatMap σ := by
    rw [List.flatMap_def, List.flatMap_def]; exact congrArg List.flatten (List.map_congr_left hag)
  have h0 : SepF F w X (sigAll N σ') := hC
  have h1 := h0.sigTake hn hk
  rw [e4] at h1
  have h2 := h _ X h1
  have fin : ∀ u w', GvQn F w r' a.defers (sigAll N (sigUpd takes σ' i [])) .normal (a.put o.dst u) w' → ∃ ds, r u ds ∧ GC F w N (sigUpd takes σ' i ds) w' := fun u w' ⟨_, _, ds, h3, h4⟩ =>
    ⟨ds, hr u ds h3, h4.permE (sigAll_upd hi)⟩
  unfold wpList at h2
  rw [if_pos hw] at h2
  have h3 : o.wp P a X (fun a' w' => GvQn F w r' a.defers (sigAll N (sigUpd takes σ' i [])) .normal a' w') (GvQn F w r' a.defers (sigAll N (sigUpd takes σ' i []))) := by
    first
      | exact h2
      | exact h2.elim id fun h => by obtain ⟨_, a', w', h, _⟩ := h; cases h
  unfold Oper.wp at h3
  generalize (execOp a.eval o).run P X = R at *
  cases R with
  | ok n w' =>
    cases n <;> simp only [Oper.upon] at h3 <;> simp only [ups] <;> first | exact fin _ _ h3 | skip
    · refine h3.mono fun e w'' he => ?_
      cases e with
      | returned v => exact ⟨v, rfl, fin _ _ he⟩
      | panicked c => exact absurd he.1 (by simp)
      | outgrown => obtain ⟨a', w', h, _⟩ := he; cases h
    · have := h3.2.1
      rw [hd] at this
      exact absurd this (by simp [Act.put])
    · exact Rows.mono h3 fun v w'' he => fin _ _ he
  | halt x w' => cases x <;> simp only [Oper.upon] at h3; exact absurd h3.1 (by simp)
/-- what a store of a struct gives: the block, written anew -/
def gSto (T : TypeId) : Rel := fun vals _ _ ds => ∃ g cs, vals = [.pointer (some ⟨g, 0, none⟩), .agg cs.toArray] ∧ ds = [tblk g T cs]
/-- a store into the block that operation k gave -/
theorem give_store (T : TypeId) (g : Nat) (cs0 cs : List Value) (k : Nat) (hw : Region.wanted o (yielded ops a.tmps) = true) (hr : rel i = some (gSto T)) (hd : o.dst = none) (hi : Nat.ble i N = true) (ht : takes i = [k]) (hk : Nat.ble k N = true)
    (htk : σ k = [tblk g T cs0]) (hv : o.op.operands.toList.map a.eval = [.pointer (some ⟨g, 0, none⟩), .agg cs.toArray])
    (h : ∀ others X, SepF F w X (tblk g T cs0 :: others) → wpList P ops (GvQn F w (fun ds => ds = [tblk g T cs]) a.defers others) [o] a X)
    (hnext : wpGive P ops (GC F w N) D rel takes Q (i + 1) rest a (sigUpd takes σ i [tblk g T cs])) : wpGive P ops (GC F w N) D rel takes Q i (o :: rest) a σ := by
  have e : (takes i).flatMap σ = [tblk g T cs0] := by rw [ht, ← htk]; simp
  refine give_rel hw hr (gvalid_none (r' := fun ds => ds = [tblk g T cs]) (fun u ds h => ?_) hd hw (Nat.le_of_ble_eq_true hi) (by rw [ht]; simp) (by rw [ht]; intro x hx; rw [List.mem_singleton.1 hx]; exact Nat.le_of_ble_eq_true hk) ?_) ?_ ?_
  · exact ⟨g, cs, hv, h⟩
  · rw [e]; exact h
  · exact ⟨undef, _, g, cs, hv, rfl⟩
  · rintro v ds ⟨g', cs', hv', rfl⟩
    have h1 := hv.symm.trans hv'
    injection h1 with h2 h3
    injection h3 with h4 _
    injection h2 with h5
    injection h5 with h6
    injection h6 with h7
    injection h4 with h8
    have h9 : cs = cs' := by simpa using congrArg Array.toList h8
    subst h7 h9
    rw [hd]
    exact hnext
end
end Mm
end Go.Proofs.Ytnppcdiicnofpab

/-
  Contracts: the comparison by value that TopOf hands to the sort; exchange of two pieces, rotation, insertion sort (slices) at ints. No conditions beyond those named.
-/
namespace Go.Proofs.Ytnppcdiicnofpab
open Go.RowKit
attribute [local go_sem] und_cell World.cell?_alloc_some
/-- the value of number x -/
def Pl.valAt (vs : List Int) (x : Int) : Int := (vs[x.toNat]?).getD 0
theorem Pl.valAt_of {vs : List Int} {x u : Int} (h : vs[x.toNat]? = some u) : Pl.valAt vs x = u := by unfold Pl.valAt; rw [h]; rfl
/-- all numbers name a value -/
def Pl.NumIn (d : List Int) (n : Nat) : Prop := ∀ (i : Nat) (x : Int), d[i]? = some x → 0 ≤ x ∧ x < n
theorem Pl.NumIn.perm {d e : List Int} {n : Nat} (h : Pl.NumIn d n) (hp : e.Perm d) : Pl.NumIn e n := fun i x hx => by
  obtain ⟨j, hj⟩ := List.mem_iff_getElem?.1 (hp.mem_iff.1 (List.mem_of_getElem? hx))
  exact h j x hj
/-- what the comparison captures: the values, in a variable of its own -/
structure CapV (vs : List Int) (A : Option Addr) (n c gn B : Nat) (w : World) : Prop where
  cell : w.cell? ⟨gn, 0, none⟩ = some (.slice A n c)
  sl : Mm.SlAt Mm.int w B vs A n c
  lt : gn < w.heap.size
  le : B ≤ w.heap.size
  bd : ∀ (j : Nat) (u : Int), vs[j]? = some u → -1000000000 ≤ u ∧ u ≤ 1000000000
theorem CapV.bel {vs : List Int} {A : Option Addr} {n c gn B : Nat} {w w' : World} (h : CapV vs A n c gn B w) (hb : Below w.heap.size w w') : CapV vs A n c gn B w' :=
  ⟨below_some hb h.cell, h.sl.keep fun b hb' => hb.block b (Nat.lt_of_lt_of_le hb' h.le), Nat.lt_of_lt_of_le h.lt hb.size, Nat.le_trans h.le hb.size, h.bd⟩
theorem CapV.chg {vs : List Int} {A : Option Addr} {n c gn B : Nat} {w w' : World} {fp : List Nat} (h : CapV vs A n c gn B w) (hc : Mm.Chg fp w w') (h1 : gn ∉ fp) (h2 : ∀ b, b ∈ fp → B ≤ b) : CapV vs A n c gn B w' :=
  ⟨(World.cell?_of_block (hc.block gn h.lt h1)).trans h.cell, h.sl.keep fun b hb => hc.block b (Nat.lt_of_lt_of_le hb h.le) (fun hm => by have := h2 b hm; omega), Nat.lt_of_lt_of_le h.lt hc.size, Nat.le_trans h.le hc.size, h.bd⟩
theorem int_inv {w : World} {e : TypeId} {xs : List Int} {v : Value} {fp : List Nat} (h : Mm.SlOwn Mm.int e w xs v fp) {k : Nat} {m : Int} (hk : xs[k]? = some m) : Mm.I64 m := by
  obtain ⟨es, he, -, -⟩ := h
  have hl := (List.getElem?_eq_some_iff.1 hk).1
  obtain ⟨_, h2, _⟩ := he.2 k _ _ hk (List.getElem?_eq_getElem (show k < es.length by rw [he.1]; exact hl))
  exact h2
/-- two elements of an owned list exchanged -/
theorem Mm.SepF.swpI {F : List Nat} {w0 wr : World} {ts : List Mm.Thing} {e : TypeId} {xs : List Int} {g n c k j : Nat} {x y : Int} {fp : List Nat} (h : Mm.SepF F w0 wr ts) (i : Nat) (hi : ts[i]? = some (Mm.tsl Mm.int e xs (.slice (some ⟨g, 0, none⟩) n c) fp)) (hk : xs[k]? = some x) (hj : xs[j]? = some y) :
    Mm.SepF F w0 ((wr.setCell ⟨g, k, none⟩ (.int .i64 y)).setCell ⟨g, j, none⟩ (.int .i64 x)) (ts.set i (Mm.tsl Mm.int e (Pl.swp xs k j x y) (.slice (some ⟨g, 0, none⟩) n c) fp)) := by
  have ix := int_inv (h.sl i hi) hk
  have iy := int_inv (h.sl i hi) hj
  have h1 := h.put1 (x' := y) (u := .int .i64 y) i hi rfl hk (fun cs fx ho => by obtain ⟨_, _, rfl⟩ := ho; exact ⟨rfl, iy, rfl⟩)
  have hjl : j < (xs.set k y).length := by rw [List.length_set]; exact (List.getElem?_eq_some_iff.1 hj).1
  have hlt : i < ts.length := (List.getElem?_eq_some_iff.1 hi).1
  have h2 := h1.put1 (x' := x) (u := .int .i64 x) i (List.getElem?_set_self hlt) rfl (List.getElem?_eq_getElem hjl) (fun cs fx ho => by obtain ⟨_, _, rfl⟩ := ho; exact ⟨rfl, ix, rfl⟩)
  rwa [List.set_set] at h2
set_option maxRecDepth 100000 in
theorem closV_c (vs : List Int) (A : Option Addr) (n c gn B : Nat) (x y : Int) (w : World) (h : CapV vs A n c gn B w) (hx : 0 ≤ x ∧ x < n) (hy : 0 ≤ y ∧ y < n) :
    Calls Try.prog 36 #[.int .i64 x, .int .i64 y, .pointer (some ⟨gn, 0, none⟩)] w fun e w' => e = .returned (.int .i64 (Pl.valAt vs y - Pl.valAt vs x)) ∧ Below w.heap.size w w' := by
  obtain ⟨u, b, off, hu, rfl, hb, iu, e0⟩ := int_get h.sl (show x.toNat < n by omega)
  obtain ⟨v, hv, _, iv, e1⟩ := int_get' h.sl (show y.toNat < n by omega)
  rw [Pl.valAt_of hu, Pl.valAt_of hv]
  have h1 := h.bd _ _ hu
  have h2 := h.bd _ _ hv
  have hc := h.cell
  have f1 := hx.1
  have f2 := hx.2
  have f3 := hy.1
  have f4 := hy.2
  have f5 : IntKind.i64.wrap (v - u) = v - u := IntWalk.i64_in _ (by omega)
  clear h hu hv iu iv hb hx hy
  go_enter Try.func36, Try.ntmps36
  go_wp2
  refine wp_region_und (by kernel_rfl) (by kernel_rfl) ?_
  repeat (go_big_quiet_step ((first | fail)))
  refine wpQuiet_nil ?_
  intro X hX
  go_wp2
  go_ret
  exact ⟨rfl, hX⟩
set_option maxRecDepth 100000 in
set_option maxHeartbeats 1000000 in
theorem swapR_c (d : List Int) (A : Option Addr) (n c : Nat) (fp : List Nat) (a b k : Nat) (V : Value) (w : World) (hs : Mm.SlOwn Mm.int 3 w d (.slice A n c) fp) (hnd : fp.Nodup) (hn : n ≤ 1000) (h1 : a + k ≤ b) (h2 : b + k ≤ n) :
    Calls Try.prog 81 #[.slice A n c, .int .i64 a, .int .i64 b, .int .i64 k, V] w fun e w' => e = .returned (.tuple #[]) ∧ ∃ d', Pl.SwAt d d' a b k k ∧ Mm.SepF fp w w' [Mm.tsl Mm.int 3 d' (.slice A n c) fp] := by
  have HS0 : Hid (Mm.SepF fp w w [Mm.tsl Mm.int 3 d (.slice A n c) fp]) := Mm.SepF.one (Mm.tsl Mm.int 3 d (.slice A n c) fp) w hs hnd
  have HLN : Hid (d.length = n) := by obtain ⟨_, _, _, hv, q1, _⟩ := hs.form; injection hv with _ q2 _; exact (q2.trans q1).symm
  clear hs hnd
  go_enter Try.func81, Try.ntmps81
  go_wp2
  go_loopg [10] k (fun gg s wr => ∃ (i : Nat) (ys : List Int), k - i ≤ gg ∧ i ≤ k ∧ s = .int .i64 i ∧ Hid (Pl.SwAt d ys a b k i) ∧ Hid (Mm.SepF fp w wr [Mm.tsl Mm.int 3 ys (.slice A n c) fp]))
  case atStart => exact ⟨0, d, by omega, by omega, rfl, Pl.SwAt.start d a b k, HS0.out⟩
  case round =>
    obtain ⟨i, ys, hgg, hik, rfl, HR, HS⟩ := hrel
    obtain ⟨W, rfl⟩ : ∃ W : World, W = wr := ⟨_, rfl⟩
    by_cases hlt : i < k
    · have hyl : ys.length = n := HR.out.mv.len.trans HLN.out
      obtain ⟨g, rfl, -, -⟩ := Mm.sl_addr (HS.out.sl 0 rfl) (by omega)
      obtain ⟨p, hp⟩ : ∃ p, a + i = p := ⟨_, rfl⟩
      obtain ⟨q, hq⟩ : ∃ q, b + i = q := ⟨_, rfl⟩
      have hpn : p < n := by omega
      have hqn : q < n := by omega
      obtain ⟨x, hx⟩ : ∃ x, ys[p]? = some x := ⟨_, List.getElem?_eq_getElem (by omega)⟩
      obtain ⟨y, hy⟩ : ∃ y, ys[q]? = some y := ⟨_, List.getElem?_eq_getElem (by omega)⟩
      have HN := Lib.hid (HR.out.step hlt (by omega) (by rw [hp]; exact hx) (by rw [hq]; exact hy))
      rw [hp, hq] at HN
      have u0 := int_ocell (HS.out.sl 0 rfl) (HS.out.ndat (i := 0) rfl) hx
      have v0 := int_ocell (HS.out.sl 0 rfl) (HS.out.ndat (i := 0) rfl) hy
      have HX := Lib.hid hx
      have HY := Lib.hid hy
      have f1 : IntKind.i64.wrap ((a : Int) + (i : Int)) = (p : Int) := by rw [IntWalk.i64_in _ (by omega)]; omega
      have f0 : IntKind.i64.wrap ((b : Int) + (i : Int)) = (q : Int) := by rw [IntWalk.i64_in _ (by omega)]; omega
      have f2 : (0 : Int) ≤ (p : Nat) := by omega
      have f3 : ((p : Nat) : Int).toNat = p := by omega
      have f4 : (0 : Int) ≤ (q : Nat) := by omega
      have f5 : ((q : Nat) : Int).toNat = q := by omega
      have f6 : (p : Int) < n := by omega
      have f7 : (q : Int) < n := by omega
      have f8 : (i : Int) < k := by omega
      have hpq : p < q := by omega
      have z0 := (HS.out.sl 0 rfl).frozen p
      have z1 := (HS.out.sl 0 rfl).frozen q
      clear hx hy hp hq hyl
      go_wp2
      go_region
      have HSD := Lib.hid ((HS.out.step ((Below.refl _ _).drew)).swpI 0 rfl HX.out HY.out)
      clear u0 v0 z0 z1
      go_wp2
      go_roundg (k - (i + 1))
      case measure => omega
      case rel => exact ⟨i + 1, _, Nat.le_refl _, by omega, by go_num, HN.out, HSD.out⟩
    · have hik2 : i = k := by omega
      subst hik2
      have f1 : ¬ ((i : Int) < (i : Int)) := by omega
      go_wp2
      go_end0
      exact ⟨rfl, ys, HR.out, HS.out⟩
end Go.Proofs.Ytnppcdiicnofpab

/-
  Contracts: rotation and insertion sort (slices) at ints, by value. No conditions beyond those named.
-/
namespace Go.Proofs.Ytnppcdiicnofpab
open Go.RowKit
attribute [local go_sem] und_cell World.cell?_alloc_some
set_option maxRecDepth 100000 in
set_option maxHeartbeats 1000000 in
theorem rotI_c (d : List Int) (A : Option Addr) (n c : Nat) (fp : List Nat) (a m b : Nat) (V : Value) (w : World) (hs : Mm.SlOwn Mm.int 3 w d (.slice A n c) fp) (hnd : fp.Nodup) (hn : n ≤ 1000) (h1 : a < m) (h2 : m < b) (h3 : b ≤ n) :
    Calls Try.prog 77 #[.slice A n c, .int .i64 a, .int .i64 m, .int .i64 b, V] w fun e w' => e = .returned (.tuple #[]) ∧ ∃ d', (Pl.Mv a b d d' ∧ ∀ t, d'[t]? = Pl.rotF d a m b t) ∧ Mm.SepF fp w w' [Mm.tsl Mm.int 3 d' (.slice A n c) fp] := by
  have HS0 : Hid (Mm.SepF fp w w [Mm.tsl Mm.int 3 d (.slice A n c) fp]) := Mm.SepF.one (Mm.tsl Mm.int 3 d (.slice A n c) fp) w hs hnd
  have HND := Lib.hid hnd
  clear hs hnd
  obtain ⟨i0, hi0⟩ : ∃ i0, m - a = i0 := ⟨_, rfl⟩
  obtain ⟨j0, hj0⟩ : ∃ j0, b - m = j0 := ⟨_, rfl⟩
  have HR0 := Lib.hid (Pl.RotAt.start d (a := a) (m := m) (b := b) (by omega) (by omega))
  rw [hi0, hj0] at HR0
  have f0 : IntKind.i64.wrap ((m : Int) - (a : Int)) = (i0 : Int) := by rw [IntWalk.i64_in _ (by omega)]; omega
  have f1 : IntKind.i64.wrap ((b : Int) - (m : Int)) = (j0 : Int) := by rw [IntWalk.i64_in _ (by omega)]; omega
  have HI0 := Lib.hid hi0
  have HJ0 := Lib.hid hj0
  clear hi0 hj0
  go_enter Try.func77, Try.ntmps77
  go_wp2
  go_loopg [10, 11] (i0 + j0) (fun gg s10 s11 wr => ∃ (i j : Nat) (ys : List Int), i + j ≤ gg ∧ 0 < i ∧ 0 < j ∧ a + i ≤ m ∧ m + j ≤ b ∧ s10 = .int .i64 i ∧ s11 = .int .i64 j ∧ Hid (Pl.RotAt d ys a m b i j) ∧ Hid (Mm.SepF fp w wr [Mm.tsl Mm.int 3 ys (.slice A n c) fp]))
  case atStart => exact ⟨i0, j0, d, Nat.le_refl _, by have := HI0.out; omega, by have := HJ0.out; omega, by have := HI0.out; omega, by have := HJ0.out; omega, rfl, rfl, HR0.out, HS0.out⟩
  case round =>
    obtain ⟨i, j, ys, hgg, hi, hj, hai, hmj, rfl, rfl, HR, HS⟩ := hrel
    obtain ⟨W, rfl⟩ : ∃ W : World, W = wr := ⟨_, rfl⟩
    obtain ⟨p, hp⟩ : ∃ p, m - i = p := ⟨_, rfl⟩
    have f2 : IntKind.i64.wrap ((m : Int) - (i : Int)) = (p : Int) := by rw [IntWalk.i64_in _ (by omega)]; omega
    by_cases hij : j < i
    · have q1 : ((i : Int) != (j : Int)) = true := by simp; omega
      have q2 : (j : Int) < (i : Int) := by omega
      obtain ⟨r, hr⟩ : ∃ r, i - j = r := ⟨_, rfl⟩
      have f3 : IntKind.i64.wrap ((i : Int) - (j : Int)) = (r : Int) := by rw [IntWalk.i64_in _ (by omega)]; omega
      have CS := swapR_c ys A n c fp p m j V W (HS.out.sl 0 rfl) HND.out hn (by omega) (by omega)
      have HP := Lib.hid hp
      have HRR := Lib.hid hr
      clear hp hr f0 f1
      go_wp2_with (go_at_call 81; (with_reducible refine CS.mono ?_); clear CS; rintro e w1 ⟨rfl, zs, HZ, hz⟩; (have HS1 := Lib.hid (HS.out.call 0 rfl hz.left)); (have HZ1 := Lib.hid HZ); clear hz HZ)
      go_roundg (r + j)
      case measure => (have := HRR.out; omega)
      case rel => exact ⟨r, j, zs, Nat.le_refl _, by have := HRR.out; omega, hj, by have := HRR.out; omega, hmj, rfl, rfl, by have h := HR.out.left hai (by omega) hij (by rw [HP.out]; exact HZ1.out); rw [HRR.out] at h; exact h, HS1.out⟩
    · by_cases hji : i < j
      · have q1 : ((i : Int) != (j : Int)) = true := by simp; omega
        have q2 : ¬ (j : Int) < (i : Int) := by omega
        obtain ⟨r, hr⟩ : ∃ r, j - i = r := ⟨_, rfl⟩
        obtain ⟨u, hu⟩ : ∃ u, m + j - i = u := ⟨_, rfl⟩
        have f3 : IntKind.i64.wrap ((j : Int) - (i : Int)) = (r : Int) := by rw [IntWalk.i64_in _ (by omega)]; omega
        have f4 : IntKind.i64.wrap ((m : Int) + (j : Int)) = (m : Int) + (j : Int) := by rw [IntWalk.i64_in _ (by omega)]
        have f5 : IntKind.i64.wrap ((m : Int) + (j : Int) - (i : Int)) = (u : Int) := by rw [IntWalk.i64_in _ (by omega)]; omega
        have CS := swapR_c ys A n c fp p u i V W (HS.out.sl 0 rfl) HND.out hn (by omega) (by omega)
        have HP := Lib.hid hp
        have HRR := Lib.hid hr
        have HU := Lib.hid hu
        clear hp hr hu f0 f1
        go_wp2_with (go_at_call 81; (with_reducible refine CS.mono ?_); clear CS; rintro e w1 ⟨rfl, zs, HZ, hz⟩; (have HS1 := Lib.hid (HS.out.call 0 rfl hz.left)); (have HZ1 := Lib.hid HZ); clear hz HZ)
        go_roundg (i + r)
        case measure => (have := HRR.out; omega)
        case rel => exact ⟨i, r, zs, Nat.le_refl _, hi, by have := HRR.out; omega, hai, by have := HRR.out; omega, rfl, rfl, by have h := HR.out.right hai (by omega) hji (by rw [HP.out, HU.out]; exact HZ1.out); rw [HRR.out] at h; exact h, HS1.out⟩
      · have hij2 : i = j := by omega
        subst hij2
        have q1 : ((i : Int) != (i : Int)) = false := by simp
        have CS := swapR_c ys A n c fp p m i V W (HS.out.sl 0 rfl) HND.out hn (by omega) (by omega)
        have HP := Lib.hid hp
        clear hp f0 f1
        go_wp2_with (go_at_call 81; (with_reducible refine CS.mono ?_); clear CS; rintro e w1 ⟨rfl, zs, HZ, hz⟩; (have HS1 := Lib.hid (HS.out.call 0 rfl hz.left)); (have HZ1 := Lib.hid HZ); clear hz HZ)
        go_end0
        exact ⟨rfl, zs, HR.out.done hai (by omega) (by rw [HP.out]; exact HZ1.out), HS1.out⟩
theorem Pl.NumIn.mv {d e : List Int} {n a b : Nat} (h : Pl.NumIn d n) (hm : Pl.Mv a b d e) : Pl.NumIn e n := h.perm hm.perm
set_option maxRecDepth 100000 in
set_option maxHeartbeats 2000000 in
theorem insS_c (vs : List Int) (A' : Option Addr) (n' c' gn B : Nat) (d : List Int) (A : Option Addr) (n c : Nat) (fp : List Nat) (a b : Nat) (w : World) (h : CapV vs A' n' c' gn B w) (hs : Mm.SlOwn Mm.int 3 w d (.slice A n c) fp) (hnd : fp.Nodup) (g1 : gn ∉ fp) (g2 : ∀ b, b ∈ fp → B ≤ b) (hn : n ≤ 1000) (h1 : a ≤ b) (h2 : b ≤ n) (hnum : Pl.NumIn d n') (hasc : Pl.Asc d a b) :
    Calls Try.prog 69 #[.slice A n c, .int .i64 a, .int .i64 b, .func (Fn.func 36) #[] #[.pointer (some ⟨gn, 0, none⟩)]] w fun e w' => e = .returned (.tuple #[]) ∧ ∃ d', (Pl.Mv a b d d' ∧ Pl.Srt (Pl.valAt vs) d' a b) ∧ Mm.SepF fp w w' [Mm.tsl Mm.int 3 d' (.slice A n c) fp] := by
  have HS0 : Hid (Mm.SepF fp w w [Mm.tsl Mm.int 3 d (.slice A n c) fp]) := Mm.SepF.one (Mm.tsl Mm.int 3 d (.slice A n c) fp) w hs hnd
  have HLN : Hid (d.length = n) := by obtain ⟨_, _, _, hv, q1, _⟩ := hs.form; injection hv with _ q2 _; exact (q2.trans q1).symm
  have HC := Lib.hid h
  have HQ := Lib.hid (And.intro g1 g2)
  have HNU := Lib.hid hnum
  have HAS := Lib.hid hasc
  clear h hs hnd g1 g2 hnum hasc
  have f0 : IntKind.i64.wrap ((a : Int) + 1) = (a : Int) + 1 := IntWalk.i64_in _ (by omega)
  go_enter Try.func69, Try.ntmps69
  go_wp2
  go_loopg [8] (b - a) (fun gg s8 wr => ∃ (i : Nat) (ys : List Int), b - i ≤ gg ∧ a < i ∧ (i ≤ b ∨ i = a + 1) ∧ s8 = .int .i64 i ∧ Hid (Pl.Mv a (min i b) d ys) ∧ Hid (Pl.Srt (Pl.valAt vs) ys a (min i b)) ∧ Hid (Mm.SepF fp w wr [Mm.tsl Mm.int 3 ys (.slice A n c) fp]))
  case atStart => exact ⟨a + 1, d, by omega, by omega, .inr rfl, by go_num, Pl.Mv.refl _ _ _, Pl.Srt.one (by omega), HS0.out⟩
  case round =>
    clear f0
    obtain ⟨i, ys, hgg, hai, hib, rfl, HM, HR, HS⟩ := hrel
    obtain ⟨Wo, rfl⟩ : ∃ W : World, W = wr := ⟨_, rfl⟩
    by_cases hlt : i < b
    · have hmin : min i b = i := by omega
      rw [hmin] at HM HR
      clear hmin hib
      have hyl : ys.length = n := HM.out.len.trans HLN.out
      obtain ⟨g, rfl, -, -⟩ := Mm.sl_addr (HS.out.sl 0 rfl) (by omega)
      obtain ⟨z, hz⟩ : ∃ z, ys[i]? = some z := ⟨_, List.getElem?_eq_getElem (by omega)⟩
      have HI := Lib.hid (Pl.InsAt.start HM.out HR.out HAS.out hlt (by omega) hz)
      have f1 : (i : Int) < (b : Int) := by omega
      clear hz hyl
      go_wp2
      go_loopg [9] i (fun gi s9 wr => ∃ (j : Nat) (zs : List Int), j ≤ gi ∧ a ≤ j ∧ j ≤ i ∧ s9 = .int .i64 j ∧ Hid (Pl.InsAt (Pl.valAt vs) d zs a i j z) ∧ Hid (Mm.SepF fp w wr [Mm.tsl Mm.int 3 zs (.slice (some ⟨g, 0, none⟩) n c) fp]))
      case atStart => exact ⟨i, ys, by omega, by omega, by omega, rfl, HI.out, HS.out⟩
      case round =>
        clear HM HR HS HI
        obtain ⟨j, zs, hgj, haj, hji, rfl, HJ, HS⟩ := hrel
        obtain ⟨W, rfl⟩ : ∃ W : World, W = wr := ⟨_, rfl⟩
        have hzl : zs.length = n := HJ.out.mv.len.trans HLN.out
        by_cases hja : a < j
        · obtain ⟨p, rfl⟩ : ∃ p, j = p + 1 := ⟨j - 1, by omega⟩
          have hNZ := HNU.out.mv HJ.out.mv
          obtain ⟨x, hx⟩ : ∃ x, zs[p]? = some x := ⟨_, List.getElem?_eq_getElem (by omega)⟩
          have hz := HJ.out.at_
          have hxz : x < z := HJ.out.small p x (by omega) (by omega) (by omega) hx
          have u0 := int_ocell (HS.out.sl 0 rfl) (HS.out.ndat (i := 0) rfl) hx
          have v0 := int_ocell (HS.out.sl 0 rfl) (HS.out.ndat (i := 0) rfl) hz
          have CK := fun q : Und W => und_call q (closV_c vs A' n' c' gn B z x (und W q) ((HC.out.chg HS.out.chg HQ.out.1 HQ.out.2).bel q.h) (hNZ _ _ hz) (hNZ _ _ hx))
          have HX := Lib.hid hx
          obtain ⟨cv, hcv⟩ : ∃ cv, Pl.valAt vs x - Pl.valAt vs z = cv := ⟨_, rfl⟩
          rw [hcv] at CK
          obtain ⟨t, ht⟩ : ∃ t, p + 1 = t := ⟨_, rfl⟩
          rw [ht] at v0
          have f2 : ((p : Int) + 1) = (t : Int) := by omega
          have f3 : IntKind.i64.wrap ((t : Int) - 1) = (p : Int) := by rw [IntWalk.i64_in _ (by omega)]; omega
          have f4 : (0 : Int) ≤ (p : Nat) := by omega
          have f5 : ((p : Nat) : Int).toNat = p := by omega
          have f6 : (0 : Int) ≤ (t : Nat) := by omega
          have f7 : ((t : Nat) : Int).toNat = t := by omega
          have f8 : (p : Int) < n := by omega
          have f9 : (t : Int) < n := by omega
          have fa : (a : Int) < (t : Int) := by omega
          have hpt : p < t := by omega
          have hti : t ≤ i := by omega
          have hat : a < t := by omega
          have hap : a ≤ p := by omega
          rw [ht] at HJ ⊢
          have HT := Lib.hid ht
          clear hx hz hzl ht f2 hNZ
          by_cases hneg : cv < 0
          · have HB : Hid (Pl.Bef (Pl.valAt vs) z x) := (Pl.Bef.lt hxz).2 (by omega)
            clear hcv
            go_wp2
            refine wp_region_und (by kernel_rfl) (by kernel_rfl) ?_
            repeat (go_big_quiet_step ((first | (go_at_call 36; with_reducible exact CK _))))
            refine wpQuiet_nil ?_
            intro X hX
            clear CK
            have HS1 := Lib.hid (HS.out.step hX)
            have u1 := below_some hX u0
            have v1 := below_some hX v0
            clear u0 v0 hX
            have z0 := (HS1.out.sl 0 rfl).frozen p
            have z1 := (HS1.out.sl 0 rfl).frozen t
            go_wp2
            go_region
            have HN := Lib.hid (HJ.out.step (x := x) hat hti (by rw [← HT.out, Nat.add_sub_cancel]; exact HX.out) HB.out)
            have HTP : Hid (t - 1 = p) := Lib.hid (by rw [← HT.out, Nat.add_sub_cancel])
            rw [HTP.out] at HN
            have HS2 := Lib.hid ((HS1.out.step ((Below.refl _ _).drew)).swpI 0 rfl HJ.out.at_ HX.out)
            clear u1 v1 z0 z1
            go_wp2
            go_roundg p
            case measure => omega
            case rel => exact ⟨p, _, Nat.le_refl _, by omega, by omega, by go_num, HN.out, HS2.out⟩
          · have HB : Hid (Pl.Bef (Pl.valAt vs) x z) := (Pl.Bef.lt' hxz).2 (by omega)
            clear hcv
            go_wp2
            refine wp_region_und (by kernel_rfl) (by kernel_rfl) ?_
            repeat (go_big_quiet_step ((first | (go_at_call 36; with_reducible exact CK _))))
            refine wpQuiet_nil ?_
            intro X hX
            clear CK
            have HS1 := Lib.hid (HS.out.step hX)
            clear u0 v0 hX
            have HN := Lib.hid (HJ.out.done (.inr ⟨x, by rw [← HT.out, Nat.add_sub_cancel]; exact HX.out, HB.out⟩))
            go_wp2
            go_roundg (b - (i + 1))
            case measure => omega
            case rel => exact ⟨i + 1, zs, Nat.le_refl _, by omega, by omega, by go_num, by rw [show min (i + 1) b = i + 1 by omega]; exact HN.out.1, by rw [show min (i + 1) b = i + 1 by omega]; exact HN.out.2, HS1.out⟩
        · have hja2 : j = a := by omega
          subst hja2
          have HN := Lib.hid (HJ.out.done (.inl rfl))
          have fa : ¬ (j : Int) < (j : Int) := by omega
          go_wp2
          refine wp_region_und (by kernel_rfl) (by kernel_rfl) ?_
          repeat (go_big_quiet_step ((first | fail)))
          refine wpQuiet_nil ?_
          intro X hX
          have HS1 := Lib.hid (HS.out.step hX)
          go_wp2
          go_roundg (b - (i + 1))
          case measure => omega
          case rel => exact ⟨i + 1, zs, Nat.le_refl _, by omega, by omega, by go_num, by rw [show min (i + 1) b = i + 1 by omega]; exact HN.out.1, by rw [show min (i + 1) b = i + 1 by omega]; exact HN.out.2, HS1.out⟩
    · have hmin : min i b = b := by omega
      rw [hmin] at HM HR
      have f1 : ¬ (i : Int) < (b : Int) := by omega
      go_wp2
      go_end0
      exact ⟨rfl, ys, ⟨HM.out, HR.out⟩, HS.out⟩
end Go.Proofs.Ytnppcdiicnofpab

/-
  Contract: two ordered pieces merged in place (slices.symMergeCmpFunc) at ints, by value. No conditions beyond those named.
-/
namespace Go.Proofs.Ytnppcdiicnofpab
open Go.RowKit
attribute [local go_sem] und_cell World.cell?_alloc_some
theorem Pl.rotF_self {d : List Int} {s m b : Nat} (h : s = m ∨ m = b) (h1 : s ≤ m) (h2 : m ≤ b) (t : Nat) : d[t]? = Pl.rotF d s m b t := by
  unfold Pl.rotF
  repeat' split
  all_goals first | rfl | (congr 1; omega)
/-- ready to be merged -/
structure Pl.MIn (v : Int → Int) (d : List Int) (a m b n : Nat) : Prop where
  pre : Pl.MPre v d a m b
  num : Pl.NumIn d n
def Pl.MOut (v : Int → Int) (d d' : List Int) (a b : Nat) : Prop := Pl.Mv a b d d' ∧ Pl.Srt v d' a b
set_option maxRecDepth 100000 in
set_option maxHeartbeats 2000000 in
/-- one element ahead -/
theorem symA_c (vs : List Int) (A' : Option Addr) (n' c' gn B : Nat) (d : List Int) (A : Option Addr) (n c : Nat) (fp : List Nat) (a m b : Nat) (w : World) (h : CapV vs A' n' c' gn B w) (hs : Mm.SlOwn Mm.int 3 w d (.slice A n c) fp) (hnd : fp.Nodup) (g1 : gn ∉ fp) (g2 : ∀ b, b ∈ fp → B ≤ b) (hn : n ≤ 1000) (hp : Pl.MIn (Pl.valAt vs) d a m b n') (hm : m = a + 1) :
    Calls Try.prog 70 #[.slice A n c, .int .i64 a, .int .i64 m, .int .i64 b, .func (Fn.func 36) #[] #[.pointer (some ⟨gn, 0, none⟩)]] w fun e w' => e = .returned (.tuple #[]) ∧ ∃ d', Pl.MOut (Pl.valAt vs) d d' a b ∧ Mm.SepF fp w w' [Mm.tsl Mm.int 3 d' (.slice A n c) fp] := by
  have HS0 : Hid (Mm.SepF fp w w [Mm.tsl Mm.int 3 d (.slice A n c) fp]) := Mm.SepF.one (Mm.tsl Mm.int 3 d (.slice A n c) fp) w hs hnd
  have HLN : Hid (d.length = n) := by obtain ⟨_, _, _, hv, q1, _⟩ := hs.form; injection hv with _ q2 _; exact (q2.trans q1).symm
  have hmb := hp.pre.mb
  have hbn : b ≤ n := by have := hp.pre.len; have := HLN.out; omega
  have HC := Lib.hid h
  have HQ := Lib.hid (And.intro g1 g2)
  have HP := Lib.hid hp
  obtain ⟨z, hz⟩ : ∃ z, d[a]? = some z := ⟨_, List.getElem?_eq_getElem (by have := HLN.out; omega)⟩
  have HZ := Lib.hid hz
  have HM := Lib.hid hm
  have f0 : IntKind.i64.wrap ((m : Int) - (a : Int)) = 1 := by rw [IntWalk.i64_in _ (by omega)]; omega
  have f1 : ((m : Int) - (a : Int) == 1) = true := by rw [beq_iff_eq]; omega
  have hma : a < m := by omega
  clear h hs hnd g1 g2 hp hz hm f0
  go_enter Try.func70, Try.ntmps70
  go_wp2
  go_loopg [10, 11] (b - m) (fun gg s10 s11 wr => ∃ (i j : Nat), j - i ≤ gg ∧ m ≤ i ∧ i ≤ j ∧ j ≤ b ∧ s10 = .int .i64 i ∧ s11 = .int .i64 j ∧ Hid (Pl.Bs (Pl.valAt vs) d z m b i j) ∧ Hid (Mm.SepF fp w wr [Mm.tsl Mm.int 3 d (.slice A n c) fp]))
  case atStart => exact ⟨m, b, by omega, by omega, by omega, by omega, rfl, rfl, Pl.Bs.start, HS0.out⟩
  case round =>
    obtain ⟨i, j, hgg, hmi, hij, hjb, rfl, rfl, HB, HS⟩ := hrel
    obtain ⟨W, rfl⟩ : ∃ W : World, W = wr := ⟨_, rfl⟩
    obtain ⟨g, rfl, -, -⟩ := Mm.sl_addr (HS.out.sl 0 rfl) (by have := HLN.out; omega)
    by_cases hlt : i < j
    · obtain ⟨p, hp⟩ : ∃ p : Nat, ((i : Int) + (j : Int)) / 2 = p := ⟨(i + j) / 2, by omega⟩
      have hpi : i ≤ p := by omega
      have hpj : p < j := by omega
      obtain ⟨x, hx⟩ : ∃ x, d[p]? = some x := ⟨_, List.getElem?_eq_getElem (by have := HLN.out; omega)⟩
      have hzx : z < x := HP.out.pre.lf a p z x (Nat.le_refl _) (by omega) (by omega) (by omega) HZ.out hx
      have u0 := int_ocell (HS.out.sl 0 rfl) (HS.out.ndat (i := 0) rfl) hx
      have v0 := int_ocell (HS.out.sl 0 rfl) (HS.out.ndat (i := 0) rfl) HZ.out
      have CK := fun q : Und W => und_call q (closV_c vs A' n' c' gn B x z (und W q) ((HC.out.chg HS.out.chg HQ.out.1 HQ.out.2).bel q.h) (HP.out.num _ _ hx) (HP.out.num _ _ HZ.out))
      have HX := Lib.hid hx
      obtain ⟨cv, hcv⟩ : ∃ cv, Pl.valAt vs z - Pl.valAt vs x = cv := ⟨_, rfl⟩
      rw [hcv] at CK
      have f2 : (0 : Int) ≤ (p : Nat) := by omega
      have f3 : ((p : Nat) : Int).toNat = p := by omega
      have f4 : (0 : Int) ≤ (a : Nat) := by omega
      have f5 : ((a : Nat) : Int).toNat = a := by omega
      have f6 : (p : Int) < n := by omega
      have f7 : (a : Int) < n := by omega
      have fa : (i : Int) < (j : Int) := by omega
      clear hx
      have hsrt : Pl.Srt (Pl.valAt vs) d m b := HP.out.pre.s2
      have HSR := Lib.hid hsrt
      clear hsrt
      by_cases hneg : cv < 0
      · have HN := Lib.hid (HB.out.up HSR.out (by omega) (by omega) HX.out ((Pl.Bef.lt hzx).2 (by omega)))
        clear hcv
        go_wp2
        refine wp_region_und (by kernel_rfl) (by kernel_rfl) ?_
        repeat (go_big_quiet_step ((first | (go_at_call 36; with_reducible exact CK _))))
        refine wpQuiet_nil ?_
        intro X hX
        clear CK u0 v0
        have HS1 := Lib.hid (HS.out.step hX)
        clear hX
        go_wp2
        go_roundg (j - (p + 1))
        case measure => omega
        case rel => exact ⟨p + 1, j, Nat.le_refl _, by omega, by omega, by omega, by go_num, rfl, HN.out, HS1.out⟩
      · have HN := Lib.hid (HB.out.down HSR.out (by omega) (by omega) HX.out ((Pl.Bef.lt' hzx).2 (by omega)))
        clear hcv
        go_wp2
        refine wp_region_und (by kernel_rfl) (by kernel_rfl) ?_
        repeat (go_big_quiet_step ((first | (go_at_call 36; with_reducible exact CK _))))
        refine wpQuiet_nil ?_
        intro X hX
        clear CK u0 v0
        have HS1 := Lib.hid (HS.out.step hX)
        clear hX
        go_wp2
        go_roundg (p - i)
        case measure => omega
        case rel => exact ⟨i, p, Nat.le_refl _, by omega, by omega, by omega, rfl, rfl, HN.out, HS1.out⟩
    · have hij2 : j = i := by omega
      subst hij2
      have fa : ¬ (j : Int) < (j : Int) := by omega
      obtain ⟨e, he⟩ : ∃ e, j - 1 = e := ⟨_, rfl⟩
      have HE := Lib.hid he
      have f2 : IntKind.i64.wrap ((j : Int) - 1) = (e : Int) := by rw [IntWalk.i64_in _ (by omega)]; omega
      have hae : a ≤ e := by omega
      have heb : e < b := by omega
      clear he HS0
      go_wp2
      go_loopg [13] (e - a) (fun gi s13 wr => ∃ (k : Nat) (ys : List Int), e - k ≤ gi ∧ a ≤ k ∧ k ≤ e ∧ s13 = .int .i64 k ∧ Hid (Pl.ShUp d ys a b k z) ∧ Hid (Mm.SepF fp w wr [Mm.tsl Mm.int 3 ys (.slice (some ⟨g, 0, none⟩) n c) fp]))
      case atStart => exact ⟨a, d, by omega, by omega, by omega, rfl, Pl.ShUp.start HZ.out, HS.out⟩
      case round =>
        clear HS
        obtain ⟨k, ys, hgk, hak, hke, rfl, HU, HS⟩ := hrel
        obtain ⟨W, rfl⟩ : ∃ W : World, W = wr := ⟨_, rfl⟩
        by_cases hk : k < e
        · have hyl : ys.length = n := HU.out.mv.len.trans HLN.out
          obtain ⟨p, hp⟩ : ∃ p, k + 1 = p := ⟨_, rfl⟩
          obtain ⟨y, hy⟩ : ∃ y, ys[p]? = some y := ⟨_, List.getElem?_eq_getElem (by omega)⟩
          have u0 := int_ocell (HS.out.sl 0 rfl) (HS.out.ndat (i := 0) rfl) HU.out.at_
          have v0 := int_ocell (HS.out.sl 0 rfl) (HS.out.ndat (i := 0) rfl) hy
          have HN := Lib.hid (HU.out.step hak (by omega) (by rw [hp]; exact hy))
          rw [hp] at HN
          have HY := Lib.hid hy
          have fb : IntKind.i64.wrap ((k : Int) + 1) = (p : Int) := by rw [IntWalk.i64_in _ (by omega)]; omega
          have fc : (k : Int) < (e : Int) := by omega
          have hkp : k < p := by omega
          have hpe : p ≤ e := by omega
          have hme : e - p < e - k := by omega
          have z0 := (HS.out.sl 0 rfl).frozen k
          have z1 := (HS.out.sl 0 rfl).frozen p
          have f2 : (0 : Int) ≤ (k : Nat) := by omega
          have f3 : ((k : Nat) : Int).toNat = k := by omega
          have f4 : (0 : Int) ≤ (p : Nat) := by omega
          have f5 : ((p : Nat) : Int).toNat = p := by omega
          have f6 : (k : Int) < n := by omega
          have f7 : (p : Int) < n := by omega
          clear hy hp hyl
          go_wp2
          go_region
          have HS2 := Lib.hid ((HS.out.step ((Below.refl _ _).drew)).swpI 0 rfl HU.out.at_ HY.out)
          clear u0 v0 z0 z1
          go_wp2
          go_roundg (e - p)
          case measure => omega
          case rel => exact ⟨p, _, Nat.le_refl _, by omega, hpe, rfl, HN.out, HS2.out⟩
        · have hke2 : k = e := by omega
          subst hke2
          have fb : ¬ (k : Int) < (k : Int) := by omega
          have HO : Hid (Pl.MOut (Pl.valAt vs) d ys a b) := Lib.hid (by
            have hm := HM.out
            subst hm
            exact Pl.ShUp.done (i := j) (by rw [HE.out]; exact HU.out) HP.out.pre HZ.out (by omega) (by omega) HB.out)
          go_wp2
          exact bodyPost_ret (v := .tuple #[]) (by simp [results]) rfl ⟨rfl, ys, HO.out, HS.out⟩
end Go.Proofs.Ytnppcdiicnofpab

/-
  Contract: two ordered pieces merged in place (slices.symMergeCmpFunc) at ints, by value: one element behind; the general case. No conditions beyond those named.
-/
namespace Go.Proofs.Ytnppcdiicnofpab
open Go.RowKit
attribute [local go_sem] und_cell World.cell?_alloc_some
set_option maxRecDepth 100000 in
set_option maxHeartbeats 2000000 in
/-- one element behind -/
theorem symB_c (vs : List Int) (A' : Option Addr) (n' c' gn B : Nat) (d : List Int) (A : Option Addr) (n c : Nat) (fp : List Nat) (a m b : Nat) (w : World) (h : CapV vs A' n' c' gn B w) (hs : Mm.SlOwn Mm.int 3 w d (.slice A n c) fp) (hnd : fp.Nodup) (g1 : gn ∉ fp) (g2 : ∀ b, b ∈ fp → B ≤ b) (hn : n ≤ 1000) (hp : Pl.MIn (Pl.valAt vs) d a m b n') (hm1 : a + 1 < m) (hm : b = m + 1) :
    Calls Try.prog 70 #[.slice A n c, .int .i64 a, .int .i64 m, .int .i64 b, .func (Fn.func 36) #[] #[.pointer (some ⟨gn, 0, none⟩)]] w fun e w' => e = .returned (.tuple #[]) ∧ ∃ d', Pl.MOut (Pl.valAt vs) d d' a b ∧ Mm.SepF fp w w' [Mm.tsl Mm.int 3 d' (.slice A n c) fp] := by
  have HS0 : Hid (Mm.SepF fp w w [Mm.tsl Mm.int 3 d (.slice A n c) fp]) := Mm.SepF.one (Mm.tsl Mm.int 3 d (.slice A n c) fp) w hs hnd
  have HLN : Hid (d.length = n) := by obtain ⟨_, _, _, hv, q1, _⟩ := hs.form; injection hv with _ q2 _; exact (q2.trans q1).symm
  have hbn : b ≤ n := by have := hp.pre.len; have := HLN.out; omega
  have HC := Lib.hid h
  have HQ := Lib.hid (And.intro g1 g2)
  have HP := Lib.hid hp
  obtain ⟨z, hz⟩ : ∃ z, d[m]? = some z := ⟨_, List.getElem?_eq_getElem (by have := HLN.out; omega)⟩
  have HZ := Lib.hid hz
  have HM := Lib.hid hm
  have f0 : ((m : Int) - (a : Int) == 1) = false := by rw [beq_eq_false_iff_ne]; omega
  have f1 : ((b : Int) - (m : Int) == 1) = true := by rw [beq_iff_eq]; omega
  have hmb : m < b := by omega
  clear h hs hnd g1 g2 hp hz hm
  go_enter Try.func70, Try.ntmps70
  go_wp2
  go_loopg [14, 15] (m - a) (fun gg s10 s11 wr => ∃ (i j : Nat), j - i ≤ gg ∧ a ≤ i ∧ i ≤ j ∧ j ≤ m ∧ s10 = .int .i64 i ∧ s11 = .int .i64 j ∧ Hid (Pl.Bs (Pl.valAt vs) d z a m i j) ∧ Hid (Mm.SepF fp w wr [Mm.tsl Mm.int 3 d (.slice A n c) fp]))
  case atStart => exact ⟨a, m, by omega, by omega, by omega, by omega, rfl, rfl, Pl.Bs.start, HS0.out⟩
  case round =>
    clear f0 f1
    obtain ⟨i, j, hgg, hmi, hij, hjb, rfl, rfl, HB, HS⟩ := hrel
    obtain ⟨W, rfl⟩ : ∃ W : World, W = wr := ⟨_, rfl⟩
    obtain ⟨g, rfl, -, -⟩ := Mm.sl_addr (HS.out.sl 0 rfl) (by have := HLN.out; omega)
    by_cases hlt : i < j
    · obtain ⟨p, hp⟩ : ∃ p : Nat, ((i : Int) + (j : Int)) / 2 = p := ⟨(i + j) / 2, by omega⟩
      have hpi : i ≤ p := by omega
      have hpj : p < j := by omega
      obtain ⟨x, hx⟩ : ∃ x, d[p]? = some x := ⟨_, List.getElem?_eq_getElem (by have := HLN.out; omega)⟩
      have hzx : x < z := HP.out.pre.lf p m x z (by omega) (by omega) (Nat.le_refl _) (by omega) hx HZ.out
      have u0 := int_ocell (HS.out.sl 0 rfl) (HS.out.ndat (i := 0) rfl) hx
      have v0 := int_ocell (HS.out.sl 0 rfl) (HS.out.ndat (i := 0) rfl) HZ.out
      have CK := fun q : Und W => und_call q (closV_c vs A' n' c' gn B z x (und W q) ((HC.out.chg HS.out.chg HQ.out.1 HQ.out.2).bel q.h) (HP.out.num _ _ HZ.out) (HP.out.num _ _ hx))
      have HX := Lib.hid hx
      obtain ⟨cv, hcv⟩ : ∃ cv, Pl.valAt vs x - Pl.valAt vs z = cv := ⟨_, rfl⟩
      rw [hcv] at CK
      have f2 : (0 : Int) ≤ (p : Nat) := by omega
      have f3 : ((p : Nat) : Int).toNat = p := by omega
      have f4 : (0 : Int) ≤ (m : Nat) := by omega
      have f5 : ((m : Nat) : Int).toNat = m := by omega
      have f6 : (p : Int) < n := by omega
      have f7 : (m : Int) < n := by omega
      have fa : (i : Int) < (j : Int) := by omega
      clear hx
      have hsrt : Pl.Srt (Pl.valAt vs) d a m := HP.out.pre.s1
      have HSR := Lib.hid hsrt
      clear hsrt
      by_cases hneg : cv < 0
      · have hn4 : (!decide (cv < 0)) = false := by simp; omega
        have HN := Lib.hid (HB.out.down HSR.out (by omega) (by omega) HX.out ((Pl.Bef.lt hzx).2 (by omega)))
        clear hcv
        go_wp2
        refine wp_region_und (by kernel_rfl) (by kernel_rfl) ?_
        repeat (go_big_quiet_step ((first | (go_at_call 36; with_reducible exact CK _))))
        refine wpQuiet_nil ?_
        intro X hX
        clear CK u0 v0
        have HS1 := Lib.hid (HS.out.step hX)
        clear hX
        go_wp2
        go_roundg (p - i)
        case measure => omega
        case rel => exact ⟨i, p, Nat.le_refl _, by omega, by omega, by omega, rfl, rfl, HN.out, HS1.out⟩
      · have hn4 : (!decide (cv < 0)) = true := by simp; omega
        have HN := Lib.hid (HB.out.up HSR.out (by omega) (by omega) HX.out ((Pl.Bef.lt' hzx).2 (by omega)))
        clear hcv
        go_wp2
        refine wp_region_und (by kernel_rfl) (by kernel_rfl) ?_
        repeat (go_big_quiet_step ((first | (go_at_call 36; with_reducible exact CK _))))
        refine wpQuiet_nil ?_
        intro X hX
        clear CK u0 v0
        have HS1 := Lib.hid (HS.out.step hX)
        clear hX
        go_wp2
        go_roundg (j - (p + 1))
        case measure => omega
        case rel => exact ⟨p + 1, j, Nat.le_refl _, by omega, by omega, by omega, by go_num, rfl, HN.out, HS1.out⟩
    · have hij2 : j = i := by omega
      subst hij2
      have fa : ¬ (j : Int) < (j : Int) := by omega
      clear HS0
      go_wp2
      go_loopg [17] (m - j) (fun gi s13 wr => ∃ (k : Nat) (ys : List Int), k - j ≤ gi ∧ j ≤ k ∧ k ≤ m ∧ s13 = .int .i64 k ∧ Hid (Pl.ShDn d ys a m k z) ∧ Hid (Mm.SepF fp w wr [Mm.tsl Mm.int 3 ys (.slice (some ⟨g, 0, none⟩) n c) fp]))
      case atStart => exact ⟨m, d, by omega, by omega, by omega, rfl, Pl.ShDn.start HZ.out, HS.out⟩
      case round =>
        clear HS
        obtain ⟨k, ys, hgk, hak, hke, rfl, HU, HS⟩ := hrel
        obtain ⟨W, rfl⟩ : ∃ W : World, W = wr := ⟨_, rfl⟩
        by_cases hk : j < k
        · have hyl : ys.length = n := HU.out.mv.len.trans HLN.out
          obtain ⟨p, hp⟩ : ∃ p, k - 1 = p := ⟨_, rfl⟩
          obtain ⟨y, hy⟩ : ∃ y, ys[p]? = some y := ⟨_, List.getElem?_eq_getElem (by omega)⟩
          have u0 := int_ocell (HS.out.sl 0 rfl) (HS.out.ndat (i := 0) rfl) HU.out.at_
          have v0 := int_ocell (HS.out.sl 0 rfl) (HS.out.ndat (i := 0) rfl) hy
          have HN := Lib.hid (HU.out.step (by omega) (by omega) (by rw [hp]; exact hy))
          rw [hp] at HN
          have HY := Lib.hid hy
          have fb : IntKind.i64.wrap ((k : Int) - 1) = (p : Int) := by rw [IntWalk.i64_in _ (by omega)]; omega
          have fc : (j : Int) < (k : Int) := by omega
          have hkp : p < k := by omega
          have hpe : j ≤ p := by omega
          have hpm : p ≤ m := by omega
          have hme : p - j < k - j := by omega
          have z0 := (HS.out.sl 0 rfl).frozen k
          have z1 := (HS.out.sl 0 rfl).frozen p
          have f2 : (0 : Int) ≤ (k : Nat) := by omega
          have f3 : ((k : Nat) : Int).toNat = k := by omega
          have f4 : (0 : Int) ≤ (p : Nat) := by omega
          have f5 : ((p : Nat) : Int).toNat = p := by omega
          have f6 : (k : Int) < n := by omega
          have f7 : (p : Int) < n := by omega
          clear hy hp hyl
          go_wp2
          go_region
          have HS2 := Lib.hid ((HS.out.step ((Below.refl _ _).drew)).swpI 0 rfl HU.out.at_ HY.out)
          clear u0 v0 z0 z1
          go_wp2
          go_roundg (p - j)
          case measure => omega
          case rel => exact ⟨p, _, Nat.le_refl _, hpe, hpm, rfl, HN.out, HS2.out⟩
        · have hke2 : k = j := by omega
          subst hke2
          have fb : ¬ (k : Int) < (k : Int) := by omega
          have HO : Hid (Pl.MOut (Pl.valAt vs) d ys a b) := Lib.hid (by
            have hm := HM.out
            subst hm
            exact Pl.ShDn.done HU.out HP.out.pre (by omega) (by omega) HB.out)
          go_wp2
          exact bodyPost_ret (v := .tuple #[]) (by simp [results]) rfl ⟨rfl, ys, HO.out, HS.out⟩
end Go.Proofs.Ytnppcdiicnofpab

/-
  Contract: two ordered pieces merged in place (slices.symMergeCmpFunc) at ints, by value: all cases. No conditions beyond those named.
-/
namespace Go.Proofs.Ytnppcdiicnofpab
open Go.RowKit
attribute [local go_sem] und_cell World.cell?_alloc_some
theorem Pl.Srt.out {v : Int → Int} {d d' : List Int} {a b lo hi : Nat} (h : Pl.Srt v d lo hi) (hm : Pl.Mv a b d d') (hb : b ≤ lo) : Pl.Srt v d' lo hi := fun i j x y h1 h2 h3 hx hy => by
  rw [hm.out i (.inr (by omega))] at hx
  rw [hm.out j (.inr (by omega))] at hy
  exact h i j x y h1 h2 h3 hx hy
theorem Pl.Lft.out {d d' : List Int} {a b lo mi hi : Nat} (h : Pl.Lft d lo mi hi) (hm : Pl.Mv a b d d') (hb : b ≤ lo) (h1 : lo ≤ mi) : Pl.Lft d' lo mi hi := fun i j x y p1 p2 p3 p4 hx hy => by
  rw [hm.out i (.inr (by omega))] at hx
  rw [hm.out j (.inr (by omega))] at hy
  exact h i j x y p1 p2 p3 p4 hx hy
/-- what a merge of pieces needs of the world, and what it leaves -/
def SymAt (vs : List Int) (A' : Option Addr) (n' c' gn B : Nat) (A : Option Addr) (n c : Nat) (fp : List Nat) (q : Nat) : Prop :=
  ∀ (d : List Int) (a m b : Nat) (w : World), b - a ≤ q → CapV vs A' n' c' gn B w → Mm.SlOwn Mm.int 3 w d (.slice A n c) fp → Pl.MIn (Pl.valAt vs) d a m b n' →
    Calls Try.prog 70 #[.slice A n c, .int .i64 a, .int .i64 m, .int .i64 b, .func (Fn.func 36) #[] #[.pointer (some ⟨gn, 0, none⟩)]] w fun e w' => e = .returned (.tuple #[]) ∧ ∃ d', Pl.MOut (Pl.valAt vs) d d' a b ∧ Mm.SepF fp w w' [Mm.tsl Mm.int 3 d' (.slice A n c) fp]
set_option maxRecDepth 100000 in
set_option maxHeartbeats 4000000 in
theorem symC1_c (vs : List Int) (A' : Option Addr) (n' c' gn B : Nat) (A : Option Addr) (n c : Nat) (fp : List Nat) (hnd : fp.Nodup) (g1 : gn ∉ fp) (g2 : ∀ b, b ∈ fp → B ≤ b) (hn : n ≤ 1000) (q : Nat) (IH : SymAt vs A' n' c' gn B A n c fp q) (d : List Int) (a m b : Nat) (w : World) (hq : b - a ≤ q + 1) (h : CapV vs A' n' c' gn B w) (hs : Mm.SlOwn Mm.int 3 w d (.slice A n c) fp) (hp : Pl.MIn (Pl.valAt vs) d a m b n')
    (hA : a + 1 < m) (hB : m + 1 < b) (mid : Nat) (hmid : (a + b) / 2 = mid) (hmm : (mid < m)) :
    Calls Try.prog 70 #[.slice A n c, .int .i64 a, .int .i64 m, .int .i64 b, .func (Fn.func 36) #[] #[.pointer (some ⟨gn, 0, none⟩)]] w fun e w' => e = .returned (.tuple #[]) ∧ ∃ d', Pl.MOut (Pl.valAt vs) d d' a b ∧ Mm.SepF fp w w' [Mm.tsl Mm.int 3 d' (.slice A n c) fp] := by
  have HS0 : Hid (Mm.SepF fp w w [Mm.tsl Mm.int 3 d (.slice A n c) fp]) := Mm.SepF.one (Mm.tsl Mm.int 3 d (.slice A n c) fp) w hs hnd
  have HLN : Hid (d.length = n) := by obtain ⟨_, _, _, hv, q1, _⟩ := hs.form; injection hv with _ q2 _; exact (q2.trans q1).symm
  have hbn : b ≤ n := by have := hp.pre.len; have := HLN.out; omega
  have HC := Lib.hid h
  have HQ := Lib.hid (And.intro g1 g2)
  have HP := Lib.hid hp
  have HND := Lib.hid hnd
  have f0 : ((m : Int) - (a : Int) == 1) = false := by rw [beq_eq_false_iff_ne]; omega
  have f1 : ((b : Int) - (m : Int) == 1) = false := by rw [beq_eq_false_iff_ne]; omega
  have hma : a < mid := by omega
  have hmb2 : mid < b := by omega
  have l1 : ((a : Int) + (b : Int)) / 2 = (mid : Int) := by omega
  have HMI : Hid (mid = (a + b) / 2) := hmid.symm
  obtain ⟨n1, hn1⟩ : ∃ n1, mid + m = n1 := ⟨_, rfl⟩
  obtain ⟨n1p, hn1p⟩ : ∃ n1p, n1 - 1 = n1p := ⟨_, rfl⟩
  have l2 : IntKind.i64.wrap ((mid : Int) + (m : Int)) = (n1 : Int) := by rw [IntWalk.i64_in _ (by omega)]; omega
  have l3 : IntKind.i64.wrap ((n1 : Int) - 1) = (n1p : Int) := by rw [IntWalk.i64_in _ (by omega)]; omega
  clear h hs hp
  obtain ⟨lo, hlo⟩ : ∃ lo, mid + m - b = lo := ⟨_, rfl⟩
  obtain ⟨hi, hhi⟩ : ∃ hi, mid = hi := ⟨_, rfl⟩
  have l4 : IntKind.i64.wrap ((n1 : Int) - (b : Int)) = (lo : Int) := by rw [IntWalk.i64_in _ (by omega)]; omega
  have l5 : (mid : Int) < (m : Int) := by omega
  have HLO : Hid (lo = if mid < m then mid + m - b else a) := Lib.hid (by rw [if_pos hmm]; exact hlo.symm)
  have HHI : Hid (hi = if mid < m then mid else m) := Lib.hid (by rw [if_pos hmm]; exact hhi.symm)
  have HLH : Hid (∀ c, lo ≤ c → c < hi → m ≤ mid + m - 1 - c ∧ mid + m - 1 - c < b ∧ c < mid + m) := Lib.hid (fun c h1 h2 => by omega)
  have hal : a ≤ lo := by omega
  have hhm : hi ≤ m := by omega
  have hlh : lo ≤ hi := by omega
  have hK : mid + m ≤ b + lo ∧ hi ≤ mid := by omega
  subst hhi
  clear hlo hmid
  go_enter Try.func70, Try.ntmps70
  skip
  go_wp2
  go_loopg [20, 21] (mid - lo) (fun gg s10 s11 wr => ∃ (s r : Nat), r - s ≤ gg ∧ lo ≤ s ∧ s ≤ r ∧ r ≤ mid ∧ s10 = .int .i64 s ∧ s11 = .int .i64 r ∧ Hid (Pl.Ms (Pl.valAt vs) d (mid + m) lo mid s r) ∧ Hid (Mm.SepF fp w wr [Mm.tsl Mm.int 3 d (.slice A n c) fp]))
  case atStart => exact ⟨lo, mid, by omega, by omega, by omega, by omega, rfl, rfl, Pl.Ms.start, HS0.out⟩
  case round =>
    clear f0 f1 l1 l2 l3 l5
    obtain ⟨s, r, hgg, hmi, hij, hjb, rfl, rfl, HB, HS⟩ := hrel
    obtain ⟨W, rfl⟩ : ∃ W : World, W = wr := ⟨_, rfl⟩
    obtain ⟨g, rfl, -, -⟩ := Mm.sl_addr (HS.out.sl 0 rfl) (by have := HLN.out; omega)
    by_cases hlt : s < r
    · as_aux_lemma =>
      obtain ⟨p, hp⟩ : ∃ p : Nat, ((s : Int) + (r : Int)) / 2 = p := ⟨(s + r) / 2, by omega⟩
      have hpi : s ≤ p := by omega
      have hpj : p < r := by omega
      have hcc := HLH.out p (by omega) (by omega)
      obtain ⟨t, ht⟩ : ∃ t, mid + m - 1 - p = t := ⟨_, rfl⟩
      rw [ht] at hcc
      obtain ⟨x, hx⟩ : ∃ x, d[p]? = some x := ⟨_, List.getElem?_eq_getElem (by have := HLN.out; omega)⟩
      obtain ⟨y, hy⟩ : ∃ y, d[t]? = some y := ⟨_, List.getElem?_eq_getElem (by have := HLN.out; omega)⟩
      have hxy : x < y := HP.out.pre.lf p t x y (by omega) (by omega) hcc.1 hcc.2.1 hx hy
      have u0 := int_ocell (HS.out.sl 0 rfl) (HS.out.ndat (i := 0) rfl) hx
      have v0 := int_ocell (HS.out.sl 0 rfl) (HS.out.ndat (i := 0) rfl) hy
      have CK := fun q : Und W => und_call q (closV_c vs A' n' c' gn B y x (und W q) ((HC.out.chg HS.out.chg HQ.out.1 HQ.out.2).bel q.h) (HP.out.num _ _ hy) (HP.out.num _ _ hx))
      have HX := Lib.hid hx
      have HY : Hid (d[mid + m - 1 - p]? = some y) := by rw [ht]; exact hy
      obtain ⟨cv, hcv⟩ : ∃ cv, Pl.valAt vs x - Pl.valAt vs y = cv := ⟨_, rfl⟩
      rw [hcv] at CK
      have f2 : (0 : Int) ≤ (p : Nat) := by omega
      have f3 : ((p : Nat) : Int).toNat = p := by omega
      have f4 : (0 : Int) ≤ (t : Nat) := by omega
      have f5 : ((t : Nat) : Int).toNat = t := by omega
      have f6 : (p : Int) < n := by omega
      have f7 : (t : Int) < n := by omega
      have f8 : IntKind.i64.wrap ((n1p : Int) - (p : Int)) = (t : Int) := by rw [IntWalk.i64_in _ (by omega)]; omega
      have fa : (s : Int) < (r : Int) := by omega
      clear hx hy ht hcc
      by_cases hneg : cv < 0
      · have hn4 : (!decide (cv < 0)) = false := by simp; omega
        have HN := Lib.hid (HB.out.down HP.out.pre hal hhm HLH.out (by omega) (by omega) HX.out HY.out ((Pl.Bef.lt hxy).2 (by omega)))
        clear hcv
        go_wp2
        refine wp_region_und (by kernel_rfl) (by kernel_rfl) ?_
        repeat (go_big_quiet_step ((first | (go_at_call 36; with_reducible exact CK _))))
        refine wpQuiet_nil ?_
        intro X hX
        clear CK u0 v0
        have HS1 := Lib.hid (HS.out.step hX)
        clear hX
        go_wp2
        go_roundg (p - s)
        case measure => omega
        case rel => exact ⟨s, p, Nat.le_refl _, by omega, by omega, by omega, rfl, rfl, HN.out, HS1.out⟩
      · have hn4 : (!decide (cv < 0)) = true := by simp; omega
        have HN := Lib.hid (HB.out.up HP.out.pre hal hhm HLH.out (by omega) (by omega) HX.out HY.out ((Pl.Bef.lt' hxy).2 (by omega)))
        clear hcv
        go_wp2
        refine wp_region_und (by kernel_rfl) (by kernel_rfl) ?_
        repeat (go_big_quiet_step ((first | (go_at_call 36; with_reducible exact CK _))))
        refine wpQuiet_nil ?_
        intro X hX
        clear CK u0 v0
        have HS1 := Lib.hid (HS.out.step hX)
        clear hX
        go_wp2
        go_roundg (r - (p + 1))
        case measure => omega
        case rel => exact ⟨p + 1, r, Nat.le_refl _, by omega, by omega, by omega, by go_num, rfl, HN.out, HS1.out⟩
    · have hij2 : r = s := by omega
      subst hij2
      have fa : ¬ (r : Int) < (r : Int) := by omega
      obtain ⟨e, he⟩ : ∃ e, mid + m - r = e := ⟨_, rfl⟩
      have f2 : IntKind.i64.wrap ((n1 : Int) - (r : Int)) = (e : Int) := by rw [IntWalk.i64_in _ (by omega)]; omega
      have HAL : Hid (∀ d1 : List Int, (∀ t, d1[t]? = Pl.rotF d r m e t) → a ≤ r ∧ r ≤ m ∧ r ≤ mid ∧ m ≤ e ∧ mid ≤ e ∧ e ≤ b ∧ Pl.Halves (Pl.valAt vs) d1 a r mid e b) := Lib.hid (fun d1 hr => by
        rw [← he] at hr ⊢
        exact Pl.halves HP.out.pre HMI.out HLO.out HHI.out hmi hjb HB.out hr)
      have hord : r ≤ m ∧ m ≤ e := by rw [← he]; omega
      have hab2 : a ≤ r ∧ e ≤ b := by rw [← he]; constructor <;> omega
      have hrm : r ≤ mid ∧ mid ≤ e := by rw [← he]; constructor <;> omega
      have HEE := Lib.hid he
      clear he HB HLO HHI HLH
      go_upto_region 39 with fail
      go_cut [185] (fun t wx => ∃ bv, t = .bool bv ∧ Hid (bv = decide (r < m ∧ m < e)) ∧ wx = W)
      case first =>
        as_aux_lemma =>
        by_cases k1 : r < m
        · have q1 : (r : Int) < (m : Int) := by omega
          by_cases k2 : m < e
          · have q2 : (m : Int) < (e : Int) := by omega
            go_wp2
            go_meet
            exact ⟨true, rfl, (decide_eq_true ⟨k1, k2⟩).symm, rfl⟩
          · have q2 : ¬ (m : Int) < (e : Int) := by omega
            go_wp2
            go_meet
            exact ⟨false, rfl, (decide_eq_false (fun h => k2 h.2)).symm, rfl⟩
        · have q1 : ¬ (r : Int) < (m : Int) := by omega
          go_wp2
          go_meet
          exact ⟨false, rfl, (decide_eq_false (fun h => k1 h.1)).symm, rfl⟩
      case rest =>
      as_aux_lemma =>
      obtain ⟨bv, rfl, HBV, rfl⟩ := hcut
      go_upto_if 185 with fail
      go_cut [] (fun wx => ∃ d1, Hid (Pl.Mv a b d d1) ∧ Hid (∀ t, d1[t]? = Pl.rotF d r m e t) ∧ Hid (Mm.SepF fp w wx [Mm.tsl Mm.int 3 d1 (.slice (some ⟨g, 0, none⟩) n c) fp]))
      case first =>
        as_aux_lemma =>
        cases bv with
        | true =>
          obtain ⟨k1, k2⟩ := of_decide_eq_true HBV.out.symm
          have CS := rotI_c d (some ⟨g, 0, none⟩) n c fp r m e (.func (Fn.func 36) #[] #[.pointer (some ⟨gn, 0, none⟩)]) wc (HS.out.sl 0 rfl) HND.out hn k1 k2 (by omega)
          go_wp2_with (go_at_call 77; (with_reducible refine CS.mono ?_); clear CS; rintro ex w1 ⟨rfl, zs, HZ, hz⟩; (have HS1 := Lib.hid (HS.out.call 0 rfl hz.left)); (have HZ1 := Lib.hid HZ); clear hz HZ)
          go_meet
          exact ⟨zs, HZ1.out.1.mono hab2.1 hab2.2, HZ1.out.2, HS1.out⟩
        | false =>
          have k := of_decide_eq_false HBV.out.symm
          go_wp2
          go_meet
          exact ⟨d, Pl.Mv.refl _ _ _, Pl.rotF_self (by omega) hord.1 hord.2, HS.out⟩
      case rest =>
        as_aux_lemma =>
        clear HS
        obtain ⟨d1, HM1, HR1, HS⟩ := hcut
        have HH := Lib.hid (HAL.out d1 HR1.out).2.2.2.2.2.2
        have HNU := Lib.hid (HP.out.num.mv HM1.out)
        clear HAL HR1 hord
        go_upto_region 41 with fail
        go_cut [199] (fun t wx => ∃ bv, t = .bool bv ∧ Hid (bv = decide (a < r ∧ r < mid)) ∧ wx = wc)
        case first =>
          as_aux_lemma =>
          by_cases k1 : a < r
          · have q1 : (a : Int) < (r : Int) := by omega
            by_cases k2 : r < mid
            · have q2 : (r : Int) < (mid : Int) := by omega
              go_wp2
              go_meet
              exact ⟨true, rfl, (decide_eq_true ⟨k1, k2⟩).symm, rfl⟩
            · have q2 : ¬ (r : Int) < (mid : Int) := by omega
              go_wp2
              go_meet
              exact ⟨false, rfl, (decide_eq_false (fun h => k2 h.2)).symm, rfl⟩
          · have q1 : ¬ (a : Int) < (r : Int) := by omega
            go_wp2
            go_meet
            exact ⟨false, rfl, (decide_eq_false (fun h => k1 h.1)).symm, rfl⟩
        case rest =>
        as_aux_lemma =>
        obtain ⟨bv, rfl, HBV, rfl⟩ := hcut
        go_upto_if 199 with fail
        go_cut [] (fun wx => ∃ d2, Hid (Pl.Mv a mid d1 d2) ∧ Hid (Pl.Srt (Pl.valAt vs) d2 a mid) ∧ Hid (Mm.SepF fp w wx [Mm.tsl Mm.int 3 d2 (.slice (some ⟨g, 0, none⟩) n c) fp]))
        case first =>
          as_aux_lemma =>
          cases bv with
          | true =>
            obtain ⟨k1, k2⟩ := of_decide_eq_true HBV.out.symm
            have CS := IH d1 a r mid wc (by omega) (HC.out.chg HS.out.chg HQ.out.1 HQ.out.2) (HS.out.sl 0 rfl) ⟨⟨k1, k2, by have := HM1.out.len; have := HLN.out; omega, HH.out.l1, HH.out.l2, HH.out.l3⟩, HNU.out⟩
            go_wp2_with (go_at_call 70; (with_reducible refine CS.mono ?_); clear CS; rintro ex w1 ⟨rfl, zs, HZ, hz⟩; (have HS1 := Lib.hid (HS.out.call 0 rfl hz.left)); (have HZ1 := Lib.hid HZ); clear hz HZ)
            go_meet
            exact ⟨zs, HZ1.out.1, HZ1.out.2, HS1.out⟩
          | false =>
            have k := of_decide_eq_false HBV.out.symm
            have k3 : Pl.Srt (Pl.valAt vs) d1 a mid := by
              by_cases k1 : a < r
              · exact HH.out.l1.sub (Nat.le_refl _) (by omega)
              · exact HH.out.l2.sub (by omega) (Nat.le_refl _)
            have HK3 := Lib.hid k3
            clear k3
            go_wp2
            go_meet
            exact ⟨d1, Pl.Mv.refl _ _ _, HK3.out, HS.out⟩
        case rest =>
          as_aux_lemma =>
          clear HS
          obtain ⟨d2, HM2, HR2, HS⟩ := hcut
          go_upto_region 43 with fail
          go_cut [213] (fun t wx => ∃ bv, t = .bool bv ∧ Hid (bv = decide (mid < e ∧ e < b)) ∧ wx = wc)
          case first =>
            as_aux_lemma =>
            by_cases k1 : mid < e
            · have q1 : (mid : Int) < (e : Int) := by omega
              by_cases k2 : e < b
              · have q2 : (e : Int) < (b : Int) := by omega
                go_wp2
                go_meet
                exact ⟨true, rfl, (decide_eq_true ⟨k1, k2⟩).symm, rfl⟩
              · have q2 : ¬ (e : Int) < (b : Int) := by omega
                go_wp2
                go_meet
                exact ⟨false, rfl, (decide_eq_false (fun h => k2 h.2)).symm, rfl⟩
            · have q1 : ¬ (mid : Int) < (e : Int) := by omega
              go_wp2
              go_meet
              exact ⟨false, rfl, (decide_eq_false (fun h => k1 h.1)).symm, rfl⟩
          case rest =>
          as_aux_lemma =>
          obtain ⟨bv, rfl, HBV, rfl⟩ := hcut
          cases bv with
          | true =>
            obtain ⟨k1, k2⟩ := of_decide_eq_true HBV.out.symm
            have CS := IH d2 mid e b wc (by omega) (HC.out.chg HS.out.chg HQ.out.1 HQ.out.2) (HS.out.sl 0 rfl) ⟨⟨k1, k2, by have := HM1.out.len; have := HM2.out.len; have := HLN.out; omega, HH.out.r1.out HM2.out (Nat.le_refl _), HH.out.r2.out HM2.out (by omega), HH.out.r3.out HM2.out (Nat.le_refl _) (by omega)⟩, HNU.out.mv HM2.out⟩
            go_wp2_with (go_at_call 70; (with_reducible refine CS.mono ?_); clear CS; rintro ex w1 ⟨rfl, zs, HZ, hz⟩; (have HS1 := Lib.hid (HS.out.call 0 rfl hz.left)); (have HZ1 := Lib.hid HZ); clear hz HZ)
            go_end0
            have HE := Pl.halves_end HH.out HM2.out HR2.out HZ1.out.1 HZ1.out.2 (by omega) (by omega)
            exact ⟨rfl, zs, ⟨HM1.out.trans HE.1, HE.2⟩, HS1.out⟩
          | false =>
            have k := of_decide_eq_false HBV.out.symm
            have k3 : Pl.Srt (Pl.valAt vs) d1 mid b := by
              by_cases k1 : mid < e
              · exact HH.out.r1.sub (Nat.le_refl _) (by omega)
              · exact HH.out.r2.sub (by omega) (Nat.le_refl _)
            have HE := Lib.hid (Pl.halves_end HH.out HM2.out HR2.out (Pl.Mv.refl _ _ _) (k3.out HM2.out (Nat.le_refl _)) (by omega) (by omega))
            clear k3
            go_wp2
            go_end0
            exact ⟨rfl, d2, ⟨HM1.out.trans HE.out.1, HE.out.2⟩, HS.out⟩
set_option maxRecDepth 100000 in
set_option maxHeartbeats 4000000 in
theorem symC2_c (vs : List Int) (A' : Option Addr) (n' c' gn B : Nat) (A : Option Addr) (n c : Nat) (fp : List Nat) (hnd : fp.Nodup) (g1 : gn ∉ fp) (g2 : ∀ b, b ∈ fp → B ≤ b) (hn : n ≤ 1000) (q : Nat) (IH : SymAt vs A' n' c' gn B A n c fp q) (d : List Int) (a m b : Nat) (w : World) (hq : b - a ≤ q + 1) (h : CapV vs A' n' c' gn B w) (hs : Mm.SlOwn Mm.int 3 w d (.slice A n c) fp) (hp : Pl.MIn (Pl.valAt vs) d a m b n')
    (hA : a + 1 < m) (hB : m + 1 < b) (mid : Nat) (hmid : (a + b) / 2 = mid) (hmm : (¬ mid < m)) :
    Calls Try.prog 70 #[.slice A n c, .int .i64 a, .int .i64 m, .int .i64 b, .func (Fn.func 36) #[] #[.pointer (some ⟨gn, 0, none⟩)]] w fun e w' => e = .returned (.tuple #[]) ∧ ∃ d', Pl.MOut (Pl.valAt vs) d d' a b ∧ Mm.SepF fp w w' [Mm.tsl Mm.int 3 d' (.slice A n c) fp] := by
  have HS0 : Hid (Mm.SepF fp w w [Mm.tsl Mm.int 3 d (.slice A n c) fp]) := Mm.SepF.one (Mm.tsl Mm.int 3 d (.slice A n c) fp) w hs hnd
  have HLN : Hid (d.length = n) := by obtain ⟨_, _, _, hv, q1, _⟩ := hs.form; injection hv with _ q2 _; exact (q2.trans q1).symm
  have hbn : b ≤ n := by have := hp.pre.len; have := HLN.out; omega
  have HC := Lib.hid h
  have HQ := Lib.hid (And.intro g1 g2)
  have HP := Lib.hid hp
  have HND := Lib.hid hnd
  have f0 : ((m : Int) - (a : Int) == 1) = false := by rw [beq_eq_false_iff_ne]; omega
  have f1 : ((b : Int) - (m : Int) == 1) = false := by rw [beq_eq_false_iff_ne]; omega
  have hma : a < mid := by omega
  have hmb2 : mid < b := by omega
  have l1 : ((a : Int) + (b : Int)) / 2 = (mid : Int) := by omega
  have HMI : Hid (mid = (a + b) / 2) := hmid.symm
  obtain ⟨n1, hn1⟩ : ∃ n1, mid + m = n1 := ⟨_, rfl⟩
  obtain ⟨n1p, hn1p⟩ : ∃ n1p, n1 - 1 = n1p := ⟨_, rfl⟩
  have l2 : IntKind.i64.wrap ((mid : Int) + (m : Int)) = (n1 : Int) := by rw [IntWalk.i64_in _ (by omega)]; omega
  have l3 : IntKind.i64.wrap ((n1 : Int) - 1) = (n1p : Int) := by rw [IntWalk.i64_in _ (by omega)]; omega
  clear h hs hp
  obtain ⟨lo, hlo⟩ : ∃ lo, a = lo := ⟨_, rfl⟩
  obtain ⟨hi, hhi⟩ : ∃ hi, m = hi := ⟨_, rfl⟩
  have l5 : ¬ (mid : Int) < (m : Int) := by omega
  have HLO : Hid (lo = if mid < m then mid + m - b else a) := Lib.hid (by rw [if_neg hmm]; exact hlo.symm)
  have HHI : Hid (hi = if mid < m then mid else m) := Lib.hid (by rw [if_neg hmm]; exact hhi.symm)
  have HLH : Hid (∀ c, lo ≤ c → c < hi → m ≤ mid + m - 1 - c ∧ mid + m - 1 - c < b ∧ c < mid + m) := Lib.hid (fun c h1 h2 => by omega)
  have hal : a ≤ lo := by omega
  have hhm : hi ≤ m := by omega
  have hlh : lo ≤ hi := by omega
  have hK : mid + m ≤ b + lo ∧ hi ≤ mid := by omega
  subst hlo hhi
  clear hmid
  go_enter Try.func70, Try.ntmps70
  skip
  go_wp2
  go_loopg [20, 21] (m - a) (fun gg s10 s11 wr => ∃ (s r : Nat), r - s ≤ gg ∧ a ≤ s ∧ s ≤ r ∧ r ≤ m ∧ s10 = .int .i64 s ∧ s11 = .int .i64 r ∧ Hid (Pl.Ms (Pl.valAt vs) d (mid + m) a m s r) ∧ Hid (Mm.SepF fp w wr [Mm.tsl Mm.int 3 d (.slice A n c) fp]))
  case atStart => exact ⟨a, m, by omega, by omega, by omega, by omega, rfl, rfl, Pl.Ms.start, HS0.out⟩
  case round =>
    clear f0 f1 l1 l2 l3 l5
    obtain ⟨s, r, hgg, hmi, hij, hjb, rfl, rfl, HB, HS⟩ := hrel
    obtain ⟨W, rfl⟩ : ∃ W : World, W = wr := ⟨_, rfl⟩
    obtain ⟨g, rfl, -, -⟩ := Mm.sl_addr (HS.out.sl 0 rfl) (by have := HLN.out; omega)
    by_cases hlt : s < r
    · as_aux_lemma =>
      obtain ⟨p, hp⟩ : ∃ p : Nat, ((s : Int) + (r : Int)) / 2 = p := ⟨(s + r) / 2, by omega⟩
      have hpi : s ≤ p := by omega
      have hpj : p < r := by omega
      have hcc := HLH.out p (by omega) (by omega)
      obtain ⟨t, ht⟩ : ∃ t, mid + m - 1 - p = t := ⟨_, rfl⟩
      rw [ht] at hcc
      obtain ⟨x, hx⟩ : ∃ x, d[p]? = some x := ⟨_, List.getElem?_eq_getElem (by have := HLN.out; omega)⟩
      obtain ⟨y, hy⟩ : ∃ y, d[t]? = some y := ⟨_, List.getElem?_eq_getElem (by have := HLN.out; omega)⟩
      have hxy : x < y := HP.out.pre.lf p t x y (by omega) (by omega) hcc.1 hcc.2.1 hx hy
      have u0 := int_ocell (HS.out.sl 0 rfl) (HS.out.ndat (i := 0) rfl) hx
      have v0 := int_ocell (HS.out.sl 0 rfl) (HS.out.ndat (i := 0) rfl) hy
      have CK := fun q : Und W => und_call q (closV_c vs A' n' c' gn B y x (und W q) ((HC.out.chg HS.out.chg HQ.out.1 HQ.out.2).bel q.h) (HP.out.num _ _ hy) (HP.out.num _ _ hx))
      have HX := Lib.hid hx
      have HY : Hid (d[mid + m - 1 - p]? = some y) := by rw [ht]; exact hy
      obtain ⟨cv, hcv⟩ : ∃ cv, Pl.valAt vs x - Pl.valAt vs y = cv := ⟨_, rfl⟩
      rw [hcv] at CK
      have f2 : (0 : Int) ≤ (p : Nat) := by omega
      have f3 : ((p : Nat) : Int).toNat = p := by omega
      have f4 : (0 : Int) ≤ (t : Nat) := by omega
      have f5 : ((t : Nat) : Int).toNat = t := by omega
      have f6 : (p : Int) < n := by omega
      have f7 : (t : Int) < n := by omega
      have f8 : IntKind.i64.wrap ((n1p : Int) - (p : Int)) = (t : Int) := by rw [IntWalk.i64_in _ (by omega)]; omega
      have fa : (s : Int) < (r : Int) := by omega
      clear hx hy ht hcc
      by_cases hneg : cv < 0
      · have hn4 : (!decide (cv < 0)) = false := by simp; omega
        have HN := Lib.hid (HB.out.down HP.out.pre hal hhm HLH.out (by omega) (by omega) HX.out HY.out ((Pl.Bef.lt hxy).2 (by omega)))
        clear hcv
        go_wp2
        refine wp_region_und (by kernel_rfl) (by kernel_rfl) ?_
        repeat (go_big_quiet_step ((first | (go_at_call 36; with_reducible exact CK _))))
        refine wpQuiet_nil ?_
        intro X hX
        clear CK u0 v0
        have HS1 := Lib.hid (HS.out.step hX)
        clear hX
        go_wp2
        go_roundg (p - s)
        case measure => omega
        case rel => exact ⟨s, p, Nat.le_refl _, by omega, by omega, by omega, rfl, rfl, HN.out, HS1.out⟩
      · have hn4 : (!decide (cv < 0)) = true := by simp; omega
        have HN := Lib.hid (HB.out.up HP.out.pre hal hhm HLH.out (by omega) (by omega) HX.out HY.out ((Pl.Bef.lt' hxy).2 (by omega)))
        clear hcv
        go_wp2
        refine wp_region_und (by kernel_rfl) (by kernel_rfl) ?_
        repeat (go_big_quiet_step ((first | (go_at_call 36; with_reducible exact CK _))))
        refine wpQuiet_nil ?_
        intro X hX
        clear CK u0 v0
        have HS1 := Lib.hid (HS.out.step hX)
        clear hX
        go_wp2
        go_roundg (r - (p + 1))
        case measure => omega
        case rel => exact ⟨p + 1, r, Nat.le_refl _, by omega, by omega, by omega, by go_num, rfl, HN.out, HS1.out⟩
    · have hij2 : r = s := by omega
      subst hij2
      have fa : ¬ (r : Int) < (r : Int) := by omega
      obtain ⟨e, he⟩ : ∃ e, mid + m - r = e := ⟨_, rfl⟩
      have f2 : IntKind.i64.wrap ((n1 : Int) - (r : Int)) = (e : Int) := by rw [IntWalk.i64_in _ (by omega)]; omega
      have HAL : Hid (∀ d1 : List Int, (∀ t, d1[t]? = Pl.rotF d r m e t) → a ≤ r ∧ r ≤ m ∧ r ≤ mid ∧ m ≤ e ∧ mid ≤ e ∧ e ≤ b ∧ Pl.Halves (Pl.valAt vs) d1 a r mid e b) := Lib.hid (fun d1 hr => by
        rw [← he] at hr ⊢
        exact Pl.halves HP.out.pre HMI.out HLO.out HHI.out hmi hjb HB.out hr)
      have hord : r ≤ m ∧ m ≤ e := by rw [← he]; omega
      have hab2 : a ≤ r ∧ e ≤ b := by rw [← he]; constructor <;> omega
      have hrm : r ≤ mid ∧ mid ≤ e := by rw [← he]; constructor <;> omega
      have HEE := Lib.hid he
      clear he HB HLO HHI HLH
      go_upto_region 39 with fail
      go_cut [185] (fun t wx => ∃ bv, t = .bool bv ∧ Hid (bv = decide (r < m ∧ m < e)) ∧ wx = W)
      case first =>
        as_aux_lemma =>
        by_cases k1 : r < m
        · have q1 : (r : Int) < (m : Int) := by omega
          by_cases k2 : m < e
          · have q2 : (m : Int) < (e : Int) := by omega
            go_wp2
            go_meet
            exact ⟨true, rfl, (decide_eq_true ⟨k1, k2⟩).symm, rfl⟩
          · have q2 : ¬ (m : Int) < (e : Int) := by omega
            go_wp2
            go_meet
            exact ⟨false, rfl, (decide_eq_false (fun h => k2 h.2)).symm, rfl⟩
        · have q1 : ¬ (r : Int) < (m : Int) := by omega
          go_wp2
          go_meet
          exact ⟨false, rfl, (decide_eq_false (fun h => k1 h.1)).symm, rfl⟩
      case rest =>
      as_aux_lemma =>
      obtain ⟨bv, rfl, HBV, rfl⟩ := hcut
      go_upto_if 185 with fail
      go_cut [] (fun wx => ∃ d1, Hid (Pl.Mv a b d d1) ∧ Hid (∀ t, d1[t]? = Pl.rotF d r m e t) ∧ Hid (Mm.SepF fp w wx [Mm.tsl Mm.int 3 d1 (.slice (some ⟨g, 0, none⟩) n c) fp]))
      case first =>
        as_aux_lemma =>
        cases bv with
        | true =>
          obtain ⟨k1, k2⟩ := of_decide_eq_true HBV.out.symm
          have CS := rotI_c d (some ⟨g, 0, none⟩) n c fp r m e (.func (Fn.func 36) #[] #[.pointer (some ⟨gn, 0, none⟩)]) wc (HS.out.sl 0 rfl) HND.out hn k1 k2 (by omega)
          go_wp2_with (go_at_call 77; (with_reducible refine CS.mono ?_); clear CS; rintro ex w1 ⟨rfl, zs, HZ, hz⟩; (have HS1 := Lib.hid (HS.out.call 0 rfl hz.left)); (have HZ1 := Lib.hid HZ); clear hz HZ)
          go_meet
          exact ⟨zs, HZ1.out.1.mono hab2.1 hab2.2, HZ1.out.2, HS1.out⟩
        | false =>
          have k := of_decide_eq_false HBV.out.symm
          go_wp2
          go_meet
          exact ⟨d, Pl.Mv.refl _ _ _, Pl.rotF_self (by omega) hord.1 hord.2, HS.out⟩
      case rest =>
        as_aux_lemma =>
        clear HS
        obtain ⟨d1, HM1, HR1, HS⟩ := hcut
        have HH := Lib.hid (HAL.out d1 HR1.out).2.2.2.2.2.2
        have HNU := Lib.hid (HP.out.num.mv HM1.out)
        clear HAL HR1 hord
        go_upto_region 41 with fail
        go_cut [199] (fun t wx => ∃ bv, t = .bool bv ∧ Hid (bv = decide (a < r ∧ r < mid)) ∧ wx = wc)
        case first =>
          as_aux_lemma =>
          by_cases k1 : a < r
          · have q1 : (a : Int) < (r : Int) := by omega
            by_cases k2 : r < mid
            · have q2 : (r : Int) < (mid : Int) := by omega
              go_wp2
              go_meet
              exact ⟨true, rfl, (decide_eq_true ⟨k1, k2⟩).symm, rfl⟩
            · have q2 : ¬ (r : Int) < (mid : Int) := by omega
              go_wp2
              go_meet
              exact ⟨false, rfl, (decide_eq_false (fun h => k2 h.2)).symm, rfl⟩
          · have q1 : ¬ (a : Int) < (r : Int) := by omega
            go_wp2
            go_meet
            exact ⟨false, rfl, (decide_eq_false (fun h => k1 h.1)).symm, rfl⟩
        case rest =>
        as_aux_lemma =>
        obtain ⟨bv, rfl, HBV, rfl⟩ := hcut
        go_upto_if 199 with fail
        go_cut [] (fun wx => ∃ d2, Hid (Pl.Mv a mid d1 d2) ∧ Hid (Pl.Srt (Pl.valAt vs) d2 a mid) ∧ Hid (Mm.SepF fp w wx [Mm.tsl Mm.int 3 d2 (.slice (some ⟨g, 0, none⟩) n c) fp]))
        case first =>
          as_aux_lemma =>
          cases bv with
          | true =>
            obtain ⟨k1, k2⟩ := of_decide_eq_true HBV.out.symm
            have CS := IH d1 a r mid wc (by omega) (HC.out.chg HS.out.chg HQ.out.1 HQ.out.2) (HS.out.sl 0 rfl) ⟨⟨k1, k2, by have := HM1.out.len; have := HLN.out; omega, HH.out.l1, HH.out.l2, HH.out.l3⟩, HNU.out⟩
            go_wp2_with (go_at_call 70; (with_reducible refine CS.mono ?_); clear CS; rintro ex w1 ⟨rfl, zs, HZ, hz⟩; (have HS1 := Lib.hid (HS.out.call 0 rfl hz.left)); (have HZ1 := Lib.hid HZ); clear hz HZ)
            go_meet
            exact ⟨zs, HZ1.out.1, HZ1.out.2, HS1.out⟩
          | false =>
            have k := of_decide_eq_false HBV.out.symm
            have k3 : Pl.Srt (Pl.valAt vs) d1 a mid := by
              by_cases k1 : a < r
              · exact HH.out.l1.sub (Nat.le_refl _) (by omega)
              · exact HH.out.l2.sub (by omega) (Nat.le_refl _)
            have HK3 := Lib.hid k3
            clear k3
            go_wp2
            go_meet
            exact ⟨d1, Pl.Mv.refl _ _ _, HK3.out, HS.out⟩
        case rest =>
          as_aux_lemma =>
          clear HS
          obtain ⟨d2, HM2, HR2, HS⟩ := hcut
          go_upto_region 43 with fail
          go_cut [213] (fun t wx => ∃ bv, t = .bool bv ∧ Hid (bv = decide (mid < e ∧ e < b)) ∧ wx = wc)
          case first =>
            as_aux_lemma =>
            by_cases k1 : mid < e
            · have q1 : (mid : Int) < (e : Int) := by omega
              by_cases k2 : e < b
              · have q2 : (e : Int) < (b : Int) := by omega
                go_wp2
                go_meet
                exact ⟨true, rfl, (decide_eq_true ⟨k1, k2⟩).symm, rfl⟩
              · have q2 : ¬ (e : Int) < (b : Int) := by omega
                go_wp2
                go_meet
                exact ⟨false, rfl, (decide_eq_false (fun h => k2 h.2)).symm, rfl⟩
            · have q1 : ¬ (mid : Int) < (e : Int) := by omega
              go_wp2
              go_meet
              exact ⟨false, rfl, (decide_eq_false (fun h => k1 h.1)).symm, rfl⟩
          case rest =>
          as_aux_lemma =>
          obtain ⟨bv, rfl, HBV, rfl⟩ := hcut
          cases bv with
          | true =>
            obtain ⟨k1, k2⟩ := of_decide_eq_true HBV.out.symm
            have CS := IH d2 mid e b wc (by omega) (HC.out.chg HS.out.chg HQ.out.1 HQ.out.2) (HS.out.sl 0 rfl) ⟨⟨k1, k2, by have := HM1.out.len; have := HM2.out.len; have := HLN.out; omega, HH.out.r1.out HM2.out (Nat.le_refl _), HH.out.r2.out HM2.out (by omega), HH.out.r3.out HM2.out (Nat.le_refl _) (by omega)⟩, HNU.out.mv HM2.out⟩
            go_wp2_with (go_at_call 70; (with_reducible refine CS.mono ?_); clear CS; rintro ex w1 ⟨rfl, zs, HZ, hz⟩; (have HS1 := Lib.hid (HS.out.call 0 rfl hz.left)); (have HZ1 := Lib.hid HZ); clear hz HZ)
            go_end0
            have HE := Pl.halves_end HH.out HM2.out HR2.out HZ1.out.1 HZ1.out.2 (by omega) (by omega)
            exact ⟨rfl, zs, ⟨HM1.out.trans HE.1, HE.2⟩, HS1.out⟩
          | false =>
            have k := of_decide_eq_false HBV.out.symm
            have k3 : Pl.Srt (Pl.valAt vs) d1 mid b := by
              by_cases k1 : mid < e
              · exact HH.out.r1.sub (Nat.le_refl _) (by omega)
              · exact HH.out.r2.sub (by omega) (Nat.le_refl _)
            have HE := Lib.hid (Pl.halves_end HH.out HM2.out HR2.out (Pl.Mv.refl _ _ _) (k3.out HM2.out (Nat.le_refl _)) (by omega) (by omega))
            clear k3
            go_wp2
            go_end0
            exact ⟨rfl, d2, ⟨HM1.out.trans HE.out.1, HE.out.2⟩, HS.out⟩
theorem symM_c (vs : List Int) (A' : Option Addr) (n' c' gn B : Nat) (A : Option Addr) (n c : Nat) (fp : List Nat) (hnd : fp.Nodup) (g1 : gn ∉ fp) (g2 : ∀ b, b ∈ fp → B ≤ b) (hn : n ≤ 1000) : ∀ q, SymAt vs A' n' c' gn B A n c fp q := by
  intro q
  induction q with
  | zero =>
    intro d a m b w hq h hs hp
    have := hp.pre.am
    have := hp.pre.mb
    omega
  | succ q IH =>
    intro d a m b w hq h hs hp
    have ham := hp.pre.am
    have hmb := hp.pre.mb
    by_cases hA : m = a + 1
    · exact symA_c vs A' n' c' gn B d A n c fp a m b w h hs hnd g1 g2 hn hp hA
    · by_cases hB : b = m + 1
      · exact symB_c vs A' n' c' gn B d A n c fp a m b w h hs hnd g1 g2 hn hp (by omega) hB
      · by_cases hmm : (a + b) / 2 < m
        · exact symC1_c vs A' n' c' gn B A n c fp hnd g1 g2 hn q IH d a m b w hq h hs hp (by omega) (by omega) _ rfl hmm
        · exact symC2_c vs A' n' c' gn B A n c fp hnd g1 g2 hn q IH d a m b w hq h hs hp (by omega) (by omega) _ rfl hmm
end Go.Proofs.Ytnppcdiicnofpab

/-
  Contract: slices.SortStableFunc at up to forty numbers, by value. No conditions beyond those named.
-/
namespace Go.Proofs.Ytnppcdiicnofpab
open Go.RowKit
attribute [local go_sem] und_cell World.cell?_alloc_some
namespace Pl
theorem Srt.outl {v : Int → Int} {d d' : List Int} {a b lo hi : Nat} (h : Srt v d lo hi) (hm : Mv a b d d') (hb : hi ≤ a) : Srt v d' lo hi := fun i j x y h1 h2 h3 hx hy => by
  rw [hm.out i (.inl (by omega))] at hx
  rw [hm.out j (.inl (by omega))] at hy
  exact h i j x y h1 h2 h3 hx hy
theorem Asc.sub {d : List Int} {a b a' b' : Nat} (h : Asc d a b) (ha : a ≤ a') (hb : b' ≤ b) : Asc d a' b' := fun i j x y h1 h2 h3 hx hy => h i j x y (by omega) h2 (by omega) hx hy
/-- blocks of twenty sorted so far -/
def St (v : Int → Int) (d ys : List Int) (n a : Nat) : Prop :=
  (a = 0 ∧ ys = d) ∨ (a = 20 ∧ 20 ≤ n ∧ Mv 0 20 d ys ∧ Srt v ys 0 20) ∨ (a = 40 ∧ n = 40 ∧ ∃ y1, Mv 0 20 d y1 ∧ Srt v y1 0 20 ∧ Mv 20 40 y1 ys ∧ Srt v ys 20 40)
structure Fin (v : Int → Int) (d zs : List Int) (n : Nat) : Prop where
  mv : Mv 0 n d zs
  s1 : Srt v zs 0 (min 20 n)
  s2 : Srt v zs 20 n
  lf : Lft zs 0 20 n
theorem St.le {v : Int → Int} {d ys : List Int} {n a : Nat} (h : St v d ys n a) : a ≤ n ∧ Mv 0 n d ys := by
  rcases h with ⟨rfl, rfl⟩ | ⟨rfl, h, h1, _⟩ | ⟨rfl, h, y1, h1, _, h2, _⟩
  · exact ⟨Nat.zero_le _, Mv.refl _ _ _⟩
  · exact ⟨h, h1.mono (Nat.le_refl _) h⟩
  · exact ⟨by omega, (h1.mono (Nat.le_refl _) (by omega)).trans (h2.mono (by omega) (by omega))⟩
theorem St.asc {v : Int → Int} {d ys : List Int} {n a b : Nat} (h : St v d ys n a) (hd : Asc d 0 n) (hb : b ≤ n) : Asc ys a b := by
  rcases h with ⟨rfl, rfl⟩ | ⟨rfl, h, h1, _⟩ | ⟨rfl, h, _⟩
  · exact hd.sub (Nat.le_refl _) hb
  · intro i j x y p1 p2 p3 hx hy
    rw [h1.out i (.inr p1)] at hx
    rw [h1.out j (.inr (by omega))] at hy
    exact hd i j x y (by omega) p2 (by omega) hx hy
  · intro i j x y p1 p2 p3
    omega
theorem St.step {v : Int → Int} {d ys zs : List Int} {n a b : Nat} (h : St v d ys n a) (hb : a + 20 = b) (hbn : b ≤ n) (hn : n ≤ 40) (hm : Mv a b ys zs) (hs : Srt v zs a b) : St v d zs n b := by
  subst hb
  rcases h with ⟨rfl, rfl⟩ | ⟨rfl, h, h1, h2⟩ | ⟨rfl, h, _⟩
  · exact .inr (.inl ⟨rfl, by omega, hm, hs⟩)
  · exact .inr (.inr ⟨rfl, by omega, ys, h1, h2, hm, hs⟩)
  · omega
theorem lft_of {d e f : List Int} {n : Nat} (hd : Asc d 0 n) (h1 : Mv 0 20 d e) (h2 : Mv 20 n e f) : Lft f 0 20 n := fun i j x y p1 p2 p3 p4 hx hy => by
  rw [h2.out i (.inl p2)] at hx
  obtain ⟨i', q1, q2, q3⟩ := h1.inn i p1 p2
  obtain ⟨j', r1, r2, r3⟩ := h2.inn j p3 p4
  rw [q3] at hx
  rw [r3, h1.out j' (.inr r1)] at hy
  exact hd i' j' x y (Nat.zero_le _) (by omega) r2 hx hy
theorem St.fin {v : Int → Int} {d ys zs : List Int} {n a : Nat} (h : St v d ys n a) (hb : n < a + 20) (hn : n ≤ 40) (hd : Asc d 0 n) (hm : Mv a n ys zs) (hs : Srt v zs a n) : Fin v d zs n := by
  rcases h with ⟨rfl, rfl⟩ | ⟨rfl, h, h1, h2⟩ | ⟨rfl, rfl, y1, h1, h2, h3, h4⟩
  · exact ⟨hm, hs.sub (Nat.le_refl _) (by omega), fun i j x y p1 p2 p3 => by omega, fun i j x y p1 p2 p3 p4 => by omega⟩
  · exact ⟨(h1.mono (Nat.le_refl _) h).trans (hm.mono (by omega) (Nat.le_refl _)), by rw [Nat.min_eq_left h]; exact h2.outl hm (Nat.le_refl _), hs, lft_of hd h1 hm⟩
  · have he : zs = ys := List.ext_getElem? fun i => hm.out i (by omega)
    subst he
    exact ⟨(h1.mono (Nat.le_refl _) (by omega)).trans (h3.mono (by omega) (Nat.le_refl _)), h2.outl h3 (by omega), h4, lft_of hd h1 h3⟩
theorem Fin.pre {v : Int → Int} {d zs : List Int} {n : Nat} (h : Fin v d zs n) (hn : 20 < n) (hl : d.length = n) : MPre v zs 0 20 n :=
  ⟨by omega, hn, by rw [h.mv.len, hl]; exact Nat.le_refl _, by have := h.s1; rwa [Nat.min_eq_left (by omega)] at this, h.s2, h.lf⟩
theorem Fin.done {v : Int → Int} {d zs : List Int} {n : Nat} (h : Fin v d zs n) (hn : n ≤ 20) : MOut v d zs 0 n := ⟨h.mv, by have := h.s1; rwa [Nat.min_eq_right hn] at this⟩
theorem Fin.more {v : Int → Int} {d zs us : List Int} {n : Nat} (h : Fin v d zs n) (k : MOut v zs us 0 n) : MOut v d us 0 n := ⟨h.mv.trans k.1, k.2⟩
end Pl
set_option maxRecDepth 100000 in
set_option maxHeartbeats 4000000 in
theorem stable_c (vs : List Int) (A' : Option Addr) (n' c' gn B : Nat) (d : List Int) (A : Option Addr) (n c : Nat) (fp : List Nat) (w : World) (h : CapV vs A' n' c' gn B w) (hs : Mm.SlOwn Mm.int 3 w d (.slice A n c) fp) (hnd : fp.Nodup) (g1 : gn ∉ fp) (g2 : ∀ b, b ∈ fp → B ≤ b) (hn : n ≤ 40) (hnum : Pl.NumIn d n') (hasc : Pl.Asc d 0 n) :
    Calls Try.prog 58 #[.slice A n c, .int .i64 n, .func (Fn.func 36) #[] #[.pointer (some ⟨gn, 0, none⟩)]] w fun e w' => e = .returned (.tuple #[]) ∧ ∃ d', Pl.MOut (Pl.valAt vs) d d' 0 n ∧ Mm.SepF fp w w' [Mm.tsl Mm.int 3 d' (.slice A n c) fp] := by
  have HS0 : Hid (Mm.SepF fp w w [Mm.tsl Mm.int 3 d (.slice A n c) fp]) := Mm.SepF.one (Mm.tsl Mm.int 3 d (.slice A n c) fp) w hs hnd
  have HLN : Hid (d.length = n) := by obtain ⟨_, _, _, hv, q1, _⟩ := hs.form; injection hv with _ q2 _; exact (q2.trans q1).symm
  have HC := Lib.hid h
  have HQ := Lib.hid (And.intro g1 g2)
  have HND := Lib.hid hnd
  have HNU := Lib.hid hnum
  have HAS := Lib.hid hasc
  have HIN := fun (ys : List Int) (a b : Nat) (W : World) (hS : Mm.SepF fp w W [Mm.tsl Mm.int 3 ys (.slice A n c) fp]) (h1 : a ≤ b) (h2 : b ≤ n) (h3 : Pl.St (Pl.valAt vs) d ys n a) => insS_c vs A' n' c' gn B ys A n c fp a b W (h.chg hS.chg g1 g2) (hS.sl 0 rfl) hnd g1 g2 (by omega) h1 h2 (hnum.mv h3.le.2) (h3.asc hasc h2)
  have HSY := fun (ys : List Int) (W : World) (hS : Mm.SepF fp w W [Mm.tsl Mm.int 3 ys (.slice A n c) fp]) (h3 : Pl.Fin (Pl.valAt vs) d ys n) (h4 : 20 < n) => symM_c vs A' n' c' gn B A n c fp hnd g1 g2 (by omega) n ys 0 20 n W (by omega) (h.chg hS.chg g1 g2) (hS.sl 0 rfl) ⟨h3.pre h4 HLN.out, hnum.mv h3.mv⟩
  have KIN := Lib.hid HIN
  have KSY := Lib.hid HSY
  clear h hs hnd g1 g2 hnum hasc HIN HSY
  go_enter Try.func58, Try.ntmps58
  go_wp2
  go_loopg [7, 8] n (fun gg s7 s8 wr => ∃ (a b : Nat) (ys : List Int), n - a ≤ gg ∧ a + 20 = b ∧ b ≤ 1000 ∧ s7 = .int .i64 a ∧ s8 = .int .i64 b ∧ Hid (Pl.St (Pl.valAt vs) d ys n a) ∧ Hid (Mm.SepF fp w wr [Mm.tsl Mm.int 3 ys (.slice A n c) fp]))
  case atStart => exact ⟨0, 20, d, Nat.le_refl _, rfl, by omega, rfl, rfl, .inl ⟨rfl, rfl⟩, HS0.out⟩
  case round =>
    clear HS0
    obtain ⟨a, b, ys, hgg, hab, hb1, rfl, rfl, HT, HS⟩ := hrel
    obtain ⟨W, rfl⟩ : ∃ W : World, W = wr := ⟨_, rfl⟩
    by_cases hlt : b ≤ n
    · as_aux_lemma =>
      have CI := KIN.out ys a b W HS.out (by omega) hlt HT.out
      have f1 : (b : Int) ≤ (n : Int) := by omega
      go_wp2_with (go_at_call 69; (with_reducible refine CI.mono ?_); clear CI; rintro ex w1 ⟨rfl, zs, HZ, hz⟩; (have HS1 := Lib.hid (HS.out.call 0 rfl hz.left)); (have HZ1 := Lib.hid HZ); clear hz HZ)
      go_roundg (n - b)
      case measure => omega
      case rel => exact ⟨b, b + 20, zs, Nat.le_refl _, rfl, by omega, rfl, by go_num, HT.out.step hab hlt hn HZ1.out.1 HZ1.out.2, HS1.out⟩
    · as_aux_lemma =>
      have han := HT.out.le.1
      have CI := KIN.out ys a n W HS.out han (Nat.le_refl _) HT.out
      have f1 : ¬ (b : Int) ≤ (n : Int) := by omega
      go_upto_region 7 with (go_at_call 69; (with_reducible refine CI.mono ?_); clear CI; rintro ex w1 ⟨rfl, zs, HZ, hz⟩; (have HS1 := Lib.hid (HS.out.call 0 rfl hz.left)); (have HZ1 := Lib.hid HZ); clear hz HZ)
      have HF := Lib.hid (HT.out.fin (by omega) hn HAS.out HZ1.out.1 HZ1.out.2)
      clear HS HT HZ1 hgg han hlt f1 hb1 hab
      go_loopg [6] 1 (fun gg s6 wr => ∃ (z : Nat) (us : List Int), s6 = .int .i64 z ∧ ((z = 20 ∧ gg = 1 ∧ Hid (Pl.Fin (Pl.valAt vs) d us n)) ∨ (z = 40 ∧ Hid (Pl.MOut (Pl.valAt vs) d us 0 n))) ∧ Hid (Mm.SepF fp w wr [Mm.tsl Mm.int 3 us (.slice A n c) fp]))
      case atStart => exact ⟨20, zs, rfl, .inl ⟨rfl, rfl, HF.out⟩, HS1.out⟩
      case round =>
        clear HF HS1
        obtain ⟨z, us, rfl, hor, HS⟩ := hrel
        obtain ⟨W, rfl⟩ : ∃ W : World, W = wr := ⟨_, rfl⟩
        rcases hor with ⟨rfl, hg1, HF⟩ | ⟨rfl, HF⟩
        · by_cases h20 : 20 < n
          · have f1 : ((20 : Nat) : Int) < (n : Int) := by omega
            have CS := KSY.out us W HS.out HF.out h20
            by_cases h40 : n = 40
            · subst h40
              go_wp2
              go_loopg [7, 8] 1 (fun gi s7 s8 wr => ∃ (xs : List Int), ((s7 = .int .i64 0 ∧ s8 = .int .i64 40 ∧ gi = 1 ∧ wr = W ∧ xs = us) ∨ (s7 = .int .i64 40 ∧ s8 = .int .i64 80 ∧ Hid (Pl.MOut (Pl.valAt vs) us xs 0 40))) ∧ Hid (Mm.SepF fp w wr [Mm.tsl Mm.int 3 xs (.slice A 40 c) fp]))
              case atStart => exact ⟨us, .inl ⟨rfl, rfl, rfl, rfl, rfl⟩, HS.out⟩
              case round =>
                obtain ⟨xs, hor, HS2⟩ := hrel
                rcases hor with ⟨rfl, rfl, hgi, rfl, rfl⟩ | ⟨rfl, rfl, HO⟩
                · go_wp2_with (go_at_call 70; (refine CS.mono ?_); clear CS; rintro ex w2 ⟨rfl, ts, HZ, hz⟩; (have HS3 := Lib.hid (HS2.out.call 0 rfl hz.left)); (have HZ1 := Lib.hid HZ); clear hz HZ)
                  go_roundg 0
                  case measure => omega
                  case rel => exact ⟨ts, .inr ⟨rfl, by go_num, HZ1.out⟩, HS3.out⟩
                · go_wp2
                  go_roundg 0
                  case measure => omega
                  case rel => exact ⟨40, xs, by go_num, .inr ⟨rfl, HF.out.more HO.out⟩, HS2.out⟩
            · have f2 : ¬ ((40 : Int) ≤ (n : Int)) := by omega
              have f3 : ((20 : Int) < (n : Int)) := by omega
              have CS : Calls Try.prog 70 #[.slice A n c, .int .i64 0, .int .i64 20, .int .i64 n, .func (Fn.func 36) #[] #[.pointer (some ⟨gn, 0, none⟩)]] W _ := CS
              go_wp2
              go_loopg [7, 8] 0 (fun gi s7 s8 wr => s7 = .int .i64 0 ∧ s8 = .int .i64 40 ∧ wr = W)
              case atStart => exact ⟨rfl, rfl, rfl⟩
              case round =>
                obtain ⟨rfl, rfl, rfl⟩ := hrel
                go_wp2_with (go_at_call 70; (with_reducible refine CS.mono ?_); clear CS; rintro ex w2 ⟨rfl, ts, HZ, hz⟩; (have HS3 := Lib.hid (HS.out.call 0 rfl hz.left)); (have HZ1 := Lib.hid HZ); clear hz HZ)
                go_roundg 0
                case measure => omega
                case rel => exact ⟨40, ts, by go_num, .inr ⟨rfl, HF.out.more HZ1.out⟩, HS3.out⟩
          · have f1 : ¬ ((20 : Nat) : Int) < (n : Int) := by omega
            have HO := Lib.hid (HF.out.done (by omega))
            go_wp2
            go_end0
            exact ⟨rfl, us, HO.out, HS.out⟩
        · have f1 : ¬ ((40 : Nat) : Int) < (n : Int) := by omega
          go_wp2
          go_end0
          exact ⟨rfl, us, HF.out, HS.out⟩
set_option maxRecDepth 100000 in
theorem sortS_c (vs : List Int) (A' : Option Addr) (n' c' gn B : Nat) (d : List Int) (A : Option Addr) (n c : Nat) (fp : List Nat) (w : World) (h : CapV vs A' n' c' gn B w) (hs : Mm.SlOwn Mm.int 3 w d (.slice A n c) fp) (hnd : fp.Nodup) (g1 : gn ∉ fp) (g2 : ∀ b, b ∈ fp → B ≤ b) (hn : n ≤ 40) (hnum : Pl.NumIn d n') (hasc : Pl.Asc d 0 n) :
    Calls Try.prog 35 #[.slice A n c, .func (Fn.func 36) #[] #[.pointer (some ⟨gn, 0, none⟩)]] w fun e w' => e = .returned (.tuple #[]) ∧ ∃ d', Pl.MOut (Pl.valAt vs) d d' 0 n ∧ Mm.SepF fp w w' [Mm.tsl Mm.int 3 d' (.slice A n c) fp] := by
  have C := stable_c vs A' n' c' gn B d A n c fp w h hs hnd g1 g2 hn hnum hasc
  clear h hs hnd g1 g2 hnum hasc
  go_enter Try.func35, Try.ntmps35
  go_wp2_with (go_at_call 58; (with_reducible refine C.mono ?_); clear C; rintro ex w1 ⟨rfl, zs, HZ, hz⟩; (have HS1 := Lib.hid hz); (have HZ1 := Lib.hid HZ); clear hz HZ)
  go_end0
  exact ⟨rfl, zs, HZ1.out, HS1.out⟩
end Go.Proofs.Ytnppcdiicnofpab

/-
  Contracts: the values of totals. No conditions.
-/
namespace Go.Proofs.Ytnppcdiicnofpab
open Go.RowKit
attribute [local go_sem] und_cell World.cell?_alloc_some
theorem Try.infoVi : (Try.prog.info? 3).map (fun i => (i.zero, i.size, i.bytes)) = some (some (.int .i64 0), 1, 8) := by kernel_rfl
theorem Mm.Acc.ret1 {α : Type} {E : Mm.Rep α} {t : TypeId} {w wr : World} {xs : List α} {A : Option Addr} {n c : Nat} (h : Mm.Acc E t w xs (.slice A n c) wr) : Mm.NewSl E t w xs (.returned (.slice A n c)) wr := by
  obtain ⟨fp, h1, h2, h3, h4⟩ := h
  exact ⟨A, n, c, fp, rfl, h1, h2, h3, h4⟩
set_option maxRecDepth 100000 in
set_option maxHeartbeats 2000000 in
theorem totalValues_c (l : List Total) (op : Int) (A : Option Addr) (n c : Nat) (w : World) (B : Nat) (hl : Mm.SlAt rTotal w B l A n c) (hB : B ≤ w.heap.size) (hop : 1 ≤ op ∧ op ≤ 4) (hn : n ≤ 40) :
    Calls Try.prog 34 #[.slice A n c, .int .i64 op] w (Mm.NewSl Mm.int 3 w (Pl.totalValues l op)) := by
  have hlen : Hid (l.length = n) := hl.1
  have HL := Lib.hid hl
  have hop' : op = 1 ∨ op = 2 ∨ op = 3 ∨ op = 4 := by omega
  have HOP := Lib.hid hop'
  clear hl hop hop'
  obtain ⟨i0, hi, hz0, hz1, hz2⟩ := info_parts Try.infoVi
  go_enter Try.func34, Try.ntmps34
  go_wp2
  go_loopg [5, 10] n (fun g o i wr => ∃ k : Nat, n - k ≤ g ∧ k ≤ n ∧ i = .int .i64 k ∧ Mm.Acc Mm.int 3 w (Pl.totalValues (l.take k) op) o wr)
  case atStart => exact ⟨0, Nat.le_refl _, Nat.zero_le _, rfl, Mm.Acc.nil (Below.refl _ _)⟩
  case round =>
    obtain ⟨k, hgk, hk, rfl, hacc⟩ := hrel
    obtain ⟨W, rfl⟩ : ∃ W : World, W = wr := ⟨_, rfl⟩
    have hbel := hacc.bel
    have hsw := hbel.size
    obtain ⟨A', n', c', rfl, hn', -, -, -⟩ := hacc.form
    have hnk : n' = k := by rw [hn']; unfold Pl.totalValues; rw [List.length_map, List.length_take]; have := hlen.out; omega
    subst hnk
    have HA := Lib.hid hacc
    have HLw := Lib.hid (HL.out.keep fun b hb' => hbel.block b (Nat.lt_of_lt_of_le hb' hB))
    have HNL : Hid (n' = (Pl.totalValues (l.take n') op).length) := hn'
    clear hacc hbel hn'
    by_cases hlt : n' < n
    · obtain ⟨x, b0, off, A1, n1, c1, hx, rfl, hbb, hlx, g1, g2, g3, g4, d0, d1, d2, d3, d4⟩ := rTotal_get HLw.out hlt
      have hlt' : (n' : Int) < (n : Nat) := by omega
      have hlt2 : (0 : Int) ≤ (n' : Nat) := by omega
      have HN : Hid (Pl.totalValues (l.take (n' + 1)) op = Pl.totalValues (l.take n') op ++ [Pl.totVal x op]) := by
        obtain ⟨hk', hg⟩ := List.getElem?_eq_some_iff.1 hx
        show _ = _
        unfold Pl.totalValues
        rw [List.take_succ_eq_append_getElem hk', hg, List.map_append]; rfl
      obtain ⟨xL, xS, xC, xA, xM⟩ := x
      dsimp only at g1 g2 g3 g4 d0 d1 d2 d3 d4
      clear hx hlx
      rcases HOP.out with rfl | rfl | rfl | rfl
      · have HV : Hid (Pl.totVal ⟨xL, xS, xC, xA, xM⟩ 1 = xS) := rfl
        rw [HV.out] at HN
        obtain ⟨l0, ho, hnext⟩ := HA.out.push (W2 := (W.alloc (.cells #[.slice A1 n1 c1, .int .i64 xS, .int .i64 xC, .int .i64 xA, .int .i64 xM] 59)).alloc (.cells #[.int .i64 xS] 3)) (below_new (below_new (Below.refl _ _) _) _) (x := xS) (cx := [.int .i64 xS]) (fx := []) ⟨rfl, g1, rfl⟩ List.nodup_nil (fun b hb => by cases hb)
        rw [← HNL.out] at ho hnext
        have HNX := Lib.hid hnext
        have HO := Lib.hid ho
        clear ho hnext HV
        have hix : ∀ W' : World, (Instr.index 90 (.agg #[.int .i64 xS, .int .i64 xC, .int .i64 xA, .int .i64 xM]) (.int .i64 0)).run Try.prog W' = .ok (.int .i64 xS) W' := fun W' => by kernel_rfl
        go_wp2_with (at_builtin; refine wpList_append_lies _ (by rfl) _ _ _ (by rfl) 0 3 i0 _ 1 8 Try.underlying37 hi hz0 hz1 hz2 rfl (by omega) _ n' l0 (by rfl) HO.out ⟨W.heap.size + 1, 0, none⟩ 1 1 [.int .i64 xS] (by rfl) (by rfl) (World.news_of_block (B := W.heap.size + 1) (cs := #[.int .i64 xS]) (t := 3) (fr := (0, 0)) (Mm.heap_new _ (Mm.sz1 _ _) _)) (by simp [Value.oneCell']) (by omega) (by unfold maxLen; omega) (by omega) (Nat.zero_le _) _ rfl ?_; intro gg cap w2 hown1 hgrow hat hlt9; have HAC := Lib.hid (HNX.out gg cap w2 hown1 hgrow hat); clear hown1 hgrow hat hlt9)
        go_roundg (n - (n' + 1))
        case measure => omega
        case rel => exact ⟨n' + 1, Nat.le_refl _, by omega, by go_num, by rw [HN.out]; exact HAC.out⟩
      · have HV : Hid (Pl.totVal ⟨xL, xS, xC, xA, xM⟩ 2 = xC) := rfl
        rw [HV.out] at HN
        obtain ⟨l0, ho, hnext⟩ := HA.out.push (W2 := (W.alloc (.cells #[.slice A1 n1 c1, .int .i64 xS, .int .i64 xC, .int .i64 xA, .int .i64 xM] 59)).alloc (.cells #[.int .i64 xC] 3)) (below_new (below_new (Below.refl _ _) _) _) (x := xC) (cx := [.int .i64 xC]) (fx := []) ⟨rfl, g2, rfl⟩ List.nodup_nil (fun b hb => by cases hb)
        rw [← HNL.out] at ho hnext
        have HNX := Lib.hid hnext
        have HO := Lib.hid ho
        clear ho hnext HV
        have hix : ∀ W' : World, (Instr.index 90 (.agg #[.int .i64 xS, .int .i64 xC, .int .i64 xA, .int .i64 xM]) (.int .i64 1)).run Try.prog W' = .ok (.int .i64 xC) W' := fun W' => by kernel_rfl
        go_wp2_with (at_builtin; refine wpList_append_lies _ (by rfl) _ _ _ (by rfl) 0 3 i0 _ 1 8 Try.underlying37 hi hz0 hz1 hz2 rfl (by omega) _ n' l0 (by rfl) HO.out ⟨W.heap.size + 1, 0, none⟩ 1 1 [.int .i64 xC] (by rfl) (by rfl) (World.news_of_block (B := W.heap.size + 1) (cs := #[.int .i64 xC]) (t := 3) (fr := (0, 0)) (Mm.heap_new _ (Mm.sz1 _ _) _)) (by simp [Value.oneCell']) (by omega) (by unfold maxLen; omega) (by omega) (Nat.zero_le _) _ rfl ?_; intro gg cap w2 hown1 hgrow hat hlt9; have HAC := Lib.hid (HNX.out gg cap w2 hown1 hgrow hat); clear hown1 hgrow hat hlt9)
        go_roundg (n - (n' + 1))
        case measure => omega
        case rel => exact ⟨n' + 1, Nat.le_refl _, by omega, by go_num, by rw [HN.out]; exact HAC.out⟩
      · have HV : Hid (Pl.totVal ⟨xL, xS, xC, xA, xM⟩ 3 = xA) := rfl
        rw [HV.out] at HN
        obtain ⟨l0, ho, hnext⟩ := HA.out.push (W2 := (W.alloc (.cells #[.slice A1 n1 c1, .int .i64 xS, .int .i64 xC, .int .i64 xA, .int .i64 xM] 59)).alloc (.cells #[.int .i64 xA] 3)) (below_new (below_new (Below.refl _ _) _) _) (x := xA) (cx := [.int .i64 xA]) (fx := []) ⟨rfl, g3, rfl⟩ List.nodup_nil (fun b hb => by cases hb)
        rw [← HNL.out] at ho hnext
        have HNX := Lib.hid hnext
        have HO := Lib.hid ho
        clear ho hnext HV
        have hix : ∀ W' : World, (Instr.index 90 (.agg #[.int .i64 xS, .int .i64 xC, .int .i64 xA, .int .i64 xM]) (.int .i64 2)).run Try.prog W' = .ok (.int .i64 xA) W' := fun W' => by kernel_rfl
        go_wp2_with (at_builtin; refine wpList_append_lies _ (by rfl) _ _ _ (by rfl) 0 3 i0 _ 1 8 Try.underlying37 hi hz0 hz1 hz2 rfl (by omega) _ n' l0 (by rfl) HO.out ⟨W.heap.size + 1, 0, none⟩ 1 1 [.int .i64 xA] (by rfl) (by rfl) (World.news_of_block (B := W.heap.size + 1) (cs := #[.int .i64 xA]) (t := 3) (fr := (0, 0)) (Mm.heap_new _ (Mm.sz1 _ _) _)) (by simp [Value.oneCell']) (by omega) (by unfold maxLen; omega) (by omega) (Nat.zero_le _) _ rfl ?_; intro gg cap w2 hown1 hgrow hat hlt9; have HAC := Lib.hid (HNX.out gg cap w2 hown1 hgrow hat); clear hown1 hgrow hat hlt9)
        go_roundg (n - (n' + 1))
        case measure => omega
        case rel => exact ⟨n' + 1, Nat.le_refl _, by omega, by go_num, by rw [HN.out]; exact HAC.out⟩
      · have HV : Hid (Pl.totVal ⟨xL, xS, xC, xA, xM⟩ 4 = xM) := rfl
        rw [HV.out] at HN
        obtain ⟨l0, ho, hnext⟩ := HA.out.push (W2 := (W.alloc (.cells #[.slice A1 n1 c1, .int .i64 xS, .int .i64 xC, .int .i64 xA, .int .i64 xM] 59)).alloc (.cells #[.int .i64 xM] 3)) (below_new (below_new (Below.refl _ _) _) _) (x := xM) (cx := [.int .i64 xM]) (fx := []) ⟨rfl, g4, rfl⟩ List.nodup_nil (fun b hb => by cases hb)
        rw [← HNL.out] at ho hnext
        have HNX := Lib.hid hnext
        have HO := Lib.hid ho
        clear ho hnext HV
        have hix : ∀ W' : World, (Instr.index 90 (.agg #[.int .i64 xS, .int .i64 xC, .int .i64 xA, .int .i64 xM]) (.int .i64 3)).run Try.prog W' = .ok (.int .i64 xM) W' := fun W' => by kernel_rfl
        go_wp2_with (at_builtin; refine wpList_append_lies _ (by rfl) _ _ _ (by rfl) 0 3 i0 _ 1 8 Try.underlying37 hi hz0 hz1 hz2 rfl (by omega) _ n' l0 (by rfl) HO.out ⟨W.heap.size + 1, 0, none⟩ 1 1 [.int .i64 xM] (by rfl) (by rfl) (World.news_of_block (B := W.heap.size + 1) (cs := #[.int .i64 xM]) (t := 3) (fr := (0, 0)) (Mm.heap_new _ (Mm.sz1 _ _) _)) (by simp [Value.oneCell']) (by omega) (by unfold maxLen; omega) (by omega) (Nat.zero_le _) _ rfl ?_; intro gg cap w2 hown1 hgrow hat hlt9; have HAC := Lib.hid (HNX.out gg cap w2 hown1 hgrow hat); clear hown1 hgrow hat hlt9)
        go_roundg (n - (n' + 1))
        case measure => omega
        case rel => exact ⟨n' + 1, Nat.le_refl _, by omega, by go_num, by rw [HN.out]; exact HAC.out⟩
    · obtain rfl : n' = n := by omega
      have HT : Hid (l.take n' = l) := List.take_of_length_le (by rw [hlen.out]; exact Nat.le_refl _)
      have hlt' : ¬ (n' : Int) < (n' : Nat) := by omega
      have HR := Lib.hid HA.out.ret1
      rw [HT.out] at HR
      go_wp2
      go_ret
      exact HR.out
set_option maxRecDepth 100000 in
set_option maxHeartbeats 2000000 in
theorem l14Values_c (l : List Total) (op : Int) (A : Option Addr) (n c : Nat) (w : World) (B : Nat) (hl : Mm.SlAt rTotal w B l A n c) (hB : B ≤ w.heap.size) (hop : 1 ≤ op ∧ op ≤ 4) (hn : n ≤ 40) :
    Calls Try.prog 38 #[.slice A n c, .int .i64 op] w (Mm.NewSl Mm.int 3 w (Pl.totalValues l op)) := by
  have hlen : Hid (l.length = n) := hl.1
  have HL := Lib.hid hl
  have hop' : op = 1 ∨ op = 2 ∨ op = 3 ∨ op = 4 := by omega
  have HOP := Lib.hid hop'
  clear hl hop hop'
  obtain ⟨i0, hi, hz0, hz1, hz2⟩ := info_parts Try.infoVi
  go_enter Try.func38, Try.ntmps38
  go_wp2
  go_loopg [5, 11] n (fun g o i wr => ∃ k : Nat, n - k ≤ g ∧ k ≤ n ∧ i = .int .i64 k ∧ Mm.Acc Mm.int 3 w (Pl.totalValues (l.take k) op) o wr)
  case atStart => exact ⟨0, Nat.le_refl _, Nat.zero_le _, rfl, Mm.Acc.nil (Below.refl _ _)⟩
  case round =>
    obtain ⟨k, hgk, hk, rfl, hacc⟩ := hrel
    obtain ⟨W, rfl⟩ : ∃ W : World, W = wr := ⟨_, rfl⟩
    have hbel := hacc.bel
    have hsw := hbel.size
    obtain ⟨A', n', c', rfl, hn', -, -, -⟩ := hacc.form
    have hnk : n' = k := by rw [hn']; unfold Pl.totalValues; rw [List.length_map, List.length_take]; have := hlen.out; omega
    subst hnk
    have HA := Lib.hid hacc
    have HLw := Lib.hid (HL.out.keep fun b hb' => hbel.block b (Nat.lt_of_lt_of_le hb' hB))
    have HNL : Hid (n' = (Pl.totalValues (l.take n') op).length) := hn'
    clear hacc hbel hn'
    by_cases hlt : n' < n
    · obtain ⟨x, b0, off, A1, n1, c1, hx, rfl, hbb, hlx, g1, g2, g3, g4, d0, d1, d2, d3, d4⟩ := rTotal_get HLw.out hlt
      have hlt' : (n' : Int) < (n : Nat) := by omega
      have hlt2 : (0 : Int) ≤ (n' : Nat) := by omega
      have HN : Hid (Pl.totalValues (l.take (n' + 1)) op = Pl.totalValues (l.take n') op ++ [Pl.totVal x op]) := by
        obtain ⟨hk', hg⟩ := List.getElem?_eq_some_iff.1 hx
        show _ = _
        unfold Pl.totalValues
        rw [List.take_succ_eq_append_getElem hk', hg, List.map_append]; rfl
      obtain ⟨xL, xS, xC, xA, xM⟩ := x
      dsimp only at g1 g2 g3 g4 d0 d1 d2 d3 d4
      clear hx hlx
      rcases HOP.out with rfl | rfl | rfl | rfl
      · have HV : Hid (Pl.totVal ⟨xL, xS, xC, xA, xM⟩ 1 = xS) := rfl
        rw [HV.out] at HN
        obtain ⟨l0, ho, hnext⟩ := HA.out.push (W2 := (W.alloc (.cells #[.slice A1 n1 c1, .int .i64 xS, .int .i64 xC, .int .i64 xA, .int .i64 xM] 59)).alloc (.cells #[.int .i64 xS] 3)) (below_new (below_new (Below.refl _ _) _) _) (x := xS) (cx := [.int .i64 xS]) (fx := []) ⟨rfl, g1, rfl⟩ List.nodup_nil (fun b hb => by cases hb)
        rw [← HNL.out] at ho hnext
        have HNX := Lib.hid hnext
        have HO := Lib.hid ho
        clear ho hnext HV
        have hix : ∀ W' : World, (Instr.index 90 (.agg #[.int .i64 xS, .int .i64 xC, .int .i64 xA, .int .i64 xM]) (.int .i64 0)).run Try.prog W' = .ok (.int .i64 xS) W' := fun W' => by kernel_rfl
        go_wp2_with (at_builtin; refine wpList_append_lies _ (by rfl) _ _ _ (by rfl) 0 3 i0 _ 1 8 Try.underlying37 hi hz0 hz1 hz2 rfl (by omega) _ n' l0 (by rfl) HO.out ⟨W.heap.size + 1, 0, none⟩ 1 1 [.int .i64 xS] (by rfl) (by rfl) (World.news_of_block (B := W.heap.size + 1) (cs := #[.int .i64 xS]) (t := 3) (fr := (0, 0)) (Mm.heap_new _ (Mm.sz1 _ _) _)) (by simp [Value.oneCell']) (by omega) (by unfold maxLen; omega) (by omega) (Nat.zero_le _) _ rfl ?_; intro gg cap w2 hown1 hgrow hat hlt9; have HAC := Lib.hid (HNX.out gg cap w2 hown1 hgrow hat); clear hown1 hgrow hat hlt9)
        go_roundg (n - (n' + 1))
        case measure => omega
        case rel => exact ⟨n' + 1, Nat.le_refl _, by omega, by go_num, by rw [HN.out]; exact HAC.out⟩
      · have HV : Hid (Pl.totVal ⟨xL, xS, xC, xA, xM⟩ 2 = xC) := rfl
        rw [HV.out] at HN
        obtain ⟨l0, ho, hnext⟩ := HA.out.push (W2 := (W.alloc (.cells #[.slice A1 n1 c1, .int .i64 xS, .int .i64 xC, .int .i64 xA, .int .i64 xM] 59)).alloc (.cells #[.int .i64 xC] 3)) (below_new (below_new (Below.refl _ _) _) _) (x := xC) (cx := [.int .i64 xC]) (fx := []) ⟨rfl, g2, rfl⟩ List.nodup_nil (fun b hb => by cases hb)
        rw [← HNL.out] at ho hnext
        have HNX := Lib.hid hnext
        have HO := Lib.hid ho
        clear ho hnext HV
        have hix : ∀ W' : World, (Instr.index 90 (.agg #[.int .i64 xS, .int .i64 xC, .int .i64 xA, .int .i64 xM]) (.int .i64 1)).run Try.prog W' = .ok (.int .i64 xC) W' := fun W' => by kernel_rfl
        go_wp2_with (at_builtin; refine wpList_append_lies _ (by rfl) _ _ _ (by rfl) 0 3 i0 _ 1 8 Try.underlying37 hi hz0 hz1 hz2 rfl (by omega) _ n' l0 (by rfl) HO.out ⟨W.heap.size + 1, 0, none⟩ 1 1 [.int .i64 xC] (by rfl) (by rfl) (World.news_of_block (B := W.heap.size + 1) (cs := #[.int .i64 xC]) (t := 3) (fr := (0, 0)) (Mm.heap_new _ (Mm.sz1 _ _) _)) (by simp [Value.oneCell']) (by omega) (by unfold maxLen; omega) (by omega) (Nat.zero_le _) _ rfl ?_; intro gg cap w2 hown1 hgrow hat hlt9; have HAC := Lib.hid (HNX.out gg cap w2 hown1 hgrow hat); clear hown1 hgrow hat hlt9)
        go_roundg (n - (n' + 1))
        case measure => omega
        case rel => exact ⟨n' + 1, Nat.le_refl _, by omega, by go_num, by rw [HN.out]; exact HAC.out⟩
      · have HV : Hid (Pl.totVal ⟨xL, xS, xC, xA, xM⟩ 3 = xA) := rfl
        rw [HV.out] at HN
        obtain ⟨l0, ho, hnext⟩ := HA.out.push (W2 := (W.alloc (.cells #[.slice A1 n1 c1, .int .i64 xS, .int .i64 xC, .int .i64 xA, .int .i64 xM] 59)).alloc (.cells #[.int .i64 xA] 3)) (below_new (below_new (Below.refl _ _) _) _) (x := xA) (cx := [.int .i64 xA]) (fx := []) ⟨rfl, g3, rfl⟩ List.nodup_nil (fun b hb => by cases hb)
        rw [← HNL.out] at ho hnext
        have HNX := Lib.hid hnext
        have HO := Lib.hid ho
        clear ho hnext HV
        have hix : ∀ W' : World, (Instr.index 90 (.agg #[.int .i64 xS, .int .i64 xC, .int .i64 xA, .int .i64 xM]) (.int .i64 2)).run Try.prog W' = .ok (.int .i64 xA) W' := fun W' => by kernel_rfl
        go_wp2_with (at_builtin; refine wpList_append_lies _ (by rfl) _ _ _ (by rfl) 0 3 i0 _ 1 8 Try.underlying37 hi hz0 hz1 hz2 rfl (by omega) _ n' l0 (by rfl) HO.out ⟨W.heap.size + 1, 0, none⟩ 1 1 [.int .i64 xA] (by rfl) (by rfl) (World.news_of_block (B := W.heap.size + 1) (cs := #[.int .i64 xA]) (t := 3) (fr := (0, 0)) (Mm.heap_new _ (Mm.sz1 _ _) _)) (by simp [Value.oneCell']) (by omega) (by unfold maxLen; omega) (by omega) (Nat.zero_le _) _ rfl ?_; intro gg cap w2 hown1 hgrow hat hlt9; have HAC := Lib.hid (HNX.out gg cap w2 hown1 hgrow hat); clear hown1 hgrow hat hlt9)
        go_roundg (n - (n' + 1))
        case measure => omega
        case rel => exact ⟨n' + 1, Nat.le_refl _, by omega, by go_num, by rw [HN.out]; exact HAC.out⟩
      · have HV : Hid (Pl.totVal ⟨xL, xS, xC, xA, xM⟩ 4 = xM) := rfl
        rw [HV.out] at HN
        obtain ⟨l0, ho, hnext⟩ := HA.out.push (W2 := (W.alloc (.cells #[.slice A1 n1 c1, .int .i64 xS, .int .i64 xC, .int .i64 xA, .int .i64 xM] 59)).alloc (.cells #[.int .i64 xM] 3)) (below_new (below_new (Below.refl _ _) _) _) (x := xM) (cx := [.int .i64 xM]) (fx := []) ⟨rfl, g4, rfl⟩ List.nodup_nil (fun b hb => by cases hb)
        rw [← HNL.out] at ho hnext
        have HNX := Lib.hid hnext
        have HO := Lib.hid ho
        clear ho hnext HV
        have hix : ∀ W' : World, (Instr.index 90 (.agg #[.int .i64 xS, .int .i64 xC, .int .i64 xA, .int .i64 xM]) (.int .i64 3)).run Try.prog W' = .ok (.int .i64 xM) W' := fun W' => by kernel_rfl
        go_wp2_with (at_builtin; refine wpList_append_lies _ (by rfl) _ _ _ (by rfl) 0 3 i0 _ 1 8 Try.underlying37 hi hz0 hz1 hz2 rfl (by omega) _ n' l0 (by rfl) HO.out ⟨W.heap.size + 1, 0, none⟩ 1 1 [.int .i64 xM] (by rfl) (by rfl) (World.news_of_block (B := W.heap.size + 1) (cs := #[.int .i64 xM]) (t := 3) (fr := (0, 0)) (Mm.heap_new _ (Mm.sz1 _ _) _)) (by simp [Value.oneCell']) (by omega) (by unfold maxLen; omega) (by omega) (Nat.zero_le _) _ rfl ?_; intro gg cap w2 hown1 hgrow hat hlt9; have HAC := Lib.hid (HNX.out gg cap w2 hown1 hgrow hat); clear hown1 hgrow hat hlt9)
        go_roundg (n - (n' + 1))
        case measure => omega
        case rel => exact ⟨n' + 1, Nat.le_refl _, by omega, by go_num, by rw [HN.out]; exact HAC.out⟩
    · obtain rfl : n' = n := by omega
      have HT : Hid (l.take n' = l) := List.take_of_length_le (by rw [hlen.out]; exact Nat.le_refl _)
      have hlt' : ¬ (n' : Int) < (n' : Nat) := by omega
      have HR := Lib.hid HA.out.ret1
      rw [HT.out] at HR
      go_wp2
      go_ret
      exact HR.out
set_option maxRecDepth 100000 in
theorem implValuesOf_c (l : List Total) (A : Option Addr) (n c : Nat) (op : Int) (w : World) (B : Nat) (hl : Mm.SlAt rTotal w B l A n c) (hB : B ≤ w.heap.size) :
    Calls Try.prog 15 #[.slice A n c, .int .i64 op] w (Mm.RetS2 Mm.int 3 w (Pl.valuesOf l op).1 (Pl.valuesOf l op).2) := by
  have hlen : Hid (l.length = n) := hl.1
  have HL := Lib.hid hl
  clear hl
  cases hc : Pl.totalsOk l
  · have HF : Hid (Pl.valuesOf l op = ([], false)) := if_neg (by rw [hc]; simp)
    go_enter Try.func15, Try.ntmps15
    go_wp2_with (go_at_call 26; refine (areTotals_c l _ _ _ _ B HL.out hB).mono ?_; rintro e w1 ⟨rfl, hb1⟩)
    rw [HF.out]
    go_ret2
    exact (Mm.Acc.nil hb1).ret
  cases hp : Pl.isIn op 1 4
  · have HF : Hid (Pl.valuesOf l op = ([], false)) := if_neg (by rw [hp]; simp)
    go_enter Try.func15, Try.ntmps15
    go_wp2_with first
      | (go_at_call 26; refine (areTotals_c l _ _ _ _ B HL.out hB).mono ?_; rintro e w1 ⟨rfl, hb1⟩)
      | (go_at_call 33; refine (within_c _ _ _ _).mono ?_; rintro e w2 ⟨rfl, rfl⟩)
    rw [HF.out]
    go_ret2
    exact (Mm.Acc.nil hb1).ret
  have HF : Hid (Pl.valuesOf l op = (Pl.totalValues l op, true)) := if_pos (by rw [hc, hp]; rfl)
  have hpb := Pl.isIn_iff.1 hp
  have hn : n ≤ 40 := by have := Pl.totalsOk_len hc; have := hlen.out; omega
  rw [HF.out]
  go_enter Try.func15, Try.ntmps15
  go_wp2_with first
    | (go_at_call 26; refine (areTotals_c l _ _ _ _ B HL.out hB).mono ?_; rintro e w1 ⟨rfl, hb1⟩)
    | (go_at_call 33; refine (within_c _ _ _ _).mono ?_; rintro e w2 ⟨rfl, rfl⟩)
    | (go_at_call 34; refine (totalValues_c l op _ _ _ _ B (HL.out.keep fun b hb' => hb1.block b (Nat.lt_of_lt_of_le hb' hB)) (Nat.le_trans hB hb1.size) hpb hn).mono ?_; rintro e w3 ⟨A3, n3, c3, f3, rfl, k1, k2, k3, k4⟩)
  go_ret2
  exact ⟨A3, n3, c3, f3, rfl, k1, k2, fun b hb => Nat.le_trans hb1.size (k3 b hb), below_step hb1 k4⟩
set_option maxRecDepth 100000 in
theorem specValuesOf_c (l : List Total) (A : Option Addr) (n c : Nat) (op : Int) (w : World) (B : Nat) (hl : Mm.SlAt rTotal w B l A n c) (hB : B ≤ w.heap.size) :
    Calls Try.prog 16 #[.slice A n c, .int .i64 op] w (Mm.RetS2 Mm.int 3 w (Pl.valuesOf l op).1 (Pl.valuesOf l op).2) := by
  have hlen : Hid (l.length = n) := hl.1
  have HL := Lib.hid hl
  clear hl
  cases hc : Pl.totalsOk l
  · have HF : Hid (Pl.valuesOf l op = ([], false)) := if_neg (by rw [hc]; simp)
    go_enter Try.func16, Try.ntmps16
    go_wp2_with (go_at_call 19; refine (GoodTotals_c l _ _ _ _ B HL.out hB).mono ?_; rintro e w1 ⟨rfl, hb1⟩)
    rw [HF.out]
    go_ret2
    exact (Mm.Acc.nil hb1).ret
  cases hp : Pl.isIn op 1 4
  · have HF : Hid (Pl.valuesOf l op = ([], false)) := if_neg (by rw [hp]; simp)
    go_enter Try.func16, Try.ntmps16
    go_wp2_with first
      | (go_at_call 19; refine (GoodTotals_c l _ _ _ _ B HL.out hB).mono ?_; rintro e w1 ⟨rfl, hb1⟩)
      | (go_at_call 37; refine (l1In_c _ _ _ _).mono ?_; rintro e w2 ⟨rfl, rfl⟩)
    rw [HF.out]
    go_ret2
    exact (Mm.Acc.nil hb1).ret
  have HF : Hid (Pl.valuesOf l op = (Pl.totalValues l op, true)) := if_pos (by rw [hc, hp]; rfl)
  have hpb := Pl.isIn_iff.1 hp
  have hn : n ≤ 40 := by have := Pl.totalsOk_len hc; have := hlen.out; omega
  rw [HF.out]
  go_enter Try.func16, Try.ntmps16
  go_wp2_with first
    | (go_at_call 19; refine (GoodTotals_c l _ _ _ _ B HL.out hB).mono ?_; rintro e w1 ⟨rfl, hb1⟩)
    | (go_at_call 37; refine (l1In_c _ _ _ _).mono ?_; rintro e w2 ⟨rfl, rfl⟩)
    | (go_at_call 38; refine (l14Values_c l op _ _ _ _ B (HL.out.keep fun b hb' => hb1.block b (Nat.lt_of_lt_of_le hb' hB)) (Nat.le_trans hB hb1.size) hpb hn).mono ?_; rintro e w3 ⟨A3, n3, c3, f3, rfl, k1, k2, k3, k4⟩)
  go_ret2
  exact ⟨A3, n3, c3, f3, rfl, k1, k2, fun b hb => Nat.le_trans hb1.size (k3 b hb), below_step hb1 k4⟩
end Go.Proofs.Ytnppcdiicnofpab
