/-
  Joined texts, in build order: D0, D1, D2, D3, D4, D5, Hd, Cm. Each part says what it proves; no conditions beyond those that a part names.
-/
import Derived.Test.YtpmeagchkcffoaaZ02
import Derived.Test.YtpmeagchkcffoaaZ04
import Derived.Test.YtpmeagchkcffoaaZ05
import Derived.Test.YtpmeagchkcffoaaZ06
import Derived.Lib.AppendZeros
/-
  Plain: sums; what a snapshot's bank keeps (Chandy and Lamport): the coins of the picture and those on their way to it are all the coins. No program in sight. No conditions.
-/
namespace Go.Proofs.Ytpmeagchkcffoaa
open Go.RowKit
namespace Pl
def S : Nat → (Nat → Int) → Int
  | 0, _ => 0
  | n + 1, g => S n g + g n
theorem S_congr {g h : Nat → Int} : ∀ {n : Nat}, (∀ i, i < n → g i = h i) → S n g = S n h
  | 0, _ => rfl
  | n + 1, e => by
    show S n g + g n = S n h + h n
    rw [S_congr (n := n) (fun i hi => e i (by omega)), e n (by omega)]
theorem S_upd {g h : Nat → Int} {p : Nat} : ∀ {n : Nat}, p < n → (∀ i, i < n → i ≠ p → g i = h i) → S n g = S n h + (g p - h p)
  | 0, hp, _ => by omega
  | n + 1, hp, e => by
    show S n g + g n = S n h + h n + (g p - h p)
    by_cases hpn : p = n
    · subst hpn
      rw [S_congr (n := p) (g := g) (h := h) (fun i hi => e i (by omega) (by omega))]
      omega
    · rw [S_upd (n := n) (by omega) (fun i hi hne => e i (by omega) hne), e n (by omega) (Ne.symm hpn)]
      omega
theorem S_nn {g : Nat → Int} : ∀ {n : Nat}, (∀ i, i < n → 0 ≤ g i) → 0 ≤ S n g
  | 0, _ => Int.le_refl _
  | n + 1, e => by
    have h1 := S_nn (n := n) (fun i hi => e i (by omega))
    have h2 := e n (by omega)
    show 0 ≤ S n g + g n
    omega
theorem S_ge {g : Nat → Int} {p : Nat} : ∀ {n : Nat}, p < n → (∀ i, i < n → 0 ≤ g i) → g p ≤ S n g
  | 0, hp, _ => by omega
  | n + 1, hp, e => by
    show g p ≤ S n g + g n
    have h2 := e n (by omega)
    by_cases hpn : p = n
    · subst hpn
      have h1 := S_nn (n := p) (fun i hi => e i (by omega))
      omega
    · have h1 := S_ge (n := n) (p := p) (by omega) (fun i hi => e i (by omega))
      omega
theorem S_le {g : Nat → Int} {c : Int} : ∀ {n : Nat}, (∀ i, i < n → g i ≤ c) → S n g ≤ c * n
  | 0, _ => by simp [S]
  | n + 1, e => by
    have h1 := S_le (n := n) (fun i hi => e i (by omega))
    have h2 := e n (by omega)
    show S n g + g n ≤ c * ((n + 1 : Nat) : Int)
    have : c * ((n + 1 : Nat) : Int) = c * (n : Int) + c := by push_cast; rw [Int.mul_add, Int.mul_one]
    omega
theorem S_zero : ∀ n : Nat, S n (fun _ => 0) = 0
  | 0 => rfl
  | n + 1 => by show S n _ + 0 = 0; rw [S_zero n]; rfl
def S2 (n : Nat) (g : Nat → Nat → Int) : Int := S n fun f => S n (g f)
theorem S2_congr {n : Nat} {g h : Nat → Nat → Int} (e : ∀ f t, f < n → t < n → g f t = h f t) : S2 n g = S2 n h := S_congr fun f hf => S_congr fun t ht => e f t hf ht
theorem S2_upd {n f t : Nat} {g h : Nat → Nat → Int} (hf : f < n) (ht : t < n) (e : ∀ a b, a < n → b < n → ¬ (a = f ∧ b = t) → g a b = h a b) : S2 n g = S2 n h + (g f t - h f t) := by
  unfold S2
  rw [S_upd (n := n) (p := f) (g := fun f => S n (g f)) (h := fun f => S n (h f)) hf (fun i hi hne => S_congr fun j hj => e i j hi hj (fun hh => hne hh.1))]
  have := S_upd (n := n) (p := t) (g := g f) (h := h f) ht (fun i hi hne => e f i hf hi (fun hh => hne hh.2))
  omega
theorem S2_nn {n : Nat} {g : Nat → Nat → Int} (e : ∀ f t, f < n → t < n → 0 ≤ g f t) : 0 ≤ S2 n g := S_nn fun f hf => S_nn fun t ht => e f t hf ht
theorem S2_ge {n f t : Nat} {g : Nat → Nat → Int} (hf : f < n) (ht : t < n) (e : ∀ f t, f < n → t < n → 0 ≤ g f t) : g f t ≤ S2 n g :=
  Int.le_trans (S_ge (g := g f) ht (fun i hi => e f i hf hi)) (S_ge (g := fun f => S n (g f)) hf (fun i hi => S_nn fun j hj => e i j hi hj))
def lsum : List Int → Int
  | [] => 0
  | x :: r => x + lsum r
def zs : List Int → Nat
  | [] => 0
  | x :: r => (if x = 0 then 1 else 0) + zs r
def pre : List Int → Int
  | [] => 0
  | x :: r => if x = 0 then 0 else x + pre r
theorem lsum_append : ∀ a b : List Int, lsum (a ++ b) = lsum a + lsum b
  | [], b => by simp [lsum]
  | x :: a, b => by show x + lsum (a ++ b) = x + lsum a + lsum b; rw [lsum_append a b]; omega
theorem zs_append : ∀ a b : List Int, zs (a ++ b) = zs a + zs b
  | [], b => by simp [zs]
  | x :: a, b => by show _ + zs (a ++ b) = _ + zs a + zs b; rw [zs_append a b]; omega
theorem pre_zs0 : ∀ {a : List Int}, zs a = 0 → pre a = lsum a
  | [], _ => rfl
  | x :: a, h => by
    unfold zs at h
    have hx : ¬ x = 0 := fun hh => by rw [if_pos hh] at h; omega
    rw [if_neg hx] at h
    show (if x = 0 then 0 else x + pre a) = x + lsum a
    rw [if_neg hx, pre_zs0 (by omega)]
theorem pre_app : ∀ {a b : List Int}, zs a = 0 → pre (a ++ b) = lsum a + pre b
  | [], b, _ => by show pre b = 0 + pre b; omega
  | x :: a, b, h => by
    unfold zs at h
    have hx : ¬ x = 0 := fun hh => by rw [if_pos hh] at h; omega
    rw [if_neg hx] at h
    show (if x = 0 then 0 else x + pre (a ++ b)) = x + lsum a + pre b
    rw [if_neg hx, pre_app (by omega)]
    omega
theorem pre_more : ∀ {a : List Int} (b : List Int), zs a ≠ 0 → pre (a ++ b) = pre a
  | [], _, h => absurd rfl h
  | x :: a, b, h => by
    show (if x = 0 then 0 else x + pre (a ++ b)) = if x = 0 then 0 else x + pre a
    by_cases hx : x = 0
    · rw [if_pos hx, if_pos hx]
    · unfold zs at h
      rw [if_neg hx] at h
      rw [if_neg hx, if_neg hx, pre_more b (by omega)]
theorem lsum_nn : ∀ {a : List Int}, (∀ x, x ∈ a → 0 ≤ x) → 0 ≤ lsum a
  | [], _ => Int.le_refl _
  | x :: a, h => by
    have h1 := lsum_nn (fun y hy => h y (List.mem_cons_of_mem _ hy))
    have h2 := h x List.mem_cons_self
    show 0 ≤ x + lsum a
    omega
theorem pre_nn : ∀ {a : List Int}, (∀ x, x ∈ a → 0 ≤ x) → 0 ≤ pre a
  | [], _ => Int.le_refl _
  | x :: a, h => by
    have h1 := pre_nn (fun y hy => h y (List.mem_cons_of_mem _ hy))
    have h2 := h x List.mem_cons_self
    show 0 ≤ if x = 0 then 0 else x + pre a
    split <;> omega
structure V where
  C : Nat → Int
  W : Nat → Nat → List Int
  K : Nat → Int
  H : Nat → Nat → Bool
  F : Nat → Nat → Int
structure JV (n : Nat) (all : Int) (v : V) : Prop where
  cn : ∀ i, i < n → 0 ≤ v.C i
  kn : ∀ i, i < n → -1 ≤ v.K i
  wi : ∀ f t, f < n → t < n → ∀ x, x ∈ v.W f t → 0 ≤ x ∧ x ≤ 50
  fn : ∀ f t, f < n → t < n → 0 ≤ v.F f t
  dg : ∀ i, i < n → v.W i i = [] ∧ v.F i i = 0 ∧ v.H i i = false
  zz : ∀ f t, f < n → t < n → f ≠ t → zs (v.W f t) = if 0 ≤ v.K f ∧ v.H t f = false then 1 else 0
  hh : ∀ f t, f < n → t < n → v.H t f = true → 0 ≤ v.K f ∧ 0 ≤ v.K t
  fd : ∀ f t, f < n → t < n → v.K t < 0 → v.F f t = 0
  l1 : ∀ f t, f < n → t < n → (v.W f t).length ≤ 40
  l2 : ∀ f t, f < n → t < n → v.K f < 0 → (v.W f t).length ≤ 39
  tot : S n v.C + S2 n (fun f t => lsum (v.W f t)) = all
  pic : S n (fun k => if 0 ≤ v.K k then v.K k else v.C k) + S2 n v.F + S2 n (fun f t => if v.H t f = true then 0 else pre (v.W f t)) = all
section
variable {n : Nat} {all : Int} {v v' : V}
theorem JV.give {f t : Nat} {m : Int} (h : JV n all v) (hf : f < n) (ht : t < n) (hft : f ≠ t) (hm : 1 ≤ m ∧ m ≤ 50) (hc : m ≤ v.C f) (hl : (v.W f t).length < 39)
    (eC : ∀ i, i < n → v'.C i = if i = f then v.C f - m else v.C i) (eW : ∀ a b, a < n → b < n → v'.W a b = if a = f ∧ b = t then v.W f t ++ [m] else v.W a b)
    (eK : ∀ i, i < n → v'.K i = v.K i) (eH : ∀ a b, a < n → b < n → v'.H a b = v.H a b) (eF : ∀ a b, a < n → b < n → v'.F a b = v.F a b) : JV n all v' := by
  have hW0 : v'.W f t = v.W f t ++ [m] := by rw [eW f t hf ht, if_pos ⟨rfl, rfl⟩]
  have hW1 : ∀ a b, a < n → b < n → ¬ (a = f ∧ b = t) → v'.W a b = v.W a b := fun a b ha hb hn => by rw [eW a b ha hb, if_neg hn]
  refine ⟨fun i hi => ?_, fun i hi => ?_, fun a b ha hb x hx => ?_, fun a b ha hb => ?_, fun i hi => ?_, fun a b ha hb hab => ?_, fun a b ha hb hh => ?_, fun a b ha hb hk => ?_, fun a b ha hb => ?_, fun a b ha hb hk => ?_, ?_, ?_⟩
  · rw [eC i hi]
    split
    · omega
    · exact h.cn i hi
  · rw [eK i hi]; exact h.kn i hi
  · by_cases hab : a = f ∧ b = t
    · obtain ⟨rfl, rfl⟩ := hab
      rw [hW0] at hx
      rcases List.mem_append.1 hx with hx | hx
      · exact h.wi _ _ ha hb x hx
      · rw [List.mem_singleton.1 hx]; omega
    · rw [hW1 a b ha hb hab] at hx
      exact h.wi _ _ ha hb x hx
  · rw [eF a b ha hb]; exact h.fn a b ha hb
  · rw [hW1 i i hi hi (fun hh => hft (hh.1.symm.trans hh.2)), eF i i hi hi, eH i i hi hi]; exact h.dg i hi
  · have h1 := h.zz a b ha hb hab
    rw [eK a ha, eH b a hb ha]
    by_cases hab' : a = f ∧ b = t
    · obtain ⟨rfl, rfl⟩ := hab'
      rw [hW0, zs_append, show zs [m] = 0 by unfold zs; rw [if_neg (by omega)]; rfl, Nat.add_zero]; exact h1
    · rw [hW1 a b ha hb hab']; exact h1
  · rw [eH b a hb ha] at hh
    rw [eK a ha, eK b hb]
    exact h.hh a b ha hb hh
  · rw [eK b hb] at hk
    rw [eF a b ha hb]
    exact h.fd a b ha hb hk
  · by_cases hab' : a = f ∧ b = t
    · obtain ⟨rfl, rfl⟩ := hab'
      rw [hW0, List.length_append]; simp; omega
    · rw [hW1 a b ha hb hab']; exact h.l1 a b ha hb
  · rw [eK a ha] at hk
    by_cases hab' : a = f ∧ b = t
    · obtain ⟨rfl, rfl⟩ := hab'
      rw [hW0, List.length_append]; simp; omega
    · rw [hW1 a b ha hb hab']; exact h.l2 a b ha hb hk
  · have h1 := S_upd (n := n) (g := v'.C) (h := v.C) hf (fun i hi hne => by rw [eC i hi, if_neg hne])
    have h2 := S2_upd (n := n) (g := fun a b => lsum (v'.W a b)) (h := fun a b => lsum (v.W a b)) hf ht (fun a b ha hb hn => by show lsum _ = lsum _; rw [hW1 a b ha hb hn])
    rw [eC f hf, if_pos rfl] at h1
    rw [hW0, lsum_append, show lsum [m] = m by simp [lsum]] at h2
    have := h.tot
    omega
  · have h1 := S_upd (n := n) (g := fun k => if 0 ≤ v'.K k then v'.K k else v'.C k) (h := fun k => if 0 ≤ v.K k then v.K k else v.C k) hf (fun i hi hne => by show (if _ then _ else _) = if _ then _ else _; rw [eK i hi, eC i hi, if_neg hne])
    have h2 : S2 n v'.F = S2 n v.F := S2_congr eF
    have h3 := S2_upd (n := n) (g := fun a b => if v'.H b a = true then 0 else pre (v'.W a b)) (h := fun a b => if v.H b a = true then 0 else pre (v.W a b)) hf ht (fun a b ha hb hn => by show (if _ then _ else _) = if _ then _ else _; rw [hW1 a b ha hb hn, eH b a hb ha])
    rw [eK f hf, eC f hf, if_pos rfl] at h1
    rw [eH t f ht hf, hW0] at h3
    have h4 := h.zz f t hf ht hft
    have h5 := h.pic
    by_cases hH : v.H t f = true
    · have := (h.hh f t hf ht hH).1
      rw [if_pos hH, if_pos hH] at h3
      rw [if_pos this, if_pos this] at h1
      omega
    · rw [if_neg hH, if_neg hH] at h3
      by_cases hK : 0 ≤ v.K f
      · rw [if_pos hK, if_pos hK] at h1
        rw [if_pos ⟨hK, by simpa using hH⟩] at h4
        rw [pre_more [m] (by omega)] at h3
        omega
      · rw [if_neg hK, if_neg hK] at h1
        rw [if_neg (fun hh => hK hh.1)] at h4
        rw [pre_app h4, pre_zs0 h4, show pre [m] = m by show (if m = 0 then 0 else m + 0) = m; rw [if_neg (by omega)]; omega] at h3
        omega
theorem JV.takeC {f t : Nat} {x : Int} {r : List Int} (h : JV n all v) (hf : f < n) (ht : t < n) (hft : f ≠ t) (hw : v.W f t = x :: r) (hx : 0 < x) (hc : v.K t < 0 ∨ v.H t f = true)
    (eC : ∀ i, i < n → v'.C i = if i = t then v.C t + x else v.C i) (eW : ∀ a b, a < n → b < n → v'.W a b = if a = f ∧ b = t then r else v.W a b)
    (eK : ∀ i, i < n → v'.K i = v.K i) (eH : ∀ a b, a < n → b < n → v'.H a b = v.H a b) (eF : ∀ a b, a < n → b < n → v'.F a b = v.F a b) : JV n all v' := by
  have hW0 : v'.W f t = r := by rw [eW f t hf ht, if_pos ⟨rfl, rfl⟩]
  have hW1 : ∀ a b, a < n → b < n → ¬ (a = f ∧ b = t) → v'.W a b = v.W a b := fun a b ha hb hn => by rw [eW a b ha hb, if_neg hn]
  have hzr : zs r = zs (v.W f t) := by rw [hw]; show zs r = _ + zs r; rw [if_neg (by omega)]; omega
  refine ⟨fun i hi => ?_, fun i hi => ?_, fun a b ha hb y hy => ?_, fun a b ha hb => ?_, fun i hi => ?_, fun a b ha hb hab => ?_, fun a b ha hb hh => ?_, fun a b ha hb hk => ?_, fun a b ha hb => ?_, fun a b ha hb hk => ?_, ?_, ?_⟩
  · rw [eC i hi]
    have := h.cn i hi; have := h.cn t ht
    split <;> omega
  · rw [eK i hi]; exact h.kn i hi
  · by_cases hab : a = f ∧ b = t
    · obtain ⟨rfl, rfl⟩ := hab
      rw [hW0] at hy
      exact h.wi _ _ ha hb y (by rw [hw]; exact List.mem_cons_of_mem _ hy)
    · rw [hW1 a b ha hb hab] at hy
      exact h.wi _ _ ha hb y hy
  · rw [eF a b ha hb]; exact h.fn a b ha hb
  · rw [hW1 i i hi hi (fun hh => hft (hh.1.symm.trans hh.2)), eF i i hi hi, eH i i hi hi]; exact h.dg i hi
  · have h1 := h.zz a b ha hb hab
    rw [eK a ha, eH b a hb ha]
    by_cases hab' : a = f ∧ b = t
    · obtain ⟨rfl, rfl⟩ := hab'
      rw [hW0, hzr]; exact h1
    · rw [hW1 a b ha hb hab']; exact h1
  · rw [eH b a hb ha] at hh
    rw [eK a ha, eK b hb]
    exact h.hh a b ha hb hh
  · rw [eK b hb] at hk
    rw [eF a b ha hb]
    exact h.fd a b ha hb hk
  · by_cases hab' : a = f ∧ b = t
    · obtain ⟨rfl, rfl⟩ := hab'
      have := h.l1 a b ha hb
      rw [hw, List.length_cons] at this
      rw [hW0]; omega
    · rw [hW1 a b ha hb hab']; exact h.l1 a b ha hb
  · rw [eK a ha] at hk
    by_cases hab' : a = f ∧ b = t
    · obtain ⟨rfl, rfl⟩ := hab'
      have := h.l2 a b ha hb hk
      rw [hw, List.length_cons] at this
      rw [hW0]; omega
    · rw [hW1 a b ha hb hab']; exact h.l2 a b ha hb hk
  · have h1 := S_upd (n := n) (g := v'.C) (h := v.C) ht (fun i hi hne => by rw [eC i hi, if_neg hne])
    have h2 := S2_upd (n := n) (g := fun a b => lsum (v'.W a b)) (h := fun a b => lsum (v.W a b)) hf ht (fun a b ha hb hn => by show lsum _ = lsum _; rw [hW1 a b ha hb hn])
    rw [eC t ht, if_pos rfl] at h1
    rw [hW0, hw, show lsum (x :: r) = x + lsum r from rfl] at h2
    have := h.tot
    omega
  · have h1 := S_upd (n := n) (g := fun k => if 0 ≤ v'.K k then v'.K k else v'.C k) (h := fun k => if 0 ≤ v.K k then v.K k else v.C k) ht (fun i hi hne => by show (if _ then _ else _) = if _ then _ else _; rw [eK i hi, eC i hi, if_neg hne])
    have h2 : S2 n v'.F = S2 n v.F := S2_congr eF
    have h3 := S2_upd (n := n) (g := fun a b => if v'.H b a = true then 0 else pre (v'.W a b)) (h := fun a b => if v.H b a = true then 0 else pre (v.W a b)) hf ht (fun a b ha hb hn => by show (if _ then _ else _) = if _ then _ else _; rw [hW1 a b ha hb hn, eH b a hb ha])
    rw [eK t ht, eC t ht, if_pos rfl] at h1
    rw [eH t f ht hf, hW0, hw, show pre (x :: r) = x + pre r from if_neg (by omega)] at h3
    have h5 := h.pic
    by_cases hH : v.H t f = true
    · have := (h.hh f t hf ht hH).2
      rw [if_pos hH, if_pos hH] at h3
      rw [if_pos this, if_pos this] at h1
      omega
    · have hK : ¬ 0 ≤ v.K t := by
        rcases hc with h | h
        · omega
        · exact absurd h hH
      rw [if_neg hH, if_neg hH] at h3
      rw [if_neg hK, if_neg hK] at h1
      omega
theorem JV.takeF {f t : Nat} {x : Int} {r : List Int} (h : JV n all v) (hf : f < n) (ht : t < n) (hft : f ≠ t) (hw : v.W f t = x :: r) (hx : 0 < x) (hK : 0 ≤ v.K t) (hH : v.H t f = false)
    (eC : ∀ i, i < n → v'.C i = if i = t then v.C t + x else v.C i) (eW : ∀ a b, a < n → b < n → v'.W a b = if a = f ∧ b = t then r else v.W a b)
    (eK : ∀ i, i < n → v'.K i = v.K i) (eH : ∀ a b, a < n → b < n → v'.H a b = v.H a b) (eF : ∀ a b, a < n → b < n → v'.F a b = if a = f ∧ b = t then v.F f t + x else v.F a b) : JV n all v' := by
  have hW0 : v'.W f t = r := by rw [eW f t hf ht, if_pos ⟨rfl, rfl⟩]
  have hW1 : ∀ a b, a < n → b < n → ¬ (a = f ∧ b = t) → v'.W a b = v.W a b := fun a b ha hb hn => by rw [eW a b ha hb, if_neg hn]
  have hF0 : v'.F f t = v.F f t + x := by rw [eF f t hf ht, if_pos ⟨rfl, rfl⟩]
  have hF1 : ∀ a b, a < n → b < n → ¬ (a = f ∧ b = t) → v'.F a b = v.F a b := fun a b ha hb hn => by rw [eF a b ha hb, if_neg hn]
  have hzr : zs r = zs (v.W f t) := by rw [hw]; show zs r = _ + zs r; rw [if_neg (by omega)]; omega
  refine ⟨fun i hi => ?_, fun i hi => ?_, fun a b ha hb y hy => ?_, fun a b ha hb => ?_, fun i hi => ?_, fun a b ha hb hab => ?_, fun a b ha hb hh => ?_, fun a b ha hb hk => ?_, fun a b ha hb => ?_, fun a b ha hb hk => ?_, ?_, ?_⟩
  · rw [eC i hi]
    have := h.cn i hi; have := h.cn t ht
    split <;> omega
  · rw [eK i hi]; exact h.kn i hi
  · by_cases hab : a = f ∧ b = t
    · obtain ⟨rfl, rfl⟩ := hab
      rw [hW0] at hy
      exact h.wi _ _ ha hb y (by rw [hw]; exact List.mem_cons_of_mem _ hy)
    · rw [hW1 a b ha hb hab] at hy
      exact h.wi _ _ ha hb y hy
  · rw [eF a b ha hb]
    have := h.fn a b ha hb; have := h.fn f t hf ht
    split <;> omega
  · rw [hW1 i i hi hi (fun hh => hft (hh.1.symm.trans hh.2)), hF1 i i hi hi (fun hh => hft (hh.1.symm.trans hh.2)), eH i i hi hi]; exact h.dg i hi
  · have h1 := h.zz a b ha hb hab
    rw [eK a ha, eH b a hb ha]
    by_cases hab' : a = f ∧ b = t
    · obtain ⟨rfl, rfl⟩ := hab'
      rw [hW0, hzr]; exact h1
    · rw [hW1 a b ha hb hab']; exact h1
  · rw [eH b a hb ha] at hh
    rw [eK a ha, eK b hb]
    exact h.hh a b ha hb hh
  · rw [eK b hb] at hk
    rw [hF1 a b ha hb (fun hh => by rw [hh.2] at hk; omega)]
    exact h.fd a b ha hb hk
  · by_cases hab' : a = f ∧ b = t
    · obtain ⟨rfl, rfl⟩ := hab'
      have := h.l1 a b ha hb
      rw [hw, List.length_cons] at this
      rw [hW0]; omega
    · rw [hW1 a b ha hb hab']; exact h.l1 a b ha hb
  · rw [eK a ha] at hk
    by_cases hab' : a = f ∧ b = t
    · obtain ⟨rfl, rfl⟩ := hab'
      have := h.l2 a b ha hb hk
      rw [hw, List.length_cons] at this
      rw [hW0]; omega
    · rw [hW1 a b ha hb hab']; exact h.l2 a b ha hb hk
  · have h1 := S_upd (n := n) (g := v'.C) (h := v.C) ht (fun i hi hne => by rw [eC i hi, if_neg hne])
    have h2 := S2_upd (n := n) (g := fun a b => lsum (v'.W a b)) (h := fun a b => lsum (v.W a b)) hf ht (fun a b ha hb hn => by show lsum _ = lsum _; rw [hW1 a b ha hb hn])
    rw [eC t ht, if_pos rfl] at h1
    rw [hW0, hw, show lsum (x :: r) = x + lsum r from rfl] at h2
    have := h.tot
    omega
  · have h1 : S n (fun k => if 0 ≤ v'.K k then v'.K k else v'.C k) = S n (fun k => if 0 ≤ v.K k then v.K k else v.C k) := S_congr fun i hi => by
      show (if _ then _ else _) = if _ then _ else _
      rw [eK i hi, eC i hi]
      by_cases hit : i = t
      · subst hit; rw [if_pos hK, if_pos hK]
      · rw [if_neg hit]
    have h2 := S2_upd (n := n) (g := v'.F) (h := v.F) hf ht hF1
    have h3 := S2_upd (n := n) (g := fun a b => if v'.H b a = true then 0 else pre (v'.W a b)) (h := fun a b => if v.H b a = true then 0 else pre (v.W a b)) hf ht (fun a b ha hb hn => by show (if _ then _ else _) = if _ then _ else _; rw [hW1 a b ha hb hn, eH b a hb ha])
    rw [eH t f ht hf, hW0, hw, hH, show pre (x :: r) = x + pre r from if_neg (by omega), if_neg (by simp), if_neg (by simp)] at h3
    rw [hF0] at h2
    have h5 := h.pic
    rw [h1]
    omega
/-- a node records: its markers go out -/
theorem JV.recd {k : Nat} (h : JV n all v) (hk : k < n) (hK : v.K k < 0)
    (eC : ∀ i, i < n → v'.C i = v.C i) (eW : ∀ a b, a < n → b < n → v'.W a b = if a = k ∧ b ≠ k then v.W a b ++ [0] else v.W a b)
    (eK : ∀ i, i < n → v'.K i = if i = k then v.C k else v.K i) (eH : ∀ a b, a < n → b < n → v'.H a b = v.H a b) (eF : ∀ a b, a < n → b < n → v'.F a b = v.F a b) : JV n all v' := by
  have hC := h.cn k hk
  have hHk : ∀ b, b < n → v.H b k = false := fun b hb => by
    cases hb' : v.H b k with
    | false => rfl
    | true => have := (h.hh k b hk hb hb').1; omega
  have hKm : ∀ i, i < n → 0 ≤ v.K i → 0 ≤ v'.K i := fun i hi hh => by rw [eK i hi]; split <;> omega
  refine ⟨fun i hi => by rw [eC i hi]; exact h.cn i hi, fun i hi => ?_, fun a b ha hb x hx => ?_, fun a b ha hb => by rw [eF a b ha hb]; exact h.fn a b ha hb, fun i hi => ?_, fun a b ha hb hab => ?_, fun a b ha hb hh => ?_, fun a b ha hb hk' => ?_, fun a b ha hb => ?_, fun a b ha hb hk' => ?_, ?_, ?_⟩
  · rw [eK i hi]
    have := h.kn i hi
    split <;> omega
  · rw [eW a b ha hb] at hx
    split at hx
    · rcases List.mem_append.1 hx with hx | hx
      · exact h.wi _ _ ha hb x hx
      · rw [List.mem_singleton.1 hx]; omega
    · exact h.wi _ _ ha hb x hx
  · rw [eW i i hi hi, if_neg (fun hh => hh.2 hh.1), eF i i hi hi, eH i i hi hi]; exact h.dg i hi
  · have h1 := h.zz a b ha hb hab
    rw [eK a ha, eH b a hb ha, eW a b ha hb]
    by_cases hak : a = k
    · subst hak
      rw [if_neg (fun hh => by omega)] at h1
      rw [if_pos ⟨rfl, Ne.symm hab⟩, if_pos rfl, zs_append, h1, if_pos ⟨hC, hHk b hb⟩]; rfl
    · rw [if_neg (fun hh => hak hh.1), if_neg hak]; exact h1
  · rw [eH b a hb ha] at hh
    have := h.hh a b ha hb hh
    exact ⟨hKm a ha this.1, hKm b hb this.2⟩
  · rw [eK b hb] at hk'
    rw [eF a b ha hb]
    split at hk'
    · omega
    · exact h.fd a b ha hb hk'
  · rw [eW a b ha hb]
    split
    · rename_i hh
      have := h.l2 a b ha hb (by rw [hh.1]; exact hK)
      rw [List.length_append]; simp; omega
    · exact h.l1 a b ha hb
  · rw [eK a ha] at hk'
    split at hk'
    · omega
    · rename_i hak
      rw [eW a b ha hb, if_neg (fun hh => hak hh.1)]
      exact h.l2 a b ha hb hk'
  · have h1 : S n v'.C = S n v.C := S_congr eC
    have h2 : S2 n (fun a b => lsum (v'.W a b)) = S2 n (fun a b => lsum (v.W a b)) := S2_congr fun a b ha hb => by
      rw [eW a b ha hb]
      split
      · rw [lsum_append]; simp [lsum]
      · rfl
    rw [h1, h2]; exact h.tot
  · have h1 : S n (fun k => if 0 ≤ v'.K k then v'.K k else v'.C k) = S n (fun k => if 0 ≤ v.K k then v.K k else v.C k) := S_congr fun i hi => by
      show (if _ then _ else _) = if _ then _ else _
      rw [eK i hi, eC i hi]
      by_cases hik : i = k
      · subst hik
        rw [if_pos rfl, if_pos hC, if_neg (by omega)]
      · rw [if_neg hik]
    have h2 : S2 n v'.F = S2 n v.F := S2_congr eF
    have h3 : S2 n (fun a b => if v'.H b a = true then 0 else pre (v'.W a b)) = S2 n (fun a b => if v.H b a = true then 0 else pre (v.W a b)) := S2_congr fun a b ha hb => by
      show (if _ then _ else _) = if _ then _ else _
      rw [eH b a hb ha, eW a b ha hb]
      split
      · rfl
      split
      · rename_i hh
        have h1 := h.zz a b ha hb (fun hab => hh.2 (hab ▸ hh.1))
        rw [if_neg (fun hx => by have := hx.1; rw [hh.1] at this; omega)] at h1
        rw [pre_app h1, pre_zs0 h1]
        simp [pre]
      · rfl
    rw [h1, h2, h3]; exact h.pic
/-- a marker comes to a node that has recorded -/
theorem JV.mark {f t : Nat} {r : List Int} (h : JV n all v) (hf : f < n) (ht : t < n) (hft : f ≠ t) (hw : v.W f t = 0 :: r) (hK : 0 ≤ v.K t)
    (eC : ∀ i, i < n → v'.C i = v.C i) (eW : ∀ a b, a < n → b < n → v'.W a b = if a = f ∧ b = t then r else v.W a b)
    (eK : ∀ i, i < n → v'.K i = v.K i) (eH : ∀ a b, a < n → b < n → v'.H a b = if a = t ∧ b = f then true else v.H a b) (eF : ∀ a b, a < n → b < n → v'.F a b = v.F a b) : JV n all v' := by
  have hW0 : v'.W f t = r := by rw [eW f t hf ht, if_pos ⟨rfl, rfl⟩]
  have hW1 : ∀ a b, a < n → b < n → ¬ (a = f ∧ b = t) → v'.W a b = v.W a b := fun a b ha hb hn => by rw [eW a b ha hb, if_neg hn]
  have hH0 : v'.H t f = true := by rw [eH t f ht hf, if_pos ⟨rfl, rfl⟩]
  have hH1 : ∀ a b, a < n → b < n → ¬ (a = f ∧ b = t) → v'.H b a = v.H b a := fun a b ha hb hn => by rw [eH b a hb ha, if_neg (fun hh => hn ⟨hh.2, hh.1⟩)]
  have hz := h.zz f t hf ht hft
  rw [hw, show zs (0 :: r) = 1 + zs r from rfl] at hz
  have hc : 0 ≤ v.K f ∧ v.H t f = false := by
    by_cases hc : 0 ≤ v.K f ∧ v.H t f = false
    · exact hc
    · rw [if_neg hc] at hz; omega
  rw [if_pos hc] at hz
  refine ⟨fun i hi => by rw [eC i hi]; exact h.cn i hi, fun i hi => by rw [eK i hi]; exact h.kn i hi, fun a b ha hb y hy => ?_, fun a b ha hb => by rw [eF a b ha hb]; exact h.fn a b ha hb, fun i hi => ?_, fun a b ha hb hab => ?_, fun a b ha hb hh => ?_, fun a b ha hb hk => ?_, fun a b ha hb => ?_, fun a b ha hb hk => ?_, ?_, ?_⟩
  · by_cases hab : a = f ∧ b = t
    · obtain ⟨rfl, rfl⟩ := hab
      rw [hW0] at hy
      exact h.wi _ _ ha hb y (by rw [hw]; exact List.mem_cons_of_mem _ hy)
    · rw [hW1 a b ha hb hab] at hy
      exact h.wi _ _ ha hb y hy
  · have hn : ¬ (i = f ∧ i = t) := fun hh => hft (hh.1.symm.trans hh.2)
    rw [hW1 i i hi hi hn, hH1 i i hi hi hn, eF i i hi hi]; exact h.dg i hi
  · by_cases hab' : a = f ∧ b = t
    · obtain ⟨rfl, rfl⟩ := hab'
      rw [hW0, hH0, if_neg (fun hh => by cases hh.2)]; omega
    · rw [hW1 a b ha hb hab', hH1 a b ha hb hab', eK a ha]
      exact h.zz a b ha hb hab
  · rw [eK a ha, eK b hb]
    by_cases hab' : a = f ∧ b = t
    · obtain ⟨rfl, rfl⟩ := hab'
      exact ⟨hc.1, hK⟩
    · rw [hH1 a b ha hb hab'] at hh
      exact h.hh a b ha hb hh
  · rw [eK b hb] at hk
    rw [eF a b ha hb]; exact h.fd a b ha hb hk
  · by_cases hab' : a = f ∧ b = t
    · obtain ⟨rfl, rfl⟩ := hab'
      have := h.l1 a b ha hb
      rw [hw, List.length_cons] at this
      rw [hW0]; omega
    · rw [hW1 a b ha hb hab']; exact h.l1 a b ha hb
  · rw [eK a ha] at hk
    by_cases hab' : a = f ∧ b = t
    · obtain ⟨rfl, rfl⟩ := hab'
      have := h.l2 a b ha hb hk
      rw [hw, List.length_cons] at this
      rw [hW0]; omega
    · rw [hW1 a b ha hb hab']; exact h.l2 a b ha hb hk
  · have h1 : S n v'.C = S n v.C := S_congr eC
    have h2 : S2 n (fun a b => lsum (v'.W a b)) = S2 n (fun a b => lsum (v.W a b)) := S2_congr fun a b ha hb => by
      by_cases hab : a = f ∧ b = t
      · obtain ⟨rfl, rfl⟩ := hab
        rw [hW0, hw]; show _ = 0 + lsum r; omega
      · rw [hW1 a b ha hb hab]
    rw [h1, h2]; exact h.tot
  · have h1 : S n (fun k => if 0 ≤ v'.K k then v'.K k else v'.C k) = S n (fun k => if 0 ≤ v.K k then v.K k else v.C k) := S_congr fun i hi => by
      show (if _ then _ else _) = if _ then _ else _
      rw [eK i hi, eC i hi]
    have h2 : S2 n v'.F = S2 n v.F := S2_congr eF
    have h3 : S2 n (fun a b => if v'.H b a = true then 0 else pre (v'.W a b)) = S2 n (fun a b => if v.H b a = true then 0 else pre (v.W a b)) := S2_congr fun a b ha hb => by
      show (if _ then _ else _) = if _ then _ else _
      by_cases hab : a = f ∧ b = t
      · obtain ⟨rfl, rfl⟩ := hab
        rw [hH0, if_pos rfl, hc.2, if_neg (by simp), hw]; rfl
      · rw [hW1 a b ha hb hab, hH1 a b ha hb hab]
    rw [h1, h2, h3]; exact h.pic
theorem JV.congr (h : JV n all v) (eC : ∀ i, i < n → v'.C i = v.C i) (eW : ∀ a b, a < n → b < n → v'.W a b = v.W a b)
    (eK : ∀ i, i < n → v'.K i = v.K i) (eH : ∀ a b, a < n → b < n → v'.H a b = v.H a b) (eF : ∀ a b, a < n → b < n → v'.F a b = v.F a b) : JV n all v' := by
  refine ⟨fun i hi => by rw [eC i hi]; exact h.cn i hi, fun i hi => by rw [eK i hi]; exact h.kn i hi, fun a b ha hb y hy => by rw [eW a b ha hb] at hy; exact h.wi a b ha hb y hy, fun a b ha hb => by rw [eF a b ha hb]; exact h.fn a b ha hb, fun i hi => by rw [eW i i hi hi, eF i i hi hi, eH i i hi hi]; exact h.dg i hi, fun a b ha hb hab => by rw [eW a b ha hb, eK a ha, eH b a hb ha]; exact h.zz a b ha hb hab, fun a b ha hb hh => by rw [eH b a hb ha] at hh; rw [eK a ha, eK b hb]; exact h.hh a b ha hb hh, fun a b ha hb hk => by rw [eK b hb] at hk; rw [eF a b ha hb]; exact h.fd a b ha hb hk, fun a b ha hb => by rw [eW a b ha hb]; exact h.l1 a b ha hb, fun a b ha hb hk => by rw [eK a ha] at hk; rw [eW a b ha hb]; exact h.l2 a b ha hb hk, ?_, ?_⟩
  · have h1 : S n v'.C = S n v.C := S_congr eC
    have h2 : S2 n (fun a b => lsum (v'.W a b)) = S2 n (fun a b => lsum (v.W a b)) := S2_congr fun a b ha hb => by rw [eW a b ha hb]
    rw [h1, h2]; exact h.tot
  · have h1 : S n (fun k => if 0 ≤ v'.K k then v'.K k else v'.C k) = S n (fun k => if 0 ≤ v.K k then v.K k else v.C k) := S_congr fun i hi => by
      show (if _ then _ else _) = if _ then _ else _
      rw [eK i hi, eC i hi]
    have h2 : S2 n v'.F = S2 n v.F := S2_congr eF
    have h3 : S2 n (fun a b => if v'.H b a = true then 0 else pre (v'.W a b)) = S2 n (fun a b => if v.H b a = true then 0 else pre (v.W a b)) := S2_congr fun a b ha hb => by
      show (if _ then _ else _) = if _ then _ else _
      rw [eW a b ha hb, eH b a hb ha]
    rw [h1, h2, h3]; exact h.pic
/-- what is still to come: items on their way, and a round of markers for each node that has not recorded -/
def Mv (n : Nat) (v : V) : Int := S2 n (fun a b => ((v.W a b).length : Int)) + S n (fun k => if v.K k < 0 then (n : Int) else 0)
theorem Mv_nn : 0 ≤ Mv n v := by
  have h1 := S2_nn (n := n) (g := fun a b => ((v.W a b).length : Int)) (fun _ _ _ _ => by show (0 : Int) ≤ _; omega)
  have h2 := S_nn (n := n) (g := fun k => if v.K k < 0 then (n : Int) else 0) (fun i _ => by show (0 : Int) ≤ if _ then _ else _; split <;> omega)
  unfold Mv; omega
/-- one item less -/
theorem Mv_take {f t : Nat} {x : Int} {r : List Int} (hf : f < n) (ht : t < n) (hw : v.W f t = x :: r) (eW : ∀ a b, a < n → b < n → v'.W a b = if a = f ∧ b = t then r else v.W a b) (eK : ∀ i, i < n → v'.K i = v.K i) : Mv n v' = Mv n v - 1 := by
  have h1 := S2_upd (n := n) (g := fun a b => ((v'.W a b).length : Int)) (h := fun a b => ((v.W a b).length : Int)) hf ht (fun a b ha hb hn => by show ((v'.W a b).length : Int) = _; rw [eW a b ha hb, if_neg hn])
  have h2 : S n (fun k => if v'.K k < 0 then (n : Int) else 0) = S n (fun k => if v.K k < 0 then (n : Int) else 0) := S_congr fun i hi => by show (if _ then _ else _) = if _ then _ else _; rw [eK i hi]
  rw [eW f t hf ht, if_pos ⟨rfl, rfl⟩, hw, List.length_cons] at h1
  unfold Mv
  rw [h2]
  omega
/-- a node records: n - 1 markers more, one node less -/
theorem Mv_recd {k : Nat} (hk : k < n) (hK : v.K k < 0) (hC : 0 ≤ v.C k) (eW : ∀ a b, a < n → b < n → v'.W a b = if a = k ∧ b ≠ k then v.W a b ++ [0] else v.W a b) (eK : ∀ i, i < n → v'.K i = if i = k then v.C k else v.K i) : Mv n v' ≤ Mv n v := by
  have h1 := S_upd (n := n) (g := fun a => S n fun b => ((v'.W a b).length : Int)) (h := fun a => S n fun b => ((v.W a b).length : Int)) hk (fun a ha hn => S_congr fun b hb => by rw [eW a b ha hb, if_neg (fun hh => hn hh.1)])
  have h2 := S_upd (n := n) (g := fun i => if v'.K i < 0 then (n : Int) else 0) (h := fun i => if v.K i < 0 then (n : Int) else 0) hk (fun i hi hn => by show (if _ then _ else _) = if _ then _ else _; rw [eK i hi, if_neg hn])
  rw [eK k hk, if_pos rfl, if_neg (by omega), if_pos hK] at h2
  have h3 : S n (fun b => ((v'.W k b).length : Int)) ≤ S n (fun b => ((v.W k b).length : Int)) + n := by
    have h4 : S n (fun b => ((v'.W k b).length : Int)) ≤ S n (fun b => ((v.W k b).length : Int) + 1) := by
      have h5 : ∀ m, m ≤ n → S m (fun b => ((v'.W k b).length : Int)) ≤ S m (fun b => ((v.W k b).length : Int) + 1) := by
        intro m
        induction m with
        | zero => intro _; exact Int.le_refl _
        | succ m ih =>
          intro hm
          have h6 := ih (by omega)
          show S m _ + ((v'.W k m).length : Int) ≤ S m _ + (((v.W k m).length : Int) + 1)
          have h7 : ((v'.W k m).length : Int) ≤ ((v.W k m).length : Int) + 1 := by
            rw [eW k m hk (by omega)]
            split
            · rw [List.length_append]; simp
            · omega
          omega
      exact h5 n (Nat.le_refl _)
    have h8 : ∀ m, S m (fun b => ((v.W k b).length : Int) + 1) = S m (fun b => ((v.W k b).length : Int)) + m := by
      intro m
      induction m with
      | zero => rfl
      | succ m ih =>
        show S m _ + (((v.W k m).length : Int) + 1) = S m _ + ((v.W k m).length : Int) + ((m + 1 : Nat) : Int)
        rw [ih]; omega
    rw [h8] at h4
    exact h4
  show S n (fun a => S n fun b => ((v'.W a b).length : Int)) + S n (fun i => if v'.K i < 0 then (n : Int) else 0) ≤ S n (fun a => S n fun b => ((v.W a b).length : Int)) + S n (fun i => if v.K i < 0 then (n : Int) else 0)
  omega
end
end Pl
end Go.Proofs.Ytpmeagchkcffoaa

/-
  Plain: a bank as a snapshot's state; what a step keeps; what is left when all ways are empty. No program in sight. No conditions.
-/
namespace Go.Proofs.Ytpmeagchkcffoaa
open Go.RowKit
namespace Pl
theorem idx_inj {n a b c d : Nat} (hb : b < n) (hd : d < n) (h : a * n + b = c * n + d) : a = c ∧ b = d := by
  have hac : a = c := by
    rcases Nat.lt_trichotomy a c with h1 | h1 | h1
    · have h2 : (a + 1) * n ≤ c * n := Nat.mul_le_mul_right n h1
      rw [Nat.add_mul] at h2; omega
    · exact h1
    · have h2 : (c + 1) * n ≤ a * n := Nat.mul_le_mul_right n h1
      rw [Nat.add_mul] at h2; omega
  subst hac
  exact ⟨rfl, by omega⟩
theorem getD_set' {α : Type} {l : List α} {p i : Nat} {x d : α} (hp : p < l.length) : ((l.set p x)[i]?).getD d = if i = p then x else (l[i]?).getD d := by
  rw [List.getElem?_set]
  by_cases h : p = i
  · subst h; rw [if_pos rfl, if_pos hp, if_pos rfl]; rfl
  · rw [if_neg h, if_neg (Ne.symm h)]
def viewN (n : Nat) (b : Bank) : V := ⟨coinAt b, fun f t => wayAt b (f * n + t), keptAt b, heardAt b, foundAt b⟩
section
variable {n : Nat} {b : Bank}
theorem coinAt_add {t i : Nat} {x : Int} (ht : t < b.Coins.length) : coinAt (addCoin b t x) i = if i = t then coinAt b t + x else coinAt b i := getD_set' ht
theorem wayAt_set {p i : Nat} {l : List Int} (hp : p < b.Ways.length) : wayAt (setWay b p l) i = if i = p then l else wayAt b i := getD_set' hp
theorem foundAt_add {f t a c : Nat} {x : Int} (hf : f < b.Found.length) (ht : t < ((b.Found[f]?).getD []).length) : foundAt (addFound b f t x) a c = if a = f ∧ c = t then foundAt b f t + x else foundAt b a c := by
  show ((((b.Found.set f _)[a]?).getD [])[c]?).getD 0 = _
  rw [getD_set' hf]
  by_cases ha : a = f
  · subst ha
    rw [if_pos rfl, getD_set' ht]
    by_cases hc : c = t
    · rw [if_pos hc, if_pos ⟨rfl, hc⟩]
    · rw [if_neg hc, if_neg (fun hh => hc hh.2)]; rfl
  · rw [if_neg ha, if_neg (fun hh => ha hh.1)]; rfl
theorem heardAt_set {t f a c : Nat} (ht : t < b.Heard.length) (hf : f < ((b.Heard[t]?).getD []).length) : heardAt (setHeard b t f) a c = if a = t ∧ c = f then true else heardAt b a c := by
  show ((((b.Heard.set t _)[a]?).getD [])[c]?).getD false = _
  rw [getD_set' ht]
  by_cases ha : a = t
  · subst ha
    rw [if_pos rfl, getD_set' hf]
    by_cases hc : c = f
    · rw [if_pos hc, if_pos ⟨rfl, hc⟩]
    · rw [if_neg hc, if_neg (fun hh => hc hh.2)]; rfl
  · rw [if_neg ha, if_neg (fun hh => ha hh.1)]; rfl
theorem keptAt_rec {k i : Nat} (hk : k < b.Kept.length) : keptAt (brec b k) i = if i = k then coinAt b k else keptAt b i := getD_set' hk
theorem recW_val2 {k : Nat} {W : List (List Int)} (hk : k < n) (hW : W.length = n * n) {f t : Nat} (hf : f < n) (ht : t < n) : ∀ m, m ≤ n → ((recW n k m W)[f * n + t]?).getD [] = if f = k ∧ t ≠ k ∧ t < m then (W[f * n + t]?).getD [] ++ [0] else (W[f * n + t]?).getD []
  | 0, _ => by rw [if_neg (by omega)]; rfl
  | m + 1, hm => by
    have ih := recW_val2 hk hW hf ht m (by omega)
    unfold recW
    split
    · rename_i hmk
      rw [ih]
      by_cases hc : f = k ∧ t ≠ k ∧ t < m
      · rw [if_pos hc, if_pos ⟨hc.1, hc.2.1, by omega⟩]
      · rw [if_neg hc, if_neg (fun hh => hc ⟨hh.1, hh.2.1, by omega⟩)]
    · rename_i hmk
      rw [getD_set' (by rw [recW_len, hW]; exact sq_lt hk (by omega))]
      by_cases hc : f * n + t = k * n + m
      · obtain ⟨rfl, rfl⟩ := idx_inj ht (show m < n by omega) hc
        rw [if_pos rfl, ih, if_neg (by omega), if_pos ⟨rfl, hmk, by omega⟩]
      · rw [if_neg hc, ih]
        by_cases hc2 : f = k ∧ t ≠ k ∧ t < m
        · rw [if_pos hc2, if_pos ⟨hc2.1, hc2.2.1, by omega⟩]
        · rw [if_neg hc2, if_neg (fun hh => hc2 ⟨hh.1, hh.2.1, by
            rcases Nat.lt_or_ge t m with h | h
            · exact h
            · exact absurd (by rw [hh.1, show t = m by omega]) hc⟩)]
theorem wayAt_rec {k f t : Nat} (hn : b.Coins.length = n) (hk : k < n) (hW : b.Ways.length = n * n) (hf : f < n) (ht : t < n) : wayAt (brec b k) (f * n + t) = if f = k ∧ t ≠ k then wayAt b (f * n + t) ++ [0] else wayAt b (f * n + t) := by
  show ((recW b.Coins.length k b.Coins.length b.Ways)[f * n + t]?).getD [] = _
  rw [hn, recW_val2 hk hW hf ht n (Nat.le_refl _)]
  by_cases hc : f = k ∧ t ≠ k
  · rw [if_pos hc, if_pos ⟨hc.1, hc.2, ht⟩]; rfl
  · rw [if_neg hc, if_neg (fun hh => hc ⟨hh.1, hh.2.1⟩)]; rfl
/-- an item taken: what is kept goes on, one item less is to come, who has recorded has -/
theorem take_ok {q f t : Nat} {all x : Int} {r : List Int} (hI : BI q b) (hn : b.Coins.length = n) (h : JV n all (viewN n b)) (hf : f < n) (ht : t < n) (hw : wayAt b (f * n + t) = x :: r) :
    JV n all (viewN n (btake (setWay b (f * n + t) r) f t x)) ∧ Mv n (viewN n (btake (setWay b (f * n + t) r) f t x)) ≤ Mv n (viewN n b) - 1 ∧ ∀ k, k < n → 0 ≤ keptAt b k → 0 ≤ keptAt (btake (setWay b (f * n + t) r) f t x) k := by
  have hft : f ≠ t := fun e => by
    have := (h.dg f hf).1
    rw [show (viewN n b).W f f = wayAt b (f * n + f) from rfl] at this
    rw [← e, this] at hw
    cases hw
  have hp : f * n + t < b.Ways.length := by rw [hI.wa, hn]; exact sq_lt hf ht
  have hwv : (viewN n b).W f t = x :: r := hw
  have hWs : ∀ a c, a < n → c < n → wayAt (setWay b (f * n + t) r) (a * n + c) = if a = f ∧ c = t then r else wayAt b (a * n + c) := fun a c ha hc => by
    rw [wayAt_set hp]
    by_cases he : a = f ∧ c = t
    · rw [if_pos he, if_pos (by rw [he.1, he.2])]
    · rw [if_neg he, if_neg (fun hh => he (idx_inj hc ht hh))]
  have hx0 := (h.wi f t hf ht x (by rw [hwv]; exact List.mem_cons_self)).1
  have htc : t < b.Coins.length := by omega
  unfold btake
  by_cases hx : 0 < x
  · rw [if_pos hx]
    by_cases hc : 0 ≤ keptAt (setWay b (f * n + t) r) t ∧ heardAt (setWay b (f * n + t) r) t f = false
    · rw [if_pos hc]
      have eC : ∀ i, i < n → coinAt (addFound (addCoin (setWay b (f * n + t) r) t x) f t x) i = if i = t then coinAt b t + x else coinAt b i := fun i hi => coinAt_add (b := setWay b (f * n + t) r) htc
      have eF : ∀ a c, a < n → c < n → foundAt (addFound (addCoin (setWay b (f * n + t) r) t x) f t x) a c = if a = f ∧ c = t then foundAt b f t + x else foundAt b a c := fun a c ha hc' => by
        have hfl : f < b.Found.length := by rw [hI.fo, hn]; exact hf
        refine foundAt_add (b := addCoin (setWay b (f * n + t) r) t x) hfl ?_
        show t < ((b.Found[f]?).getD []).length
        rw [List.getElem?_eq_getElem hfl]
        show t < b.Found[f].length
        rw [hI.fr _ (List.getElem_mem hfl)]; exact htc
      exact ⟨h.takeF (v' := viewN n _) hf ht hft hwv hx hc.1 hc.2 eC hWs (fun _ _ => rfl) (fun _ _ _ _ => rfl) eF, Int.le_of_eq (Mv_take (v' := viewN n _) hf ht hwv hWs (fun _ _ => rfl)), fun k hk hh => hh⟩
    · rw [if_neg hc]
      have eC : ∀ i, i < n → coinAt (addCoin (setWay b (f * n + t) r) t x) i = if i = t then coinAt b t + x else coinAt b i := fun i hi => coinAt_add (b := setWay b (f * n + t) r) htc
      have hc' : (viewN n b).K t < 0 ∨ (viewN n b).H t f = true := by
        by_cases h1 : 0 ≤ keptAt b t
        · right
          cases h2 : heardAt b t f with
          | true => exact h2
          | false => exact absurd ⟨h1, h2⟩ hc
        · left; show keptAt b t < 0; omega
      exact ⟨h.takeC (v' := viewN n _) hf ht hft hwv hx hc' eC hWs (fun _ _ => rfl) (fun _ _ _ _ => rfl) (fun _ _ _ _ => rfl), Int.le_of_eq (Mv_take (v' := viewN n _) hf ht hwv hWs (fun _ _ => rfl)), fun k hk hh => hh⟩
  · rw [if_neg hx]
    obtain rfl : x = 0 := by omega
    have htl : t < b.Heard.length := by rw [hI.he, hn]; exact ht
    have hfl : f < ((b.Heard[t]?).getD []).length := by
      rw [List.getElem?_eq_getElem htl]
      show f < b.Heard[t].length
      rw [hI.hr _ (List.getElem_mem htl)]; omega
    by_cases hc : keptAt (setWay b (f * n + t) r) t < 0
    · rw [if_pos hc]
      have hKl : t < b.Kept.length := by rw [hI.ke, hn]; exact ht
      obtain ⟨v1, hv1⟩ : ∃ v1 : V, v1 = ⟨coinAt b, fun a c => if a = t ∧ c ≠ t then wayAt b (a * n + c) ++ [0] else wayAt b (a * n + c), fun i => if i = t then coinAt b t else keptAt b i, heardAt b, foundAt b⟩ := ⟨_, rfl⟩
      have h1 : JV n all v1 := h.recd (v' := v1) ht hc (fun _ _ => by rw [hv1]; rfl) (fun _ _ _ _ => by rw [hv1]; rfl) (fun _ _ => by rw [hv1]; rfl) (fun _ _ _ _ => by rw [hv1]; rfl) (fun _ _ _ _ => by rw [hv1]; rfl)
      have m1 : Mv n v1 ≤ Mv n (viewN n b) := Mv_recd (k := t) ht hc (h.cn t ht) (fun _ _ _ _ => by rw [hv1]; rfl) (fun _ _ => by rw [hv1]; rfl)
      have hw1 : v1.W f t = 0 :: r := by rw [hv1]; show (if f = t ∧ t ≠ t then _ else wayAt b (f * n + t)) = _; rw [if_neg (fun hh => hft hh.1)]; exact hw
      have eW : ∀ a c, a < n → c < n → (viewN n (setHeard (brec (setWay b (f * n + t) r) t) t f)).W a c = if a = f ∧ c = t then r else v1.W a c := fun a c ha hc' => by
        show wayAt (brec (setWay b (f * n + t) r) t) (a * n + c) = _
        rw [wayAt_rec (b := setWay b (f * n + t) r) hn ht (by show (b.Ways.set _ _).length = _; rw [List.length_set, hI.wa, hn]) ha hc', hWs a c ha hc', hv1]
        by_cases e1 : a = t ∧ c ≠ t
        · rw [if_pos e1, if_neg (fun hh => hft (hh.1.symm.trans e1.1)), if_neg (fun hh => hft (hh.1.symm.trans e1.1))]
          show _ = if a = t ∧ c ≠ t then _ else _
          rw [if_pos e1]
        · rw [if_neg e1]
          by_cases e2 : a = f ∧ c = t
          · rw [if_pos e2, if_pos e2]
          · rw [if_neg e2, if_neg e2]
            show _ = if a = t ∧ c ≠ t then _ else _
            rw [if_neg e1]
      have eK : ∀ i, i < n → (viewN n (setHeard (brec (setWay b (f * n + t) r) t) t f)).K i = v1.K i := fun i hi => by
        rw [hv1]; exact keptAt_rec (b := setWay b (f * n + t) r) hKl
      have eH : ∀ a c, a < n → c < n → (viewN n (setHeard (brec (setWay b (f * n + t) r) t) t f)).H a c = if a = t ∧ c = f then true else v1.H a c := fun a c ha hc' => by
        rw [hv1]; exact heardAt_set (b := brec (setWay b (f * n + t) r) t) htl hfl
      have hKt : 0 ≤ v1.K t := by rw [hv1]; show 0 ≤ if t = t then coinAt b t else _; rw [if_pos rfl]; exact h.cn t ht
      refine ⟨h1.mark (v' := viewN n _) hf ht hft hw1 hKt (fun _ _ => by rw [hv1]; rfl) eW eK eH (fun _ _ _ _ => by rw [hv1]; rfl), ?_, fun k hk hh => ?_⟩
      · have := Mv_take (v' := viewN n (setHeard (brec (setWay b (f * n + t) r) t) t f)) hf ht hw1 eW eK
        omega
      · have := eK k hk
        rw [show keptAt (setHeard (brec (setWay b (f * n + t) r) t) t f) k = v1.K k from this, hv1]
        show 0 ≤ if k = t then coinAt b t else keptAt b k
        have := h.cn t ht
        split
        · exact this
        · exact hh
    · rw [if_neg hc]
      have eH : ∀ a c, a < n → c < n → heardAt (setHeard (setWay b (f * n + t) r) t f) a c = if a = t ∧ c = f then true else heardAt b a c := fun a c ha hc' => heardAt_set (b := setWay b (f * n + t) r) htl hfl
      exact ⟨h.mark (v' := viewN n _) hf ht hft hwv (by show 0 ≤ keptAt b t; have : ¬ keptAt b t < 0 := hc; omega) (fun _ _ => rfl) hWs (fun _ _ => rfl) eH (fun _ _ _ _ => rfl), Int.le_of_eq (Mv_take (v' := viewN n _) hf ht hwv hWs (fun _ _ => rfl)), fun k hk hh => hh⟩
theorem rec_ok {q k : Nat} {all : Int} (hI : BI q b) (hn : b.Coins.length = n) (h : JV n all (viewN n b)) (hk : k < n) (hK : keptAt b k < 0) : JV n all (viewN n (brec b k)) :=
  h.recd (v' := viewN n _) hk hK (fun _ _ => rfl) (fun a c ha hc => wayAt_rec hn hk (by rw [hI.wa, hn]) ha hc) (fun i hi => keptAt_rec (by rw [hI.ke, hn]; exact hk)) (fun _ _ _ _ => rfl) (fun _ _ _ _ => rfl)
end
/-- a bank whose snapshot is in order -/
structure JB (n : Nat) (all : Int) (b : Bank) : Prop where
  len : b.Coins.length = n
  bi : ∃ q, BI q b
  jv : JV n all (viewN n b)
theorem JB.step {n : Nat} {all : Int} {b : Bank} (h : JB n all b) (s : SnapStep) : JB n all (bstep b s).1 := by
  obtain ⟨q, hI⟩ := h.bi
  refine ⟨(bstep_len b s).trans h.len, ⟨q + 1, hI.step s⟩, ?_⟩
  unfold bstep
  dsimp only
  split
  · exact h.jv
  rename_i hg
  replace hg := Decidable.not_not.1 hg
  have hf : s.From.toNat < n := by have := h.len; omega
  have ht : s.To.toNat < n := by have := h.len; omega
  rw [h.len]
  split
  · split
    · rename_i hc
      obtain ⟨c1, c2, c3, c4, c5⟩ := hc
      have hft : s.From.toNat ≠ s.To.toNat := fun e => c4 (by omega)
      have hp : s.From.toNat * n + s.To.toNat < b.Ways.length := by rw [hI.wa, h.len]; exact sq_lt hf ht
      refine h.jv.give (v' := viewN n _) hf ht hft ⟨c1, c2⟩ c3 c5 (fun i hi => ?_) (fun a c ha hc' => ?_) (fun _ _ => rfl) (fun _ _ _ _ => rfl) (fun _ _ _ _ => rfl)
      · show coinAt (addCoin b _ _) i = _
        rw [coinAt_add (by rw [h.len]; exact hf)]
        rfl
      · show wayAt (setWay (addCoin b _ _) _ _) (a * n + c) = _
        rw [wayAt_set (b := addCoin b _ _) hp]
        by_cases he : a = s.From.toNat ∧ c = s.To.toNat
        · rw [if_pos he, if_pos (by rw [he.1, he.2])]; rfl
        · rw [if_neg he, if_neg (fun hh => he (idx_inj hc' ht hh))]; rfl
    · exact h.jv
  split
  · split
    · exact h.jv
    · rename_i x r hw
      split
      · exact (take_ok hI h.len h.jv hf ht hw).1
      · exact h.jv
  split
  · split
    · rename_i hc
      exact rec_ok hI h.len h.jv hf hc.1
    · exact h.jv
  · exact h.jv
theorem JB.run {n : Nat} {all : Int} : ∀ (l : List SnapStep) (p : Bank × List Bool), JB n all p.1 → JB n all (runP p l).1
  | [], _, h => h
  | s :: l, p, h => JB.run l ((bstep p.1 s).1, p.2 ++ [(bstep p.1 s).2]) (h.step s)
theorem take_lsum (l : List Int) : ∀ k, k ≤ l.length → lsum (l.take k) = S k (fun i => (l[i]?).getD 0)
  | 0, _ => by simp [lsum, S]
  | k + 1, hk => by
    have hx : l[k]? = some l[k] := List.getElem?_eq_getElem (by omega)
    rw [Mm.take_succ_some hx, lsum_append, take_lsum l k (by omega)]
    show _ + (l[k] + 0) = S k _ + (l[k]?).getD 0
    rw [hx, Int.add_zero]; rfl
theorem lsum_S (l : List Int) : lsum l = S l.length (fun i => (l[i]?).getD 0) := by
  have := take_lsum l l.length (Nat.le_refl _)
  rwa [List.take_length] at this
theorem take_flat (L : List (List Int)) : ∀ k, k ≤ L.length → lsum (L.take k).flatten = S k (fun i => lsum ((L[i]?).getD []))
  | 0, _ => by simp [lsum, S]
  | k + 1, hk => by
    have hx : L[k]? = some L[k] := List.getElem?_eq_getElem (by omega)
    rw [Mm.take_succ_some hx, List.flatten_append, lsum_append, take_flat L k (by omega)]
    show _ + lsum [L[k]].flatten = S k _ + lsum ((L[k]?).getD [])
    rw [hx]
    simp
theorem lsum_flat (L : List (List Int)) : lsum L.flatten = S L.length (fun i => lsum ((L[i]?).getD [])) := by
  have := take_flat L L.length (Nat.le_refl _)
  rwa [List.take_length] at this
theorem S_app (g : Nat → Int) (a : Nat) : ∀ b, S (a + b) g = S a g + S b (fun i => g (a + i))
  | 0 => by simp [S]
  | b + 1 => by
    show S (a + b) g + g (a + b) = S a g + (S b _ + g (a + b))
    rw [S_app g a b]; omega
theorem S_mul (n : Nat) (g : Nat → Int) : ∀ m, S (m * n) g = S m (fun f => S n (fun t => g (f * n + t)))
  | 0 => by rw [Nat.zero_mul]; rfl
  | m + 1 => by
    rw [Nat.add_mul, Nat.one_mul, S_app, S_mul n g m]; rfl
theorem JB.new {coins : List Int} (h : coinsOk coins = true) : JB coins.length (lsum coins) (newBank coins) := by
  have hI := BI.new h
  have hK : ∀ i, i < coins.length → keptAt (newBank coins) i = -1 := fun i hi => by
    show ((List.replicate coins.length (-1 : Int))[i]?).getD 0 = -1
    rw [List.getElem?_replicate, if_pos hi]; rfl
  have hW : ∀ i, wayAt (newBank coins) i = [] := fun i => by
    show ((List.replicate (coins.length * coins.length) ([] : List Int))[i]?).getD [] = []
    rw [List.getElem?_replicate]; split <;> rfl
  have hF : ∀ a c, foundAt (newBank coins) a c = 0 := fun a c => by
    show ((((List.replicate coins.length (List.replicate coins.length (0 : Int)))[a]?).getD [])[c]?).getD 0 = 0
    rw [List.getElem?_replicate]
    split
    · show ((List.replicate coins.length (0 : Int))[c]?).getD 0 = 0
      rw [List.getElem?_replicate]; split <;> rfl
    · rfl
  have hH : ∀ a c, heardAt (newBank coins) a c = false := fun a c => by
    show ((((List.replicate coins.length (List.replicate coins.length false))[a]?).getD [])[c]?).getD false = false
    rw [List.getElem?_replicate]
    split
    · show ((List.replicate coins.length false)[c]?).getD false = false
      rw [List.getElem?_replicate]; split <;> rfl
    · rfl
  refine ⟨rfl, ⟨0, hI⟩, ⟨fun i hi => ?_, fun i hi => ?_, fun f t _ _ x hx => ?_, fun f t _ _ => ?_, fun i hi => ?_, fun f t hf ht _ => ?_, fun f t _ _ hh => ?_, fun f t _ _ _ => hF f t, fun f t _ _ => ?_, fun f t _ _ _ => ?_, ?_, ?_⟩⟩
  · obtain ⟨c, hc⟩ : ∃ c, coins[i]? = some c := ⟨_, List.getElem?_eq_getElem hi⟩
    show 0 ≤ coinAt (newBank coins) i
    rw [coinAt_of (show (newBank coins).Coins[i]? = some c from hc)]
    exact (hI.cb c (List.mem_of_getElem? hc)).1
  · show -1 ≤ keptAt _ i
    rw [hK i hi]; omega
  · rw [show (viewN coins.length (newBank coins)).W f t = [] from hW _] at hx; cases hx
  · rw [show (viewN coins.length (newBank coins)).F f t = 0 from hF f t]; omega
  · exact ⟨hW _, hF i i, hH i i⟩
  · rw [show (viewN coins.length (newBank coins)).W f t = [] from hW _, if_neg (fun hh => by have h1 : 0 ≤ keptAt (newBank coins) f := hh.1; rw [hK f hf] at h1; omega)]; rfl
  · rw [show (viewN coins.length (newBank coins)).H t f = false from hH t f] at hh; cases hh
  · rw [show (viewN coins.length (newBank coins)).W f t = [] from hW _]; simp
  · rw [show (viewN coins.length (newBank coins)).W f t = [] from hW _]; simp
  · have h2 : S2 coins.length (fun f t => lsum ((viewN coins.length (newBank coins)).W f t)) = S2 coins.length (fun _ _ => 0) := S2_congr fun f t _ _ => by rw [show (viewN coins.length (newBank coins)).W f t = [] from hW _]; rfl
    rw [h2, show S2 coins.length (fun _ _ => (0 : Int)) = 0 by unfold S2; rw [S_congr (fun i _ => S_zero coins.length)]; exact S_zero _, lsum_S coins, Int.add_zero]
    rfl
  · have h1 : S coins.length (fun k => if 0 ≤ (viewN coins.length (newBank coins)).K k then (viewN coins.length (newBank coins)).K k else (viewN coins.length (newBank coins)).C k) = S coins.length (coinAt (newBank coins)) := S_congr fun i hi => by
      rw [show (viewN coins.length (newBank coins)).K i = -1 from hK i hi, if_neg (by omega)]; rfl
    have h2 : S2 coins.length (viewN coins.length (newBank coins)).F = S2 coins.length (fun _ _ => 0) := S2_congr fun f t _ _ => hF f t
    have h3 : S2 coins.length (fun f t => if (viewN coins.length (newBank coins)).H t f = true then 0 else pre ((viewN coins.length (newBank coins)).W f t)) = S2 coins.length (fun _ _ => 0) := S2_congr fun f t _ _ => by
      rw [show (viewN coins.length (newBank coins)).W f t = [] from hW _]; split <;> rfl
    have h0 : S2 coins.length (fun _ _ => (0 : Int)) = 0 := by unfold S2; rw [S_congr (fun i _ => S_zero coins.length)]; exact S_zero _
    rw [h1, h2, h3, h0, lsum_S coins, Int.add_zero, Int.add_zero]
    rfl
section
variable {n : Nat} {all : Int} {v : V}
theorem JV.lw (h : JV n all v) : 0 ≤ S2 n (fun f t => lsum (v.W f t)) := S2_nn fun f t hf ht => lsum_nn fun x hx => (h.wi f t hf ht x hx).1
theorem JV.pw (h : JV n all v) : 0 ≤ S2 n (fun f t => if v.H t f = true then 0 else pre (v.W f t)) := S2_nn fun f t hf ht => by
  show 0 ≤ if v.H t f = true then 0 else pre (v.W f t)
  have := pre_nn fun x hx => (h.wi f t hf ht x hx).1
  split <;> omega
theorem JV.kc (h : JV n all v) : ∀ k, k < n → 0 ≤ if 0 ≤ v.K k then v.K k else v.C k := fun k hk => by
  have := h.cn k hk
  split <;> omega
theorem JV.cle (h : JV n all v) {i : Nat} (hi : i < n) : v.C i ≤ all := by
  have h1 := S_ge hi h.cn
  have h2 := h.lw
  have h3 := h.tot
  omega
theorem JV.kle (h : JV n all v) {i : Nat} (hi : i < n) : v.K i ≤ all := by
  have h1 := S_ge (g := fun k => if 0 ≤ v.K k then v.K k else v.C k) hi h.kc
  have h2 := h.pw
  have h4 := S2_nn h.fn
  have h3 := h.pic
  have h5 := h.cn i hi
  have h6 := h.kn i hi
  split at h1 <;> omega
theorem JV.fle (h : JV n all v) {f t : Nat} (hf : f < n) (ht : t < n) : v.F f t ≤ all := by
  have h1 := S2_ge hf ht h.fn
  have h2 := h.pw
  have h4 := S_nn h.kc
  have h3 := h.pic
  omega
/-- all ways are empty, and one node has recorded: the picture is complete, and has all the coins -/
theorem JV.fin (h : JV n all v) (he : ∀ f t, f < n → t < n → v.W f t = []) {k : Nat} (hk : k < n) (hK : 0 ≤ v.K k) :
    (∀ i, i < n → 0 ≤ v.K i) ∧ (∀ f t, f < n → t < n → f ≠ t → v.H t f = true) ∧ S n v.K + S2 n v.F = all := by
  have hR : ∀ f t, f < n → t < n → f ≠ t → 0 ≤ v.K f → v.H t f = true := fun f t hf ht hft hKf => by
    have h1 := h.zz f t hf ht hft
    rw [he f t hf ht] at h1
    cases hH : v.H t f with
    | true => rfl
    | false => rw [if_pos ⟨hKf, hH⟩] at h1; cases h1
  have hA : ∀ i, i < n → 0 ≤ v.K i := fun i hi => by
    by_cases hik : i = k
    · rw [hik]; exact hK
    · exact (h.hh k i hk hi (hR k i hk hi (Ne.symm hik) hK)).2
  refine ⟨hA, fun f t hf ht hft => hR f t hf ht hft (hA f hf), ?_⟩
  have h1 : S n (fun k => if 0 ≤ v.K k then v.K k else v.C k) = S n v.K := S_congr fun i hi => if_pos (hA i hi)
  have h2 : S2 n (fun f t => if v.H t f = true then 0 else pre (v.W f t)) = S2 n (fun _ _ => 0) := S2_congr fun f t hf ht => by
    rw [he f t hf ht]; split <;> rfl
  have h3 : S2 n (fun _ _ => (0 : Int)) = 0 := by unfold S2; rw [S_congr (fun i _ => S_zero n)]; exact S_zero _
  have h4 := h.pic
  rw [h1, h2, h3] at h4
  omega
end
theorem JB.bi40 {n : Nat} {all : Int} {b : Bank} (h : JB n all b) (ha : all ≤ 250) : BI 40 b := by
  obtain ⟨q, hI⟩ := h.bi
  have hn := h.len
  refine ⟨hI.n1, hI.n5, hI.wa, hI.ke, hI.he, hI.fo, hI.hr, hI.fr, fun c hc => ?_, fun c hc => ?_, fun r hr c hc => ?_, fun r hr => ?_, hI.wb, hI.dg⟩
  · obtain ⟨i, hi⟩ := List.mem_iff_getElem?.1 hc
    have hl : i < n := by have := (List.getElem?_eq_some_iff.1 hi).1; omega
    have h1 := h.jv.cn i hl
    have h2 := h.jv.cle hl
    rw [show (viewN n b).C i = c from coinAt_of hi] at h1 h2
    omega
  · obtain ⟨i, hi⟩ := List.mem_iff_getElem?.1 hc
    have hl : i < n := by have := (List.getElem?_eq_some_iff.1 hi).1; have := hI.ke; omega
    have h1 := h.jv.kn i hl
    have h2 := h.jv.kle hl
    rw [show (viewN n b).K i = c from keptAt_of hi] at h1 h2
    omega
  · obtain ⟨f, hf⟩ := List.mem_iff_getElem?.1 hr
    obtain ⟨t, ht⟩ := List.mem_iff_getElem?.1 hc
    have hfl : f < n := by have := (List.getElem?_eq_some_iff.1 hf).1; have := hI.fo; omega
    have htl : t < n := by have := (List.getElem?_eq_some_iff.1 ht).1; have := hI.fr r hr; omega
    have h1 := h.jv.fn f t hfl htl
    have h2 := h.jv.fle hfl htl
    rw [show (viewN n b).F f t = c from foundAt_of hf ht] at h1 h2
    omega
  · obtain ⟨i, hi⟩ := List.mem_iff_getElem?.1 hr
    have hl : i < n * n := by have := (List.getElem?_eq_some_iff.1 hi).1; rw [hI.wa, hn] at this; exact this
    have hn0 : 0 < n := by have := hI.n1; omega
    have h1 := h.jv.l1 (i / n) (i % n) (Nat.div_lt_of_lt_mul hl) (Nat.mod_lt _ hn0)
    rw [show (viewN n b).W (i / n) (i % n) = wayAt b (i / n * n + i % n) from rfl, Nat.div_add_mod' i n, wayAt_of hi] at h1
    omega
/-- the sums that the program reckons -/
theorem JB.totalIn {n : Nat} {all : Int} {b : Bank} (h : JB n all b) : lsum (b.Coins ++ b.Ways.flatten) = all := by
  obtain ⟨q, hI⟩ := h.bi
  have h1 := h.jv.tot
  rw [lsum_append, lsum_S b.Coins, h.len, lsum_flat b.Ways, hI.wa, h.len, S_mul]
  exact h1
theorem JB.pictureOf {n : Nat} {all : Int} {b : Bank} (h : JB n all b) (hs : S n (viewN n b).K + S2 n (viewN n b).F = all) : lsum (b.Kept ++ b.Found.flatten) = all := by
  obtain ⟨q, hI⟩ := h.bi
  rw [lsum_append, lsum_S b.Kept, hI.ke, h.len, lsum_flat b.Found, hI.fo, h.len, ← hs]
  congr 1
  refine S_congr fun f hf => ?_
  obtain ⟨r, hr⟩ : ∃ r, b.Found[f]? = some r := ⟨_, List.getElem?_eq_getElem (by rw [hI.fo, h.len]; exact hf)⟩
  rw [hr]
  show lsum r = _
  rw [lsum_S r, hI.fr r (List.mem_of_getElem? hr), h.len]
  refine S_congr fun t ht => ?_
  show _ = ((((b.Found[f]?).getD [])[t]?).getD 0)
  rw [hr]; rfl
theorem lsum_coins {coins : List Int} (h : coinsOk coins = true) : 0 ≤ lsum coins ∧ lsum coins ≤ 250 := by
  have hI := BI.new h
  have h0 := lsum_nn (a := coins) fun x hx => (hI.cb x hx).1
  have h5 : coins.length ≤ 5 := hI.n5
  have h1 := S_le (n := coins.length) (g := fun i => (coins[i]?).getD 0) (c := 50) fun i hi => by
    obtain ⟨c, hc⟩ : ∃ c, coins[i]? = some c := ⟨_, List.getElem?_eq_getElem hi⟩
    show (coins[i]?).getD 0 ≤ 50
    rw [hc]
    have := (hI.cb c (List.mem_of_getElem? hc)).2
    show c ≤ 50
    omega
  rw [← lsum_S] at h1
  omega
end Pl
end Go.Proofs.Ytpmeagchkcffoaa

/-
  Contracts: a bank in order is found valid (isWay, isBank, GoodBank of the program). Conditions: the snapshot is in order, and there are at most 250 coins.
-/
namespace Go.Proofs.Ytpmeagchkcffoaa
open Go.RowKit
attribute [local go_sem] und_cell cha_cell World.cell?_alloc_some
theorem coinW1_c (a : Int) (w : World) : Calls Try.prog 72 #[.int .i64 a] w fun e w' => e = .returned (.bool (!Pl.coinOk a)) ∧ Below w.heap.size w w' := by
  have C := within_c a 0 50 w
  obtain ⟨b, hb⟩ : ∃ b, Pl.isIn a 0 50 = b := ⟨_, rfl⟩
  unfold Pl.coinOk
  rw [hb] at C ⊢
  clear hb
  go_enter Try.func72, Try.ntmps72
  go_wp2_with (go_at_call 56; (with_reducible refine C.mono ?_); clear C; rintro e w1 ⟨rfl, rfl⟩)
  cases b <;> (go_ret; exact ⟨rfl, Below.refl _ _⟩)
set_option maxRecDepth 100000 in
set_option maxHeartbeats 1000000 in
theorem coinW2_c (l : List Int) (A : Option Addr) (n c : Nat) (w : World) (B : Nat) (hl : Mm.SlAt Mm.int w B l A n c) (hB : B ≤ w.heap.size) :
    Calls Try.prog 69 #[.slice A n c, .func (Fn.func 72) #[] #[]] w fun e w' => ∃ i : Int, e = .returned (.int .i64 i) ∧ decide (0 ≤ i) = l.any (fun x => !Pl.coinOk x) ∧ Below w.heap.size w w' := by
  have hn : n ≤ 9223372036854775807 := by have := hl.2.1; have := hl.2.2.1; unfold maxLen at this; omega
  have hlen : Hid (l.length = n) := hl.1
  have HL := Lib.hid hl
  clear hl
  go_enter Try.func69, Try.ntmps69
  go_wp2
  go_loopg [5, 8] n (fun g _ i wr => ∃ k : Nat, n - k ≤ g ∧ k ≤ n ∧ i = .int .i64 k ∧ Hid ((l.take k).any (fun x => !Pl.coinOk x) = false) ∧ Hid (Below w.heap.size w wr))
  case atStart => exact ⟨0, Nat.le_refl _, Nat.zero_le _, rfl, rfl, Below.refl _ _⟩
  case round =>
    obtain ⟨k, hgk, hk, rfl, HA, HB⟩ := hrel
    obtain ⟨W, rfl⟩ : ∃ W : World, W = wr := ⟨_, rfl⟩
    have hsz := HB.out.size
    by_cases hlt : k < n
    · (obtain ⟨x, b, off, hx, rfl, hb, ix, e0⟩ := int_get (HL.out.keep (w' := W) fun b hb => HB.out.block b (by omega)) hlt);(have C := coinW1_c x W);(clear ix)
      have HN : Hid ((l.take (k + 1)).any (fun x => !Pl.coinOk x) = ((l.take k).any (fun x => !Pl.coinOk x) || (fun x => !Pl.coinOk x) x)) := Lib.hid (Pl.any_snoc hx)
      have HX := Lib.hid hx
      have f1 : (k : Int) < (n : Nat) := by omega
      have f2 : (0 : Int) ≤ (k : Nat) := by omega
      have f3 : ((k : Nat) : Int).toNat = k := by omega
      clear hx
      obtain ⟨pb, hs⟩ : ∃ pb, (fun x => !Pl.coinOk x) x = pb := ⟨_, rfl⟩
      have hs2 : (!Pl.coinOk x) = pb := hs
      rw [hs2] at C
      clear hs2
      cases pb with
      | false =>
        rw [hs, HA.out] at HN
        clear hs
        go_wp2_with (go_at_call 72; (with_reducible refine C.mono ?_); clear C; rintro e w1 ⟨rfl, hb1⟩)
        go_roundg (n - (k + 1))
        case measure => omega
        case rel => exact ⟨k + 1, Nat.le_refl _, by omega, by go_num, HN.out, below_step HB.out hb1⟩
      | true =>
        have HF : Hid (l.any (fun x => !Pl.coinOk x) = true) := Lib.hid (List.any_eq_true.2 ⟨x, List.mem_of_getElem? HX.out, hs⟩)
        clear hs
        go_wp2_with (go_at_call 72; (with_reducible refine C.mono ?_); clear C; rintro e w1 ⟨rfl, hb1⟩)
        go_ret
        exact ⟨k, rfl, by rw [HF.out]; exact decide_eq_true (by omega), below_step HB.out hb1⟩
    · have HF : Hid (l.any (fun x => !Pl.coinOk x) = false) := Lib.hid (by rw [← List.take_of_length_le (show l.length ≤ k by rw [hlen.out]; omega)]; exact HA.out)
      have f1 : ¬ (k : Int) < (n : Nat) := by omega
      go_wp2
      go_ret
      exact ⟨-1, rfl, by rw [HF.out]; rfl, HB.out⟩
set_option maxRecDepth 100000 in
theorem coinW3_c (l : List Int) (A : Option Addr) (n c : Nat) (w : World) (B : Nat) (hl : Mm.SlAt Mm.int w B l A n c) (hB : B ≤ w.heap.size) :
    Calls Try.prog 57 #[.slice A n c, .func (Fn.func 72) #[] #[]] w fun e w' => e = .returned (.bool (l.any (fun x => !Pl.coinOk x))) ∧ Below w.heap.size w w' := by
  have C := coinW2_c l A n c w B hl hB
  clear hl
  obtain ⟨b, hb⟩ : ∃ b, l.any (fun x => !Pl.coinOk x) = b := ⟨_, rfl⟩
  rw [hb] at C ⊢
  clear hb
  cases b with
  | false =>
    go_enter Try.func57, Try.ntmps57
    go_wp2_with (go_at_call 69; (with_reducible refine C.mono ?_); clear C; rintro e w1 ⟨i, rfl, hi, hb1⟩)
    go_ret
    exact ⟨rfl, hb1⟩
  | true =>
    go_enter Try.func57, Try.ntmps57
    go_wp2_with (go_at_call 69; (with_reducible refine C.mono ?_); clear C; rintro e w1 ⟨i, rfl, hi, hb1⟩)
    go_ret
    exact ⟨rfl, hb1⟩
/-- a bank that is read, through its box -/
structure BankRd (w : World) (B gb n : Nat) (b : Bank) (A0 A1 A2 A3 A4 : Option Addr) (c0 c1 c2 c3 c4 : Nat) : Prop where
  e0 : w.cell? ⟨gb, 0, none⟩ = some (.slice A0 n c0)
  e1 : w.cell? ⟨gb, 1, none⟩ = some (.slice A1 (n * n) c1)
  e2 : w.cell? ⟨gb, 2, none⟩ = some (.slice A2 n c2)
  e3 : w.cell? ⟨gb, 3, none⟩ = some (.slice A3 n c3)
  e4 : w.cell? ⟨gb, 4, none⟩ = some (.slice A4 n c4)
  r0 : Mm.SlAt Mm.int w B b.Coins A0 n c0
  r1 : Mm.SlAt ints w B b.Ways A1 (n * n) c1
  r2 : Mm.SlAt Mm.int w B b.Kept A2 n c2
  r3 : Mm.SlAt bools w B b.Heard A3 n c3
  r4 : Mm.SlAt ints w B b.Found A4 n c4
theorem BankRd.below {w w' : World} {B gb n : Nat} {b : Bank} {A0 A1 A2 A3 A4 : Option Addr} {c0 c1 c2 c3 c4 : Nat} (h : BankRd w B gb n b A0 A1 A2 A3 A4 c0 c1 c2 c3 c4) (hb : Below w.heap.size w w') (hB : B ≤ w.heap.size) : BankRd w' B gb n b A0 A1 A2 A3 A4 c0 c1 c2 c3 c4 :=
  have k : ∀ b, b < B → w'.heap[b]? = w.heap[b]? := fun b hb' => hb.block b (by omega)
  ⟨below_some hb h.e0, below_some hb h.e1, below_some hb h.e2, below_some hb h.e3, below_some hb h.e4, h.r0.keep k, h.r1.keep k, h.r2.keep k, h.r3.keep k, h.r4.keep k⟩
set_option maxRecDepth 100000 in
set_option maxHeartbeats 4000000 in
theorem isWay_yes (b : Bank) (n f t gb : Nat) (all : Int) (A0 A1 A2 A3 A4 : Option Addr) (c0 c1 c2 c3 c4 : Nat) (w : World) (B : Nat) (h : BankRd w B gb n b A0 A1 A2 A3 A4 c0 c1 c2 c3 c4) (hB : B ≤ w.heap.size) (hJ : Pl.JB n all b) (ha : all ≤ 250) (hf : f < n) (ht : t < n) :
    Calls Try.prog 66 #[.pointer (some ⟨gb, 0, none⟩), .int .i64 f, .int .i64 t] w fun e w' => e = .returned (.bool true) ∧ Below w.heap.size w w' := by
  have hI := hJ.bi40 ha
  have hn5 : n ≤ 5 := by rw [← hJ.len]; exact hI.n5
  have hn25 := sq_le hn5
  obtain ⟨p0, hp0⟩ : ∃ p, f * n = p := ⟨_, rfl⟩
  obtain ⟨p, hp⟩ : ∃ p, p0 + t = p := ⟨_, rfl⟩
  have hpn : p < n * n := by rw [← hp, ← hp0]; exact sq_lt hf ht
  have m1 : IntKind.i64.wrap ((f : Int) * (n : Nat)) = (p0 : Nat) := by
    rw [show (f : Int) * (n : Nat) = ((f * n : Nat) : Int) by push_cast; rfl, hp0]
    exact IntWalk.i64_in _ (by omega)
  have m2 : IntKind.i64.wrap ((p0 : Int) + (t : Nat)) = (p : Nat) := by
    rw [show (p0 : Int) + (t : Nat) = ((p0 + t : Nat) : Int) by push_cast; rfl, hp]
    exact IntWalk.i64_in _ (by omega)
  have m3 : (0 : Int) ≤ (p : Nat) := by omega
  have m4 : ((p : Nat) : Int).toNat = p := by omega
  have m5 : (p : Int) < ((n * n : Nat) : Int) := by omega
  have ff1 : (0 : Int) ≤ (f : Nat) := by omega
  have ff2 : ((f : Nat) : Int).toNat = f := by omega
  have ff3 : (f : Int) < (n : Nat) := by omega
  have ft1 : (0 : Int) ≤ (t : Nat) := by omega
  have ft2 : ((t : Nat) : Int).toNat = t := by omega
  have ft3 : (t : Int) < (n : Nat) := by omega
  obtain ⟨row, b5, o5, Aw, nw, cw, hrow, rfl, hb5, rw1, k5⟩ := ints_get h.r1 hpn
  have HRW := Lib.hid rw1
  have HNW : Hid (nw = row.length) := Lib.hid rw1.1.symm
  have hWP : (Pl.viewN n b).W f t = row := by show Pl.wayAt b (f * n + t) = row; rw [hp0, hp]; exact Pl.wayAt_of hrow
  have HB := Lib.hid h
  have HBW := Lib.hid hB
  have HJ := Lib.hid hJ
  have HI := Lib.hid hI
  have HF := Lib.hid hf
  have HT := Lib.hid ht
  have HWP := Lib.hid hWP
  have HA := Lib.hid ha
  have e0 := h.e0
  have e1 := h.e1
  clear h hB hJ hI hf ht hWP hp hp0 hpn hrow rw1 ha
  go_enter Try.func66, Try.ntmps66
  go_upto_region 1 with fail
  refine wp_region_und (by kernel_rfl) (by kernel_rfl) ?_
  repeat (go_big_quiet_step ((first | fail)))
  refine wpQuiet_nil ?_
  intro X hX
  have hXs := hX.size
  have HX := Lib.hid hX
  replace HB := Lib.hid (HB.out.below hX HBW.out)
  replace HRW := Lib.hid (HRW.out.keep (w' := X) fun b hb => hX.block b (by have := HBW.out; omega))
  clear e0 e1 k5 hX
  have e0 := HB.out.e0
  have e1 := HB.out.e1
  have e2 := HB.out.e2
  have e3 := HB.out.e3
  have e4 := HB.out.e4
  obtain ⟨kf, b1, o1, hkf, rfl, hb1, -, k1⟩ := int_get HB.out.r2 HF.out
  obtain ⟨kt, hkt, -, -, k2⟩ := int_get' HB.out.r2 HT.out
  obtain ⟨hr, b3, o3, Ah, nh, ch, hhr, rfl, hb3, rh, k3⟩ := bools_get HB.out.r3 HT.out
  obtain ⟨fr, b4, o4, Af, nf, cf, hfr, rfl, hb4, rf, k4⟩ := ints_get HB.out.r4 HF.out
  have hnh : nh = n := by have h1 := rh.1; have h2 := HI.out.hr hr (List.mem_of_getElem? hhr); have h3 := HJ.out.len; omega
  have hnf : nf = n := by have h1 := rf.1; have h2 := HI.out.fr fr (List.mem_of_getElem? hfr); have h3 := HJ.out.len; omega
  subst hnh
  subst hnf
  have hFV := Pl.foundAt_of hfr (show fr[t]? = some (fr[t]'(by have := rf.1; have := HT.out; omega)) from List.getElem?_eq_getElem _)
  obtain ⟨fv, b6, o6, hfv, rfl, hb6, -, k6⟩ := int_get rf HT.out
  obtain ⟨hv, b7, o7, hhv, rfl, hb7, k7⟩ := bool_get rh HF.out
  have HKF : Hid ((Pl.viewN nf b).K f = kf) := Lib.hid (Pl.keptAt_of hkf)
  have HKT : Hid ((Pl.viewN nf b).K t = kt) := Lib.hid (Pl.keptAt_of hkt)
  have HFV : Hid ((Pl.viewN nf b).F f t = fv) := Lib.hid (Pl.foundAt_of hfr hfv)
  have HHV : Hid ((Pl.viewN nf b).H t f = hv) := Lib.hid (Pl.heardAt_of hhr hhv)
  clear hkf hkt hhr hfr hfv hhv rf rh hFV
  have hm9 : IntKind.i64.wrap ((40 : Int) - 1) = 39 := by rfl
  by_cases hft : f = t
  · have hd := HJ.out.jv.dg t HT.out
    have hq : row = [] ∧ fv = 0 ∧ hv = false := by
      rw [← HWP.out, ← HFV.out, ← HHV.out, hft]; exact hd
    have q0 : ((f : Int) == (t : Nat)) = true := by simp [hft]
    have q1 : ((nw : Int) == 0) = true := by have := HNW.out; rw [hq.1] at this; simp at this; simp [this]
    have q2 : (fv == 0) = true := by rw [hq.2.1]; rfl
    obtain rfl := hq.2.2
    clear hd hq hft
    by_cases hk : kf < 0
    all_goals
      as_aux_lemma =>
      go_wp2
      go_ret
      exact ⟨rfl, HX.out⟩
  · have q0 : ((f : Int) == (t : Nat)) = false := by simp; omega
    have hfd : kt < 0 → fv = 0 ∧ hv = false := fun hk => ⟨by rw [← HFV.out]; exact HJ.out.jv.fd f t HF.out HT.out (by rw [HKT.out]; exact hk), by
      cases hh : hv with
      | false => rfl
      | true => have := (HJ.out.jv.hh f t HF.out HT.out (by rw [HHV.out, hh])).2; rw [HKT.out] at this; omega⟩
    have hl1 : row.length ≤ 40 := by rw [← HWP.out]; exact HJ.out.jv.l1 f t HF.out HT.out
    have hl2 : kf < 0 → row.length ≤ 39 := fun hk => by rw [← HWP.out]; exact HJ.out.jv.l2 f t HF.out HT.out (by rw [HKF.out]; exact hk)
    have hfv0 : 0 ≤ fv ∧ fv ≤ 1000 := by
      rw [← HFV.out]
      have h1 := HJ.out.jv.fn f t HF.out HT.out
      have h2 := HJ.out.jv.fle HF.out HT.out
      have := HA.out
      omega
    have hall : row.any (fun x => !Pl.coinOk x) = false := by
      rw [Pl.coins_any]
      have : row.all Pl.coinOk = true := List.all_eq_true.2 fun x hx => by
        have := HJ.out.jv.wi f t HF.out HT.out x (by rw [HWP.out]; exact hx)
        exact Pl.isIn_iff.2 this
      rw [this]; rfl
    have CC := coinW3_c row Aw nw cw X B HRW.out (by have := HBW.out; omega)
    rw [hall] at CC
    have CF := within_c fv 0 1000 X
    rw [Pl.isIn_iff.2 hfv0] at CF
    have HFD := Lib.hid hfd
    have HL1 := Lib.hid hl1
    have HL2 := Lib.hid hl2
    clear hfd hl1 hl2 hfv0 hall hft
    by_cases hk : kf < 0
    · have g1 : nw ≤ 39 := by have := HL2.out hk; have := HNW.out; omega
      by_cases hk2 : kt < 0
      · as_aux_lemma =>
        have q2 : (fv != 0) = false := by rw [(HFD.out hk2).1]; rfl
        obtain rfl := (HFD.out hk2).2
        go_wp2_with first
          | (go_at_call 56; (with_reducible refine CF.mono ?_); clear CF; rintro e w1 ⟨rfl, rfl⟩)
          | (go_at_call 57; (with_reducible refine CC.mono ?_); clear CC; rintro e w2 ⟨rfl, hb2⟩)
        go_ret
        exact ⟨rfl, below_step HX.out hb2⟩
      · as_aux_lemma =>
        go_wp2_with first
          | (go_at_call 56; (with_reducible refine CF.mono ?_); clear CF; rintro e w1 ⟨rfl, rfl⟩)
          | (go_at_call 57; (with_reducible refine CC.mono ?_); clear CC; rintro e w2 ⟨rfl, hb2⟩)
        go_ret
        exact ⟨rfl, below_step HX.out hb2⟩
    · have g1 : nw ≤ 40 := by have := HL1.out; have := HNW.out; omega
      by_cases hk2 : kt < 0
      · as_aux_lemma =>
        have q2 : (fv != 0) = false := by rw [(HFD.out hk2).1]; rfl
        obtain rfl := (HFD.out hk2).2
        go_wp2_with first
          | (go_at_call 56; (with_reducible refine CF.mono ?_); clear CF; rintro e w1 ⟨rfl, rfl⟩)
          | (go_at_call 57; (with_reducible refine CC.mono ?_); clear CC; rintro e w2 ⟨rfl, hb2⟩)
        go_ret
        exact ⟨rfl, below_step HX.out hb2⟩
      · as_aux_lemma =>
        go_wp2_with first
          | (go_at_call 56; (with_reducible refine CF.mono ?_); clear CF; rintro e w1 ⟨rfl, rfl⟩)
          | (go_at_call 57; (with_reducible refine CC.mono ?_); clear CC; rintro e w2 ⟨rfl, hb2⟩)
        go_ret
        exact ⟨rfl, below_step HX.out hb2⟩
end Go.Proofs.Ytpmeagchkcffoaa

/-
  Contracts: a bank in order is found valid (isBank, GoodBank of the program). Conditions: the snapshot is in order, and there are at most 250 coins.
-/
namespace Go.Proofs.Ytpmeagchkcffoaa
open Go.RowKit
attribute [local go_sem] und_cell cha_cell World.cell?_alloc_some
theorem bankRd_new {w : World} {B n ga : Nat} {b : Bank} {cs : List Value} {all : Int} (hh : rBankW.at_ w B b cs) (hB : B ≤ w.heap.size) (hJ : Pl.JB n all b) (hga : w.heap.size = ga) :
    ∃ A0 A1 A2 A3 A4 c0 c1 c2 c3 c4, cs = [.slice A0 n c0, .slice A1 (n * n) c1, .slice A2 n c2, .slice A3 n c3, .slice A4 n c4] ∧ BankRd (w.alloc (.cells #[.slice A0 n c0, .slice A1 (n * n) c1, .slice A2 n c2, .slice A3 n c3, .slice A4 n c4] 28)) B ga n b A0 A1 A2 A3 A4 c0 c1 c2 c3 c4 := by
  obtain ⟨A0, n0, c0, A1, n1, c1, A2, n2, c2, A3, n3, c3, A4, n4, c4, rfl, r0, r1, r2, r3, r4⟩ := rBankW_at hh
  obtain ⟨q, hI⟩ := hJ.bi
  have hn := hJ.len
  obtain rfl : n0 = n := by have := r0.1; omega
  obtain rfl : n1 = n0 * n0 := by rw [← r1.1, hI.wa, hn]
  obtain rfl : n2 = n0 := by have h1 := r2.1; rw [hI.ke] at h1; omega
  obtain rfl : n3 = n2 := by have h1 := r3.1; rw [hI.he] at h1; omega
  obtain rfl : n4 = n3 := by have h1 := r4.1; rw [hI.fo] at h1; omega
  subst hga
  have hb := Mm.Blk.new w 28 [.slice A0 n4 c0, .slice A1 (n4 * n4) c1, .slice A2 n4 c2, .slice A3 n4 c3, .slice A4 n4 c4]
  have k : ∀ b, b < B → (w.alloc (.cells #[.slice A0 n4 c0, .slice A1 (n4 * n4) c1, .slice A2 n4 c2, .slice A3 n4 c3, .slice A4 n4 c4] 28)).heap[b]? = w.heap[b]? := fun b hb => Below.heap_alloc w _ b (by omega)
  exact ⟨A0, A1, A2, A3, A4, c0, c1, c2, c3, c4, rfl, hb.cell (i := 0) rfl, hb.cell (i := 1) rfl, hb.cell (i := 2) rfl, hb.cell (i := 3) rfl, hb.cell (i := 4) rfl, r0.keep k, r1.keep k, r2.keep k, r3.keep k, r4.keep k⟩
set_option maxRecDepth 100000 in
set_option maxHeartbeats 4000000 in
theorem isBank_yes (b : Bank) (n : Nat) (all : Int) (cs : List Value) (w : World) (B : Nat) (hh : rBankW.at_ w B b cs) (hB : B ≤ w.heap.size) (hJ : Pl.JB n all b) (ha : all ≤ 250) :
    Calls Try.prog 47 #[.agg cs.toArray] w fun e w' => e = .returned (.bool true) ∧ Below w.heap.size w w' := by
  obtain ⟨ga, hga⟩ : ∃ g, w.heap.size = g := ⟨_, rfl⟩
  obtain ⟨A0, A1, A2, A3, A4, c0, c1, c2, c3, c4, rfl, hR⟩ := bankRd_new hh hB hJ hga
  obtain ⟨W0, hW0⟩ : ∃ W, w.alloc (.cells #[.slice A0 n c0, .slice A1 (n * n) c1, .slice A2 n c2, .slice A3 n c3, .slice A4 n c4] 28) = W := ⟨_, rfl⟩
  have hb0 : Below w.heap.size w W0 := by rw [← hW0]; exact below_new (Below.refl _ _) _
  rw [hW0] at hR
  have HB := Lib.hid hR
  have HB0 := Lib.hid hb0
  have hB0 : B ≤ W0.heap.size := Nat.le_trans hB hb0.size
  have hI := hJ.bi40 ha
  have hn5 : n ≤ 5 := by rw [← hJ.len]; exact hI.n5
  have hn1 : 1 ≤ n := by rw [← hJ.len]; exact hI.n1
  have hn25 := sq_le hn5
  obtain ⟨n2, hn2⟩ : ∃ n2, n * n = n2 := ⟨_, rfl⟩
  have m1 : IntKind.i64.wrap ((n : Int) * (n : Nat)) = (n2 : Nat) := by
    rw [show (n : Int) * (n : Nat) = ((n * n : Nat) : Int) by push_cast; rfl, hn2]
    exact IntWalk.i64_in _ (by omega)
  have hq2 : ((n2 : Int) != (n2 : Nat)) = false := by simp
  have hq : ((n : Int) != (n : Nat)) = false := by simp
  have CN := within_c (n : Int) 1 5 W0
  rw [show Pl.isIn (n : Nat) 1 5 = true from Pl.isIn_iff.2 (by omega)] at CN
  have HJ := Lib.hid hJ
  have HI := Lib.hid hI
  have HA := Lib.hid ha
  rw [hn2] at hn25
  have HN2 := Lib.hid hn2
  clear hh hB hR hJ ha hI hb0
  have e0 := HB.out.e0
  have e1 := HB.out.e1
  have e2 := HB.out.e2
  have e3 := HB.out.e3
  have e4 := HB.out.e4
  rw [hn2] at e1
  rw [show (n * n) = n2 from hn2] at hW0
  rw [hn2]
  clear hn2
  go_enter Try.func47, Try.ntmps47
  go_upto_region 1 with fail
  clear hW0 hga
  go_upto_region 4 with (go_at_call 56; (with_reducible refine CN.mono ?_); clear CN; rintro e w1 ⟨rfl, rfl⟩)
  go_wp2
  clear e0 e1 e2 e3 e4
  go_loopg [44] n (fun g i wr => ∃ k : Nat, n - k ≤ g ∧ k ≤ n ∧ i = .int .i64 k ∧ wr = W0)
  case atStart => exact ⟨0, Nat.le_refl _, Nat.zero_le _, rfl, rfl⟩
  case round =>
    obtain ⟨k, hgk, hk, rfl, rfl⟩ := hrel
    by_cases hlt : k < n
    · as_aux_lemma =>
      have hlt' : (k : Int) < (n : Nat) := by omega
      have fk1 : (0 : Int) ≤ (k : Nat) := by omega
      have fk2 : ((k : Nat) : Int).toNat = k := by omega
      obtain ⟨cv, b0, o0, hcv, rfl, hb0, -, k0⟩ := int_get HB.out.r0 hlt
      obtain ⟨kv, b2, o2, hkv, rfl, hb2, -, k2⟩ := int_get HB.out.r2 hlt
      obtain ⟨hr, b3, o3, Ah, nh, ch, hhr, rfl, hb3, rh, k3⟩ := bools_get HB.out.r3 hlt
      obtain ⟨fr, b4, o4, Af, nf, cf, hfr, rfl, hb4, rf, k4⟩ := ints_get HB.out.r4 hlt
      have hnh : nh = n := by have h1 := rh.1; have h2 := HI.out.hr hr (List.mem_of_getElem? hhr); have h3 := HJ.out.len; omega
      have hnf : nf = n := by have h1 := rf.1; have h2 := HI.out.fr fr (List.mem_of_getElem? hfr); have h3 := HJ.out.len; omega
      have hc1 := HJ.out.jv.cn k hlt
      have hc2 := HJ.out.jv.cle hlt
      have hk1 := HJ.out.jv.kn k hlt
      have hk2 := HJ.out.jv.kle hlt
      rw [show (Pl.viewN n b).C k = cv from Pl.coinAt_of hcv] at hc1 hc2
      rw [show (Pl.viewN n b).K k = kv from Pl.keptAt_of hkv] at hk1 hk2
      have ha := HA.out
      have CA := within_c cv 0 1000 wr
      rw [Pl.isIn_iff.2 (show 0 ≤ cv ∧ cv ≤ 1000 by omega)] at CA
      have CB := within_c kv (-1) 1000 wr
      rw [Pl.isIn_iff.2 (show -1 ≤ kv ∧ kv ≤ 1000 by omega)] at CB
      subst hnh hnf
      clear hcv hkv hhr hfr rh rf hc1 hc2 hk1 hk2 ha
      have e0 := HB.out.e0
      have e1 := HB.out.e1
      have e2 := HB.out.e2
      have e3 := HB.out.e3
      have e4 := HB.out.e4
      go_wp2_with first
        | (go_at_call 56; (with_reducible refine CA.mono ?_); clear CA; rintro e w1 ⟨rfl, rfl⟩)
        | (go_at_call 56; (with_reducible refine CB.mono ?_); clear CB; rintro e w1 ⟨rfl, rfl⟩)
      go_roundg (nf - (k + 1))
      case measure => omega
      case rel => exact ⟨k + 1, Nat.le_refl _, by omega, by go_num, rfl⟩
    · as_aux_lemma =>
      obtain rfl : k = n := by omega
      have hlt' : ¬ ((k : Nat) : Int) < (k : Nat) := by omega
      go_wp2
      clear hlt hlt'
      obtain ⟨W1, rfl⟩ : ∃ W1 : World, W1 = wr := ⟨_, rfl⟩
      go_loopg [85] k (fun g i wr => ∃ f : Nat, k - f ≤ g ∧ f ≤ k ∧ i = .int .i64 f ∧ Hid (Below W1.heap.size W1 wr))
      case atStart => exact ⟨0, Nat.le_refl _, Nat.zero_le _, rfl, Lib.hid (Below.refl _ _)⟩
      case round =>
        obtain ⟨f, hgf, hf, rfl, HBX⟩ := hrel
        obtain ⟨wo, rfl⟩ : ∃ wo : World, wo = wr := ⟨_, rfl⟩
        by_cases hlt : f < k
        · as_aux_lemma =>
          have hlt' : (f : Int) < (k : Nat) := by omega
          go_wp2
          obtain ⟨go, rfl⟩ : ∃ go : Nat, go = gk := ⟨_, rfl⟩
          go_loopg [89] k (fun g i wr => ∃ t : Nat, k - t ≤ g ∧ t ≤ k ∧ i = .int .i64 t ∧ Hid (Below W1.heap.size W1 wr))
          case atStart => exact ⟨0, Nat.le_refl _, Nat.zero_le _, rfl, HBX⟩
          case round =>
            clear HBX
            obtain ⟨t, hgt, ht, rfl, HBX⟩ := hrel
            by_cases hlt2 : t < k
            · as_aux_lemma =>
              have hlt2' : (t : Int) < (k : Nat) := by omega
              have CW := isWay_yes b k f t ga all _ _ _ _ _ _ _ _ _ _ _ B (HB.out.below HBX.out hB0) (Nat.le_trans hB0 HBX.out.size) HJ.out HA.out hlt hlt2
              go_wp2_with (go_at_call 66; (with_reducible refine CW.mono ?_); clear CW; rintro e w1 ⟨rfl, hb1⟩; (have HB1 := Lib.hid (below_step HBX.out hb1)); clear hb1)
              go_roundg (k - (t + 1))
              case measure => omega
              case rel => exact ⟨t + 1, Nat.le_refl _, by omega, by go_num, HB1⟩
            · as_aux_lemma =>
              obtain rfl : t = k := by omega
              have hlt2' : ¬ ((t : Nat) : Int) < (t : Nat) := by omega
              go_wp2
              go_roundg (t - (f + 1))
              case measure => omega
              case rel => exact ⟨f + 1, Nat.le_refl _, by omega, by go_num, HBX⟩
        · as_aux_lemma =>
          obtain rfl : f = k := by omega
          have hlt' : ¬ ((f : Nat) : Int) < (f : Nat) := by omega
          go_wp2
          go_ret
          exact ⟨rfl, below_step HB0.out HBX.out⟩
set_option maxRecDepth 100000 in
theorem goodBank_yes (b : Bank) (n : Nat) (all : Int) (cs : List Value) (w : World) (B : Nat) (hh : rBankW.at_ w B b cs) (hB : B ≤ w.heap.size) (hJ : Pl.JB n all b) (ha : all ≤ 250) :
    Calls Try.prog 24 #[.agg cs.toArray] w fun e w' => e = .returned (.bool true) ∧ Below w.heap.size w w' := by
  obtain ⟨ga, hga⟩ : ∃ g, w.heap.size = g := ⟨_, rfl⟩
  obtain ⟨A0, A1, A2, A3, A4, c0, c1, c2, c3, c4, rfl, hR⟩ := bankRd_new hh hB hJ hga
  obtain ⟨W0, hW0⟩ : ∃ W, w.alloc (.cells #[.slice A0 n c0, .slice A1 (n * n) c1, .slice A2 n c2, .slice A3 n c3, .slice A4 n c4] 28) = W := ⟨_, rfl⟩
  have hb0 : Below w.heap.size w W0 := by rw [← hW0]; exact below_new (Below.refl _ _) _
  rw [hW0] at hR
  have HB := Lib.hid hR
  have HB0 := Lib.hid hb0
  have C := isBank_yes b n all _ W0 B (rBankW.keep hh fun b hb => hb0.block b (by omega)) (Nat.le_trans hB hb0.size) hJ ha
  clear hh hB hR hJ ha hb0
  have e0 := HB.out.e0
  have e1 := HB.out.e1
  have e2 := HB.out.e2
  have e3 := HB.out.e3
  have e4 := HB.out.e4
  go_enter Try.func24, Try.ntmps24
  go_upto_region 1 with fail
  clear hW0 hga
  go_wp2_with (go_at_call 47; (with_reducible refine C.mono ?_); clear C; rintro e w1 ⟨rfl, hb1⟩)
  go_ret
  exact ⟨rfl, below_step HB0.out hb1⟩
end Go.Proofs.Ytpmeagchkcffoaa

/-
  Contracts: slices.Concat of lists of numbers; the coins and the picture of a bank in order (TotalIn, IsTaken, PictureOf of the program). Conditions as named: the snapshot is in order, and there are at most 250 coins.
-/
namespace Go.Proofs.Ytpmeagchkcffoaa
open Go.RowKit
attribute [local go_sem] und_cell cha_cell World.cell?_alloc_some
namespace Mm
/-- a block of two headers, made of what the operands hold; the things taken stay -/
def gHd (e : TypeId) : Rel := fun vals tk v ds => ∃ g, v = .slice (some ⟨g, 0, none⟩) 2 2 ∧ ds = tblk g e vals :: tk
theorem gHd_in {e : TypeId} {vals : List Value} {tk : List Thing} : ∃ v ds, gHd e vals tk v ds := ⟨_, _, 0, rfl, rfl⟩
theorem gvq_hd {F : List Nat} {w X : World} {others tk : List Thing} {e : TypeId} {vals : List Value} {g d : Nat} {df : List Deferred} {a' : Act} (h : SepF F w X (tk ++ others)) (hg : X.heap.size = g) (hv : a'.tmps.getD d undef = .slice (some ⟨g, 0, none⟩) 2 2) (hdf : a'.defers = df) : GvQ F w (gHd e vals tk) d df others .normal a' (X.alloc (.cells vals.toArray e)) :=
  ⟨rfl, hdf, _, ⟨_, hv, rfl⟩, h.alloc' hg e vals⟩
end Mm
theorem two_rows {w : World} {g : Nat} {a b : List Int} {A1 A2 : Option Addr} {n1 c1 n2 c2 B : Nat} (hg : g < B) (e0 : w.cell? ⟨g, 0, none⟩ = some (.slice A1 n1 c1)) (e1 : w.cell? ⟨g, 1, none⟩ = some (.slice A2 n2 c2)) (h1 : Mm.SlAt Mm.int w B a A1 n1 c1) (h2 : Mm.SlAt Mm.int w B b A2 n2 c2) : Mm.SlAt ints w B [a, b] (some ⟨g, 0, none⟩) 2 2 := by
  refine ⟨rfl, Nat.le_refl _, by unfold maxLen; omega, fun h => (by cases h), fun i x hx => ?_⟩
  rcases i with _ | _ | i
  · simp at hx; subst hx
    refine ⟨g, 0, [.slice A1 n1 c1], rfl, hg, ⟨_, _, _, rfl, h1⟩, fun j u hj => ?_⟩
    rcases j with _ | j
    · simp at hj; subst hj; exact e0
    · simp at hj
  · simp at hx; subst hx
    refine ⟨g, 0, [.slice A2 n2 c2], rfl, hg, ⟨_, _, _, rfl, h2⟩, fun j u hj => ?_⟩
    rcases j with _ | j
    · simp at hj; subst hj; exact e1
    · simp at hj
  · simp at hx
theorem Try.infoIntD : (Try.prog.info? 3).map (fun i => (i.zero, i.size, i.bytes)) = some (some (.int .i64 0), 1, 8) := by kernel_rfl
def IntsAns (l : List Int) (n : Nat) (w : World) (e : Ending) (w' : World) : Prop := ∃ A c fp, e = .returned (.slice A n c) ∧ Mm.SepF [] w w' [Mm.tsl Mm.int 3 l (.slice A n c) fp]
/-- a list with nothing in it, and room for many -/
theorem growInt_c (m : Nat) (w : World) (hm : m ≤ 5000) : Calls Try.prog 67 #[.slice none 0 0, .int .i64 m] w (IntsAns [] 0 w) := by
  obtain ⟨i0, hi, hz0, hzs, hzb⟩ := info_parts Try.infoIntD
  rcases Nat.eq_zero_or_pos m with rfl | h0
  · go_enter Try.func67, Try.ntmps67
    go_wp2
    go_ret
    exact ⟨none, 0, [], rfl, (Mm.SepF.start w).add (Below.refl _ _) (t := Mm.tsl Mm.int 3 [] (.slice none 0 0) []) Mm.SlOwn.nil List.nodup_nil (fun b hb => by cases hb)⟩
  · obtain ⟨G, hG⟩ : ∃ G, G = grownCap w m 0 3 := ⟨_, rfl⟩
    obtain ⟨ROW, hROW⟩ : ∃ ROW : Array Value, ROW = Builtin.zeroCells (Value.int .i64 0).cells m ++ Builtin.zeroCells (Value.int .i64 0).cells (G - m) := ⟨_, rfl⟩
    have hrz : ∀ ty, (Builtin.append_ #[22, 3] ty #[.slice none 0 0, .int .i64 m]).run Try.prog w = .ok (.slice (some ⟨w.heap.size, 0, none⟩) m G) (w.drew.alloc (.cells ROW 3)) := fun ty => by
      rw [hROW, hG]
      exact Lib.run_append_nil_zeros w 22 3 ty 3 i0 _ .i64 .i64 Try.underlying22 Try.underlying3 hi hz0 m h0 (by omega) (by omega) (by rw [hzb]; omega)
    have hGn : m ≤ G := by rw [hG]; exact grownCap_ge w _ _ _
    have hGm : G ≤ maxLen := by rw [hG]; exact grownCap_le_maxLen w m 0 3 (by unfold maxLen; omega)
    have hRs : ROW.size = G := by
      rw [hROW]
      simp only [Array.size_append, Mm.zeroCells_len]
      show m * 1 + (G - m) * 1 = _
      omega
    have hm0 : ¬ ((m : Int) < 0) := by omega
    have hm1 : (0 : Int) < (m : Nat) := by omega
    have hw : IntKind.i64.wrap (m : Int) = m := IntWalk.i64_in _ (by omega)
    have hg0 : (0 : Int) ≤ (G : Nat) := by omega
    have HG := Lib.hid (And.intro hGn (And.intro hGm hRs))
    have hB1 := Lib.hid (show Mm.Blk (w.drew.alloc (.cells ROW 3)) w.heap.size 3 ROW.toList by
      have := Mm.Blk.new w.drew 3 ROW.toList
      rw [Array.toArray_toList] at this
      exact this)
    clear hG hROW hGn hGm hRs
    go_enter Try.func67, Try.ntmps67
    go_wp2_with (at_builtin; refine Lib.wpList_append_run _ rfl _ _ _ _ rfl _ _ rfl rfl _ _ (hrz _) ?_)
    go_ret
    have ho : (w.drew.alloc (.cells ROW 3)).ownsRow 0 3 1 (.slice (some ⟨w.heap.size, 0, none⟩) 0 G) 0 [] := ⟨by simp, .inr ⟨w.heap.size, G, ROW, rfl, Nat.zero_le _, (by
      have := hB1.out
      unfold Mm.Blk at this
      rw [Array.toArray_toList] at this
      exact this), Nat.zero_le _, HG.out.2.1, by rw [HG.out.2.2]; omega, by simp⟩⟩
    have hs : Mm.SlOwn Mm.int 3 (w.drew.alloc (.cells ROW 3)) [] (.slice (some ⟨w.heap.size, 0, none⟩) 0 G) [w.heap.size] := ⟨[], ⟨rfl, fun i x y h => by simp at h⟩, ho, rfl⟩
    exact ⟨_, _, _, rfl, (Mm.SepF.start w).add ((Below.refl _ _).drew.alloc (by exact Nat.le_refl _) _) (t := Mm.tsl Mm.int 3 [] (.slice (some ⟨w.heap.size, 0, none⟩) 0 G) [w.heap.size]) hs (by simp [Mm.tsl]) (by simp [Mm.tsl])⟩
theorem flat_take_le (xs : List (List Int)) (k : Nat) : (xs.take k).flatten.length ≤ xs.flatten.length := by
  conv => rhs; rw [← List.take_append_drop k xs, List.flatten_append, List.length_append]
  omega
theorem flat_take_succ {xs : List (List Int)} {k : Nat} {x : List Int} (h : xs[k]? = some x) : (xs.take (k + 1)).flatten = (xs.take k).flatten ++ x := by
  rw [Mm.take_succ_some h, List.flatten_append]; simp
set_option maxRecDepth 100000 in
set_option maxHeartbeats 1000000 in
theorem concatInts_c (xs : List (List Int)) (A : Option Addr) (n c T : Nat) (w : World) (B : Nat) (h : Mm.SlAt ints w B xs A n c) (hB : B ≤ w.heap.size) (hT : xs.flatten.length = T) (hT5 : T ≤ 5000) :
    Calls Try.prog 48 #[.slice A n c] w (IntsAns xs.flatten T w) := by
  have hn : n ≤ maxLen := Nat.le_trans h.2.1 h.2.2.1
  unfold maxLen at hn
  have HL := Lib.hid h
  have HLN : Hid (xs.length = n) := h.1
  have HT := Lib.hid hT
  have HBW := Lib.hid hB
  obtain ⟨iI, qI, qI0, qI1, qI2⟩ := info_parts Try.infoIntD
  clear h hB hT
  go_enter Try.func48, Try.ntmps48
  go_wp2
  go_loopg [3, 11] n (fun g s i wr => ∃ k m : Nat, n - k ≤ g ∧ k ≤ n ∧ s = .int .i64 m ∧ i = .int .i64 k ∧ Hid ((xs.take k).flatten.length = m) ∧ w = wr)
  case atStart => exact ⟨0, 0, Nat.le_refl _, Nat.zero_le _, rfl, rfl, Lib.hid (by simp), rfl⟩
  case round =>
    obtain ⟨k, m, hgk, hk, rfl, rfl, HM, rfl⟩ := hrel
    have hm5 : m ≤ 5000 := by have h1 := flat_take_le xs k; have := HM.out; have := HT.out; omega
    by_cases hlt : k < n
    · as_aux_lemma =>
      have hlt' : (k : Int) < (n : Nat) := by omega
      obtain ⟨x, b, off, Ar, nr, cr, hx, rfl, hb, hr, e0⟩ := ints_get HL.out hlt
      have hnx := flat_take_succ hx
      have h2 := flat_take_le xs (k + 1)
      have HM2 : Hid ((xs.take (k + 1)).flatten.length = m + nr) := Lib.hid (by rw [hnx, List.length_append, HM.out, hr.1])
      have hmn : m + nr ≤ 5000 := by have := HM2.out; have := HT.out; omega
      have f2 : IntKind.i64.wrap ((m : Int) + (nr : Int)) = ((m + nr : Nat) : Int) := by rw [IntWalk.i64_in _ (by omega)]; push_cast; rfl
      have f1 : ¬ (((m + nr : Nat) : Int) < 0) := by omega
      clear hx hr hnx h2
      go_wp2
      go_roundg (n - (k + 1))
      case measure => omega
      case rel => exact ⟨k + 1, m + nr, Nat.le_refl _, by omega, rfl, by go_num, HM2, rfl⟩
    · as_aux_lemma =>
      obtain rfl : k = n := by omega
      have hlt' : ¬ ((k : Nat) : Int) < (k : Nat) := by omega
      have HE : Hid (xs.take k = xs) := Lib.hid (List.take_of_length_le (by rw [HLN.out]; exact Nat.le_refl _))
      have hmT : m = T := by have := HM.out; rw [HE.out] at this; have := HT.out; omega
      subst hmT
      have CG := growInt_c m w (by omega)
      go_wp2_with (go_at_call 67; (with_reducible refine CG.mono ?_); clear CG; rintro e w1 ⟨A1, c1, f1, rfl, hs1⟩; (have KS := Lib.hid hs1); clear hs1)
      go_loopg [6, 27] k (fun g o i wr => ∃ (j m' : Nat) (A' : Option Addr) (c' : Nat) (fp : List Nat), k - j ≤ g ∧ j ≤ k ∧ o = .slice A' m' c' ∧ i = .int .i64 j ∧ Hid ((xs.take j).flatten.length = m') ∧ Hid (Mm.SepF [] w wr [Mm.tsl Mm.int 3 (xs.take j).flatten (.slice A' m' c') fp]))
      case atStart => exact ⟨0, 0, A1, c1, f1, Nat.le_refl _, Nat.zero_le _, rfl, rfl, Lib.hid (by simp), Lib.hid (by simpa using KS.out)⟩
      case round =>
        clear KS HM hlt hlt'
        obtain ⟨j, m', A', c', fp, hgj, hj, rfl, rfl, HM, HS⟩ := hrel
        obtain ⟨W, rfl⟩ : ∃ W : World, W = wr := ⟨_, rfl⟩
        by_cases hlt : j < k
        · as_aux_lemma =>
          have hlt' : (j : Int) < (k : Nat) := by omega
          have hbel := HS.out.bel0
          obtain ⟨x, b, off, Ar, nr, cr, hx, rfl, hb, hr, e0⟩ := ints_get (HL.out.keep (w' := W) fun b hb => hbel.block b (by have := HBW.out; omega)) hlt
          have hnx := flat_take_succ hx
          have h2 := flat_take_le xs (j + 1)
          have HM2 : Hid ((xs.take (j + 1)).flatten.length = m' + nr) := Lib.hid (by rw [hnx, List.length_append, HM.out, hr.1])
          have hmn : m' + nr ≤ 5000 := by have := HM2.out; have := HT.out; omega
          have HNX := Lib.hid hnx
          have HR := Lib.hid hr
          have HML : Hid ((xs.take j).flatten.length + nr = m' + nr) := Lib.hid (by rw [HM.out])
          clear hx hr hnx h2
          go_wp2_with (at_builtin; refine Mm.wpList_appMany rfl (.tmp 31) (.tmp 32) 22 rfl Mm.flat_int Mm.flatN_int' iI _ 8 Try.underlying22 qI qI0 qI1 qI2 rfl HS.out 0 rfl HR.out (m := m' + nr) HML.out (by unfold maxLen; omega) (by omega) rfl rfl ?_; intro A5 c5 f5 w5 hs5; (have HS5 := Lib.hid hs5); clear hs5)
          go_roundg (k - (j + 1))
          case measure => omega
          case rel => exact ⟨j + 1, m' + nr, A5, c5, f5, Nat.le_refl _, by omega, rfl, by go_num, HM2, by rw [HNX.out]; exact HS5⟩
        · as_aux_lemma =>
          obtain rfl : j = k := by omega
          have hlt' : ¬ ((j : Nat) : Int) < (j : Nat) := by omega
          rw [HE.out] at HS HM
          have hm2 : m' = m := by have := HM.out; have := HT.out; omega
          subst hm2
          go_wp2
          go_ret
          exact ⟨A', c', fp, rfl, HS.out⟩
theorem lsum_bnd {l : List Int} (h : ∀ x, x ∈ l → 0 ≤ x ∧ x ≤ 1000) : ∀ k, k ≤ l.length → 0 ≤ Pl.lsum (l.take k) ∧ Pl.lsum (l.take k) ≤ 1000 * k
  | 0, _ => by simp [Pl.lsum]
  | k + 1, hk => by
    have hx : l[k]? = some l[k] := List.getElem?_eq_getElem (by omega)
    have h1 := lsum_bnd h k (by omega)
    have h2 := h _ (List.getElem_mem (show k < l.length by omega))
    rw [Mm.take_succ_some hx, Pl.lsum_append, show Pl.lsum [l[k]] = l[k] by simp [Pl.lsum]]
    push_cast
    omega
theorem lsum_next {l : List Int} {k : Nat} {x : Int} (h : l[k]? = some x) : Pl.lsum (l.take (k + 1)) = Pl.lsum (l.take k) + x := by
  rw [Mm.take_succ_some h, Pl.lsum_append, show Pl.lsum [x] = x by simp [Pl.lsum]]
set_option maxRecDepth 100000 in
set_option maxHeartbeats 4000000 in
theorem totalIn_yes (b : Bank) (n : Nat) (all : Int) (cs : List Value) (w : World) (B : Nat) (hh : rBankW.at_ w B b cs) (hB : B ≤ w.heap.size) (hJ : Pl.JB n all b) (ha : all ≤ 250) :
    Calls Try.prog 23 #[.agg cs.toArray] w fun e w' => e = .returned (.tuple #[.int .i64 all, .bool true]) ∧ Below w.heap.size w w' := by
  obtain ⟨ga, hga⟩ : ∃ g, w.heap.size = g := ⟨_, rfl⟩
  obtain ⟨A0, A1, A2, A3, A4, c0, c1, c2, c3, c4, rfl, hR⟩ := bankRd_new hh hB hJ hga
  obtain ⟨W0, hW0⟩ : ∃ W, w.alloc (.cells #[.slice A0 n c0, .slice A1 (n * n) c1, .slice A2 n c2, .slice A3 n c3, .slice A4 n c4] 28) = W := ⟨_, rfl⟩
  have hb0 : Below w.heap.size w W0 := by rw [← hW0]; exact below_new (Below.refl _ _) _
  rw [hW0] at hR
  have HB := Lib.hid hR
  have HB0 := Lib.hid hb0
  have C := isBank_yes b n all _ W0 B (rBankW.keep hh fun b hb => hb0.block b (by omega)) (Nat.le_trans hB hb0.size) hJ ha
  have hI := hJ.bi40 ha
  have hn5 : n ≤ 5 := by rw [← hJ.len]; exact hI.n5
  have hn25 := sq_le hn5
  have HPOS : Hid (∀ x, x ∈ b.Coins ++ b.Ways.flatten → 0 ≤ x ∧ x ≤ 1000) := Lib.hid (fun x hx => by
    rcases List.mem_append.1 hx with hx | hx
    · obtain ⟨i, hi⟩ := List.mem_iff_getElem?.1 hx
      have hl : i < n := by have := (List.getElem?_eq_some_iff.1 hi).1; have := hJ.len; omega
      have h1 := hJ.jv.cn i hl
      have h2 := hJ.jv.cle hl
      rw [show (Pl.viewN n b).C i = x from Pl.coinAt_of hi] at h1 h2
      omega
    · obtain ⟨r, hr, hx⟩ := List.mem_flatten.1 hx
      have := hI.wb r hr x hx
      omega)
  obtain ⟨TB, hTB⟩ : ∃ T, b.Ways.flatten.length = T := ⟨_, rfl⟩
  obtain ⟨TT, hTT⟩ : ∃ T, (b.Coins ++ b.Ways.flatten).length = T := ⟨_, rfl⟩
  have hTB5 : TB ≤ 1000 := by
    have h1 : ∀ l : List (List Int), (∀ r, r ∈ l → r.length ≤ 40) → l.flatten.length ≤ 40 * l.length := by
      intro l
      induction l with
      | nil => intro _; simp
      | cons r l ih =>
        intro hl
        have h2 := ih (fun r hr => hl r (List.mem_cons_of_mem _ hr))
        have h3 := hl r List.mem_cons_self
        rw [List.flatten_cons, List.length_append, List.length_cons]
        omega
    have h2 := h1 b.Ways hI.wl
    rw [hI.wa, hJ.len] at h2
    omega
  have hTT5 : TT ≤ 5000 := by rw [List.length_append, hTB, hJ.len] at hTT; omega
  have HTB := Lib.hid hTB
  have HTT := Lib.hid hTT
  have HSUM : Hid (Pl.lsum (b.Coins ++ b.Ways.flatten) = all) := Lib.hid hJ.totalIn
  have hsz := hb0.size
  clear hh hR hJ ha hI hb0 hTB hTT
  have e0 := HB.out.e0
  have e1 := HB.out.e1
  have e2 := HB.out.e2
  have e3 := HB.out.e3
  have e4 := HB.out.e4
  go_enter Try.func23, Try.ntmps23
  go_upto_region 1 with fail
  clear hW0 hga
  go_upto_region 4 with (go_at_call 47; (with_reducible refine C.mono ?_); clear C; rintro e W1 ⟨rfl, hb1⟩; (have HB1 := Lib.hid (below_step HB0.out hb1)); (replace HB := Lib.hid (HB.out.below hb1 (by omega))); (have hsz2 := hb1.size); clear hb1)
  clear e0 e1 e2 e3 e4
  have e0 := HB.out.e0
  have e1 := HB.out.e1
  have e2 := HB.out.e2
  have e3 := HB.out.e3
  have e4 := HB.out.e4
  have HA2 := Lib.hid HB.out.r0
  have HB2 := Lib.hid HB.out.r1
  refine Mm.wp_region_give_all (fun i => match i with | 4 => some (Mm.gSl Mm.int 3 b.Ways.flatten) | 5 => some (Mm.gHd 22) | 6 => some (Mm.gSl Mm.int 3 (b.Coins ++ b.Ways.flatten)) | _ => none) (fun i => match i with | 5 => [4] | 6 => [5] | _ => []) (fun _ => []) (F := []) (D := fun w' => ∃ z : Und W1, w' = und W1 z) (fun X us h => Mm.sep_und h) (by kernel_rfl) (by kernel_rfl) (by kernel_rfl) (Mm.SepF.startDrew _) ?_
  repeat (refine Mm.give_det (by rfl) (by rfl) (by rfl) (fun K hK => ?_); go_big_quiet_op; refine hK _ ?_; clear hK K)
  refine Mm.give_op0 14 (by rfl) rfl (by rfl) (by rfl) (by rfl) (by rfl) Mm.gSl_in (fun others X hX => ?_) ?_
  · go_wp2_with (go_at_call 48; refine (concatInts_c _ _ _ _ TB X B (HB2.out.keep fun bq hb => hX.bel0.block bq (by omega)) (by have := hX.chg.size; omega) HTB.out (by omega)).mono ?_; rintro e w5 ⟨A5, c5, f5, rfl, hs5⟩)
    exact ⟨rfl, rfl, _, ⟨A5, TB, c5, f5, rfl, rfl, HTB.out.symm⟩, hX.join hs5⟩
  rintro v ds ⟨A5, n5, c5, f5, rfl, rfl, hn5'⟩
  simp only [Act.put, List.setIfInBounds_toArray, List.set_cons_succ, List.set_cons_zero]
  repeat (refine Mm.give_det (by rfl) (by rfl) (by rfl) (fun K hK => ?_); go_big_quiet_op; refine hK _ ?_; clear hK K)
  refine Mm.give_op1 15 4 (by rfl) rfl (by rfl) (by rfl) (by rfl) rfl (by rfl) _ rfl Mm.gHd_in (fun others X hX => ?_) ?_
  · go_wp2
    exact Mm.gvq_hd hX rfl rfl rfl
  rintro v ds ⟨gh, rfl, rfl⟩
  simp only [Act.put, List.setIfInBounds_toArray, List.set_cons_succ, List.set_cons_zero]
  repeat (refine Mm.give_det (by rfl) (by rfl) (by rfl) (fun K hK => ?_); go_big_quiet_op; refine hK _ ?_; clear hK K)
  refine Mm.give_op1 16 5 (by rfl) rfl (by rfl) (by rfl) (by rfl) rfl (by rfl) _ rfl Mm.gSl_in (fun others X hX => ?_) ?_
  · have hbk : Mm.Blk X gh 22 [.slice A0 n c0, .slice A5 n5 c5] := hX.at_ 0 rfl
    have hrow : Mm.SlAt ints X X.heap.size [b.Coins, b.Ways.flatten] (some ⟨gh, 0, none⟩) 2 2 := two_rows hbk.lt (hbk.cell (i := 0) rfl) (hbk.cell (i := 1) rfl) ((HA2.out.keep (fun bq hb => hX.bel0.block bq (by omega))).more (by have := hX.chg.size; omega)) ((hX.sl 1 rfl).weak (hX.sl 1 rfl).olt)
    have htt : [b.Coins, b.Ways.flatten].flatten.length = TT := by rw [show [b.Coins, b.Ways.flatten].flatten = b.Coins ++ b.Ways.flatten by simp]; exact HTT.out
    have hle : TT ≤ 5000 := by omega
    clear hbk
    go_wp2_with (go_at_call 48; refine (concatInts_c _ _ _ _ TT X X.heap.size hrow (Nat.le_refl _) htt hle).mono ?_; rintro e w5 ⟨A6, c6, f6, rfl, hs6⟩; rw [show [b.Coins, b.Ways.flatten].flatten = b.Coins ++ b.Ways.flatten by simp] at hs6)
    exact ⟨rfl, rfl, _, ⟨A6, TT, c6, f6, rfl, rfl, HTT.out.symm⟩, (hX.tail.tail).join hs6⟩
  rintro v ds ⟨A6, n6, c6, f6, rfl, rfl, hn6'⟩
  simp only [Act.put, List.setIfInBounds_toArray, List.set_cons_succ, List.set_cons_zero]
  repeat (refine Mm.give_det (by rfl) (by rfl) (by rfl) (fun K hK => ?_); go_big_quiet_op; refine hK _ ?_; clear hK K)
  refine Mm.give_nil ?_
  rintro X hX
  have HX := Lib.hid (Mm.sep_eq hX (show _ = [Mm.tsl Mm.int 3 (b.Coins ++ b.Ways.flatten) (.slice A6 n6 c6) f6] from rfl))
  obtain rfl : n6 = TT := by have := hn6'.out; have := HTT.out; omega
  clear hX hn5' hn6'
  go_wp2
  go_loopg [4, 18] n6 (fun g s i wr => ∃ (k : Nat) (sv : Int), n6 - k ≤ g ∧ k ≤ n6 ∧ s = .int .i64 sv ∧ i = .int .i64 k ∧ Hid (sv = Pl.lsum ((b.Coins ++ b.Ways.flatten).take k)) ∧ wr = X)
  case atStart => exact ⟨0, 0, Nat.le_refl _, Nat.zero_le _, rfl, rfl, Lib.hid (by simp [Pl.lsum]), rfl⟩
  case round =>
    obtain ⟨k, sv, hgk, hk, rfl, rfl, HS, rfl⟩ := hrel
    have hbnd := lsum_bnd HPOS.out k (by rw [HTT.out]; omega)
    rw [← HS.out] at hbnd
    by_cases hlt : k < n6
    · as_aux_lemma =>
      have hlt' : (k : Int) < (n6 : Nat) := by omega
      obtain ⟨x, bx, off, hx, rfl, hb, -, e0⟩ := int_get ((HX.out.sl 0 rfl).weak (HX.out.sl 0 rfl).olt) hlt
      have hx1 := HPOS.out x (List.mem_of_getElem? hx)
      obtain ⟨sw, hsw⟩ : ∃ sw, sv + x = sw := ⟨_, rfl⟩
      have m1 : IntKind.i64.wrap (sv + x) = sw := by rw [IntWalk.i64_in _ (by omega)]; exact hsw
      have HS2 : Hid (sw = Pl.lsum ((b.Coins ++ b.Ways.flatten).take (k + 1))) := Lib.hid (by rw [lsum_next hx, ← HS.out, hsw])
      clear hx hx1 hsw hbnd
      go_wp2
      go_roundg (n6 - (k + 1))
      case measure => omega
      case rel => exact ⟨k + 1, sw, Nat.le_refl _, by omega, rfl, by go_num, HS2, rfl⟩
    · as_aux_lemma =>
      obtain rfl : k = n6 := by omega
      have hlt' : ¬ ((k : Nat) : Int) < (k : Nat) := by omega
      have hsv : sv = all := by
        rw [HS.out, List.take_of_length_le (by rw [HTT.out]; exact Nat.le_refl _)]
        exact HSUM.out
      have HSV := Lib.hid hsv
      clear hsv hbnd
      go_wp2
      go_ret2
      exact ⟨by rw [HSV.out]; rfl, below_step HB1.out HX.out.bel0⟩
end Go.Proofs.Ytpmeagchkcffoaa

/-
  Contracts: a snapshot that is complete (isTaken, IsTaken, PictureOf of the program). Conditions as named: the snapshot is in order and complete, and there are at most 250 coins.
-/
namespace Go.Proofs.Ytpmeagchkcffoaa
open Go.RowKit
attribute [local go_sem] und_cell cha_cell World.cell?_alloc_some
/-- all have recorded, and have heard from all -/
def Pl.Taken (n : Nat) (b : Bank) : Prop := (∀ i, i < n → 0 ≤ Pl.keptAt b i) ∧ ∀ f t, f < n → t < n → f ≠ t → Pl.heardAt b t f = true
set_option maxRecDepth 100000 in
set_option maxHeartbeats 4000000 in
theorem isTaken_yes (b : Bank) (n gb : Nat) (all : Int) (A0 A1 A2 A3 A4 : Option Addr) (c0 c1 c2 c3 c4 : Nat) (w : World) (B : Nat) (h : BankRd w B gb n b A0 A1 A2 A3 A4 c0 c1 c2 c3 c4) (hJ : Pl.JB n all b) (hT : Pl.Taken n b) :
    Calls Try.prog 50 #[.pointer (some ⟨gb, 0, none⟩)] w fun e w' => e = .returned (.bool true) ∧ w = w' := by
  obtain ⟨q, hI⟩ := hJ.bi
  have HB := Lib.hid h
  have HI := Lib.hid hI
  have HJ := Lib.hid hJ
  have HT := Lib.hid hT
  have hn5 : n ≤ 5 := by rw [← hJ.len]; exact hI.n5
  clear h hI hJ hT
  have e0 := HB.out.e0
  have e1 := HB.out.e1
  have e2 := HB.out.e2
  have e3 := HB.out.e3
  have e4 := HB.out.e4
  go_enter Try.func50, Try.ntmps50
  go_wp2
  clear e0 e1 e2 e3 e4
  go_loopg [12] n (fun g i wr => ∃ k : Nat, n - k ≤ g ∧ k ≤ n ∧ i = .int .i64 k ∧ w = wr)
  case atStart => exact ⟨0, Nat.le_refl _, Nat.zero_le _, rfl, rfl⟩
  case round =>
    obtain ⟨k, hgk, hk, rfl, rfl⟩ := hrel
    by_cases hlt : k < n
    · as_aux_lemma =>
      have hlt' : (k : Int) < (n : Nat) := by omega
      have fk1 : (0 : Int) ≤ (k : Nat) := by omega
      have fk2 : ((k : Nat) : Int).toNat = k := by omega
      have e0 := HB.out.e0
      have e1 := HB.out.e1
      have e2 := HB.out.e2
      have e3 := HB.out.e3
      have e4 := HB.out.e4
      obtain ⟨kv, b2, o2, hkv, rfl, hb2, -, k2⟩ := int_get HB.out.r2 hlt
      obtain ⟨hr, b3, o3, Ah, nh, ch, hhr, rfl, hb3, rh, k3⟩ := bools_get HB.out.r3 hlt
      have hk0 := HT.out.1 k hlt
      rw [Pl.keptAt_of hkv] at hk0
      have hk0' : ¬ kv < 0 := by omega
      have hnh : nh = n := by have h1 := rh.1; have h2 := HI.out.hr hr (List.mem_of_getElem? hhr); have h3 := HJ.out.len; omega
      have HRH := Lib.hid rh
      have HHR := Lib.hid hhr
      subst hnh
      clear hkv hhr rh hk0
      go_wp2
      obtain ⟨go, rfl⟩ : ∃ go : Nat, go = gk := ⟨_, rfl⟩
      obtain ⟨W1, rfl⟩ : ∃ W1 : World, W1 = w := ⟨_, rfl⟩
      clear e0 e1 e2 e3 e4 k2 k3
      go_loopg [27] nh (fun g i wr => ∃ j : Nat, nh - j ≤ g ∧ j ≤ nh ∧ i = .int .i64 j ∧ W1 = wr)
      case atStart => exact ⟨0, Nat.le_refl _, Nat.zero_le _, rfl, rfl⟩
      case round =>
        obtain ⟨j, hgj, hj, rfl, rfl⟩ := hrel
        by_cases hlt2 : j < nh
        · obtain ⟨hv, b7, o7, hhv, rfl, hb7, k7⟩ := bool_get HRH.out hlt2
          have hlt2' : (j : Int) < (nh : Nat) := by omega
          by_cases hjk : j = k
          · as_aux_lemma =>
            have q1 : ((j : Int) != (k : Nat)) = false := by simp; omega
            clear hhv hjk
            go_wp2
            go_roundg (nh - (j + 1))
            case measure => omega
            case rel => exact ⟨j + 1, Nat.le_refl _, by omega, by go_num, rfl⟩
          · as_aux_lemma =>
            have q1 : ((j : Int) != (k : Nat)) = true := by simp; omega
            have hh := HT.out.2 j k hlt2 hlt hjk
            rw [Pl.heardAt_of HHR.out hhv] at hh
            subst hh
            clear hhv hjk
            go_wp2
            go_roundg (nh - (j + 1))
            case measure => omega
            case rel => exact ⟨j + 1, Nat.le_refl _, by omega, by go_num, rfl⟩
        · as_aux_lemma =>
          obtain rfl : j = nh := by omega
          have hlt2' : ¬ ((j : Nat) : Int) < (j : Nat) := by omega
          go_wp2
          go_roundg (j - (k + 1))
          case measure => omega
          case rel => exact ⟨k + 1, Nat.le_refl _, by omega, by go_num, rfl⟩
    · as_aux_lemma =>
      obtain rfl : k = n := by omega
      have hlt' : ¬ ((k : Nat) : Int) < (k : Nat) := by omega
      go_wp2
      go_ret
      exact ⟨rfl, rfl⟩
set_option maxRecDepth 100000 in
theorem isTakenF_yes (b : Bank) (n : Nat) (all : Int) (cs : List Value) (w : World) (B : Nat) (hh : rBankW.at_ w B b cs) (hB : B ≤ w.heap.size) (hJ : Pl.JB n all b) (ha : all ≤ 250) (hT : Pl.Taken n b) :
    Calls Try.prog 26 #[.agg cs.toArray] w fun e w' => e = .returned (.tuple #[.bool true, .bool true]) ∧ Below w.heap.size w w' := by
  obtain ⟨ga, hga⟩ : ∃ g, w.heap.size = g := ⟨_, rfl⟩
  obtain ⟨A0, A1, A2, A3, A4, c0, c1, c2, c3, c4, rfl, hR⟩ := bankRd_new hh hB hJ hga
  obtain ⟨W0, hW0⟩ : ∃ W, w.alloc (.cells #[.slice A0 n c0, .slice A1 (n * n) c1, .slice A2 n c2, .slice A3 n c3, .slice A4 n c4] 28) = W := ⟨_, rfl⟩
  have hb0 : Below w.heap.size w W0 := by rw [← hW0]; exact below_new (Below.refl _ _) _
  rw [hW0] at hR
  have HB := Lib.hid hR
  have HB0 := Lib.hid hb0
  have C := isBank_yes b n all _ W0 B (rBankW.keep hh fun b hb => hb0.block b (by omega)) (Nat.le_trans hB hb0.size) hJ ha
  have CT := fun W h => isTaken_yes b n ga all A0 A1 A2 A3 A4 c0 c1 c2 c3 c4 W B h hJ hT
  have hsz := hb0.size
  clear hh hR hJ ha hb0 hT
  have e0 := HB.out.e0
  have e1 := HB.out.e1
  have e2 := HB.out.e2
  have e3 := HB.out.e3
  have e4 := HB.out.e4
  go_enter Try.func26, Try.ntmps26
  go_upto_region 1 with fail
  clear hW0 hga
  go_wp2_with first
    | (go_at_call 47; (with_reducible refine C.mono ?_); clear C; rintro e W1 ⟨rfl, hb1⟩; (have HB1 := Lib.hid (below_step HB0.out hb1)); (have C2 := CT W1 (HB.out.below hb1 (by omega))); clear hb1)
    | (go_at_call 50; (with_reducible refine C2.mono ?_); clear C2; rintro e W2 ⟨rfl, rfl⟩)
  go_ret2
  exact ⟨rfl, HB1.out⟩
set_option maxRecDepth 100000 in
set_option maxHeartbeats 4000000 in
theorem pictureOf_yes (b : Bank) (n : Nat) (all : Int) (cs : List Value) (w : World) (B : Nat) (hh : rBankW.at_ w B b cs) (hB : B ≤ w.heap.size) (hJ : Pl.JB n all b) (ha : all ≤ 250) (hT : Pl.Taken n b) (hs : Pl.S n (Pl.viewN n b).K + Pl.S2 n (Pl.viewN n b).F = all) :
    Calls Try.prog 27 #[.agg cs.toArray] w fun e w' => e = .returned (.tuple #[.int .i64 all, .bool true]) ∧ Below w.heap.size w w' := by
  obtain ⟨ga, hga⟩ : ∃ g, w.heap.size = g := ⟨_, rfl⟩
  obtain ⟨A0, A1, A2, A3, A4, c0, c1, c2, c3, c4, rfl, hR⟩ := bankRd_new hh hB hJ hga
  obtain ⟨W0, hW0⟩ : ∃ W, w.alloc (.cells #[.slice A0 n c0, .slice A1 (n * n) c1, .slice A2 n c2, .slice A3 n c3, .slice A4 n c4] 28) = W := ⟨_, rfl⟩
  have hb0 : Below w.heap.size w W0 := by rw [← hW0]; exact below_new (Below.refl _ _) _
  rw [hW0] at hR
  have HB := Lib.hid hR
  have HB0 := Lib.hid hb0
  have C := isBank_yes b n all _ W0 B (rBankW.keep hh fun b hb => hb0.block b (by omega)) (Nat.le_trans hB hb0.size) hJ ha
  have CT := Lib.hid (fun W h => isTaken_yes b n ga all A0 A1 A2 A3 A4 c0 c1 c2 c3 c4 W B h hJ hT)
  have hI := hJ.bi40 ha
  have hn5 : n ≤ 5 := by rw [← hJ.len]; exact hI.n5
  have HPOS : Hid (∀ x, x ∈ b.Kept ++ b.Found.flatten → 0 ≤ x ∧ x ≤ 1000) := Lib.hid (fun x hx => by
    rcases List.mem_append.1 hx with hx | hx
    · obtain ⟨i, hi⟩ := List.mem_iff_getElem?.1 hx
      have hl : i < n := by have := (List.getElem?_eq_some_iff.1 hi).1; have := hJ.len; have := hI.ke; omega
      have h1 := hT.1 i hl
      have h2 := hJ.jv.kle hl
      rw [show (Pl.viewN n b).K i = x from Pl.keptAt_of hi] at h2
      rw [Pl.keptAt_of hi] at h1
      omega
    · obtain ⟨r, hr, hx⟩ := List.mem_flatten.1 hx
      obtain ⟨f, hf⟩ := List.mem_iff_getElem?.1 hr
      obtain ⟨t, ht⟩ := List.mem_iff_getElem?.1 hx
      have hfl : f < n := by have := (List.getElem?_eq_some_iff.1 hf).1; have := hI.fo; have := hJ.len; omega
      have htl : t < n := by have := (List.getElem?_eq_some_iff.1 ht).1; have := hI.fr r hr; have := hJ.len; omega
      have h1 := hJ.jv.fn f t hfl htl
      have h2 := hJ.jv.fle hfl htl
      rw [show (Pl.viewN n b).F f t = x from Pl.foundAt_of hf ht] at h1 h2
      omega)
  obtain ⟨TB, hTB⟩ : ∃ T, b.Found.flatten.length = T := ⟨_, rfl⟩
  obtain ⟨TT, hTT⟩ : ∃ T, (b.Kept ++ b.Found.flatten).length = T := ⟨_, rfl⟩
  have hTB5 : TB ≤ 1000 := by
    have h1 : ∀ l : List (List Int), (∀ r, r ∈ l → r.length ≤ 5) → l.flatten.length ≤ 5 * l.length := by
      intro l
      induction l with
      | nil => intro _; simp
      | cons r l ih =>
        intro hl
        have h2 := ih (fun r hr => hl r (List.mem_cons_of_mem _ hr))
        have h3 := hl r List.mem_cons_self
        rw [List.flatten_cons, List.length_append, List.length_cons]
        omega
    have h2 := h1 b.Found (fun r hr => by have := hI.fr r hr; have := hI.n5; omega)
    rw [hI.fo, hJ.len] at h2
    omega
  have hTT5 : TT ≤ 5000 := by rw [List.length_append, hTB, hI.ke, hJ.len] at hTT; omega
  have HTB := Lib.hid hTB
  have HTT := Lib.hid hTT
  have HSUM : Hid (Pl.lsum (b.Kept ++ b.Found.flatten) = all) := Lib.hid (hJ.pictureOf hs)
  have hsz := hb0.size
  clear hh hR hJ ha hI hb0 hTB hTT hT hs
  have e0 := HB.out.e0
  have e1 := HB.out.e1
  have e2 := HB.out.e2
  have e3 := HB.out.e3
  have e4 := HB.out.e4
  go_enter Try.func27, Try.ntmps27
  go_upto_region 1 with fail
  clear hW0 hga
  go_upto_region 4 with first
    | (go_at_call 47; (with_reducible refine C.mono ?_); clear C; rintro e W1 ⟨rfl, hb1⟩; (have HB1 := Lib.hid (below_step HB0.out hb1)); (replace HB := Lib.hid (HB.out.below hb1 (by omega))); (have hsz2 := hb1.size); (have C2 := CT.out W1 HB.out); clear hb1 CT)
    | (go_at_call 50; (with_reducible refine C2.mono ?_); clear C2; rintro e W2 ⟨rfl, rfl⟩)
  clear e0 e1 e2 e3 e4
  have e0 := HB.out.e0
  have e1 := HB.out.e1
  have e2 := HB.out.e2
  have e3 := HB.out.e3
  have e4 := HB.out.e4
  have HA2 := Lib.hid HB.out.r2
  have HB2 := Lib.hid HB.out.r4
  refine Mm.wp_region_give_all (fun i => match i with | 4 => some (Mm.gSl Mm.int 3 b.Found.flatten) | 5 => some (Mm.gHd 22) | 6 => some (Mm.gSl Mm.int 3 (b.Kept ++ b.Found.flatten)) | _ => none) (fun i => match i with | 5 => [4] | 6 => [5] | _ => []) (fun _ => []) (F := []) (D := fun w' => ∃ z : Und W1, w' = und W1 z) (fun X us h => Mm.sep_und h) (by kernel_rfl) (by kernel_rfl) (by kernel_rfl) (Mm.SepF.startDrew _) ?_
  repeat (refine Mm.give_det (by rfl) (by rfl) (by rfl) (fun K hK => ?_); go_big_quiet_op; refine hK _ ?_; clear hK K)
  refine Mm.give_op0 18 (by rfl) rfl (by rfl) (by rfl) (by rfl) (by rfl) Mm.gSl_in (fun others X hX => ?_) ?_
  · go_wp2_with (go_at_call 48; refine (concatInts_c _ _ _ _ TB X B (HB2.out.keep fun bq hb => hX.bel0.block bq (by omega)) (by have := hX.chg.size; omega) HTB.out (by omega)).mono ?_; rintro e w5 ⟨A5, c5, f5, rfl, hs5⟩)
    exact ⟨rfl, rfl, _, ⟨A5, TB, c5, f5, rfl, rfl, HTB.out.symm⟩, hX.join hs5⟩
  rintro v ds ⟨A5, n5, c5, f5, rfl, rfl, hn5'⟩
  simp only [Act.put, List.setIfInBounds_toArray, List.set_cons_succ, List.set_cons_zero]
  repeat (refine Mm.give_det (by rfl) (by rfl) (by rfl) (fun K hK => ?_); go_big_quiet_op; refine hK _ ?_; clear hK K)
  refine Mm.give_op1 19 4 (by rfl) rfl (by rfl) (by rfl) (by rfl) rfl (by rfl) _ rfl Mm.gHd_in (fun others X hX => ?_) ?_
  · go_wp2
    exact Mm.gvq_hd hX rfl rfl rfl
  rintro v ds ⟨gh, rfl, rfl⟩
  simp only [Act.put, List.setIfInBounds_toArray, List.set_cons_succ, List.set_cons_zero]
  repeat (refine Mm.give_det (by rfl) (by rfl) (by rfl) (fun K hK => ?_); go_big_quiet_op; refine hK _ ?_; clear hK K)
  refine Mm.give_op1 20 5 (by rfl) rfl (by rfl) (by rfl) (by rfl) rfl (by rfl) _ rfl Mm.gSl_in (fun others X hX => ?_) ?_
  · have hbk : Mm.Blk X gh 22 [.slice A2 n c2, .slice A5 n5 c5] := hX.at_ 0 rfl
    have hrow : Mm.SlAt ints X X.heap.size [b.Kept, b.Found.flatten] (some ⟨gh, 0, none⟩) 2 2 := two_rows hbk.lt (hbk.cell (i := 0) rfl) (hbk.cell (i := 1) rfl) ((HA2.out.keep (fun bq hb => hX.bel0.block bq (by omega))).more (by have := hX.chg.size; omega)) ((hX.sl 1 rfl).weak (hX.sl 1 rfl).olt)
    have htt : [b.Kept, b.Found.flatten].flatten.length = TT := by rw [show [b.Kept, b.Found.flatten].flatten = b.Kept ++ b.Found.flatten by simp]; exact HTT.out
    have hle : TT ≤ 5000 := by omega
    clear hbk
    go_wp2_with (go_at_call 48; refine (concatInts_c _ _ _ _ TT X X.heap.size hrow (Nat.le_refl _) htt hle).mono ?_; rintro e w5 ⟨A6, c6, f6, rfl, hs6⟩; rw [show [b.Kept, b.Found.flatten].flatten = b.Kept ++ b.Found.flatten by simp] at hs6)
    exact ⟨rfl, rfl, _, ⟨A6, TT, c6, f6, rfl, rfl, HTT.out.symm⟩, (hX.tail.tail).join hs6⟩
  rintro v ds ⟨A6, n6, c6, f6, rfl, rfl, hn6'⟩
  simp only [Act.put, List.setIfInBounds_toArray, List.set_cons_succ, List.set_cons_zero]
  repeat (refine Mm.give_det (by rfl) (by rfl) (by rfl) (fun K hK => ?_); go_big_quiet_op; refine hK _ ?_; clear hK K)
  refine Mm.give_nil ?_
  rintro X hX
  have HX := Lib.hid (Mm.sep_eq hX (show _ = [Mm.tsl Mm.int 3 (b.Kept ++ b.Found.flatten) (.slice A6 n6 c6) f6] from rfl))
  obtain rfl : n6 = TT := by have := hn6'.out; have := HTT.out; omega
  clear hX hn5' hn6'
  go_wp2
  go_loopg [4, 22] n6 (fun g s i wr => ∃ (k : Nat) (sv : Int), n6 - k ≤ g ∧ k ≤ n6 ∧ s = .int .i64 sv ∧ i = .int .i64 k ∧ Hid (sv = Pl.lsum ((b.Kept ++ b.Found.flatten).take k)) ∧ wr = X)
  case atStart => exact ⟨0, 0, Nat.le_refl _, Nat.zero_le _, rfl, rfl, Lib.hid (by simp [Pl.lsum]), rfl⟩
  case round =>
    obtain ⟨k, sv, hgk, hk, rfl, rfl, HS, rfl⟩ := hrel
    have hbnd := lsum_bnd HPOS.out k (by rw [HTT.out]; omega)
    rw [← HS.out] at hbnd
    by_cases hlt : k < n6
    · as_aux_lemma =>
      have hlt' : (k : Int) < (n6 : Nat) := by omega
      obtain ⟨x, bx, off, hx, rfl, hb, -, e0⟩ := int_get ((HX.out.sl 0 rfl).weak (HX.out.sl 0 rfl).olt) hlt
      have hx1 := HPOS.out x (List.mem_of_getElem? hx)
      obtain ⟨sw, hsw⟩ : ∃ sw, sv + x = sw := ⟨_, rfl⟩
      have m1 : IntKind.i64.wrap (sv + x) = sw := by rw [IntWalk.i64_in _ (by omega)]; exact hsw
      have HS2 : Hid (sw = Pl.lsum ((b.Kept ++ b.Found.flatten).take (k + 1))) := Lib.hid (by rw [lsum_next hx, ← HS.out, hsw])
      clear hx hx1 hsw hbnd
      go_wp2
      go_roundg (n6 - (k + 1))
      case measure => omega
      case rel => exact ⟨k + 1, sw, Nat.le_refl _, by omega, rfl, by go_num, HS2, rfl⟩
    · as_aux_lemma =>
      obtain rfl : k = n6 := by omega
      have hlt' : ¬ ((k : Nat) : Int) < (k : Nat) := by omega
      have hsv : sv = all := by
        rw [HS.out, List.take_of_length_le (by rw [HTT.out]; exact Nat.le_refl _)]
        exact HSUM.out
      have HSV := Lib.hid hsv
      clear hsv hbnd
      go_wp2
      go_ret2
      exact ⟨by rw [HSV.out]; rfl, below_step HB1.out HX.out.bel0⟩
end Go.Proofs.Ytpmeagchkcffoaa

/-
  Slices of slices that are cloned row by row: first the headers alone are copied, then each row is replaced by its clone. No program in sight. No conditions.
-/
namespace Go.Proofs.Ytpmeagchkcffoaa
open Go.RowKit
namespace Mm
abbrev Hdr := Option Addr × Nat × Nat
def hval (h : Hdr) : Value := .slice h.1 h.2.1 h.2.2
def hdr : Rep Hdr := flat 1 (fun h => [hval h]) (fun _ => True) (fun _ => rfl) (fun _ u hu => by rw [List.mem_singleton.1 hu]; rfl)
theorem flat_hdr : Flat hdr (fun h => [hval h]) := ⟨fun h => h.1, fun _ _ => ⟨rfl, trivial, rfl⟩⟩
theorem flatN_hdr : FlatN hdr (fun h => [hval h]) := ⟨by decide, fun h => by
  obtain ⟨rfl, h1, rfl⟩ := h
  exact ⟨rfl, rfl, fun w' => ⟨rfl, trivial, rfl⟩⟩⟩
/-- a row of the call's own, or a header alone -/
def orv {α : Type} (E : Rep α) (e : TypeId) : Rep (List α ⊕ Hdr) where
  size := 1
  at_ := fun w B x cs => match x with
    | .inl xs => (slice E e).at_ w B xs cs
    | .inr h => cs = [hval h]
  own := fun w x cs fp => match x with
    | .inl xs => (slice E e).own w xs cs fp
    | .inr h => cs = [hval h] ∧ fp = []
  len := fun {w B x cs} h => by
    cases x with
    | inl xs => exact (slice E e).len h
    | inr y => rw [show cs = [hval y] from h]; rfl
  olen := fun {w x cs fp} h => by
    cases x with
    | inl xs => exact (slice E e).olen h
    | inr y => rw [show cs = [hval y] from h.1]; rfl
  one := fun {w x cs fp} h u hu => by
    cases x with
    | inl xs => exact (slice E e).one h u hu
    | inr y => rw [show cs = [hval y] from h.1] at hu; rw [List.mem_singleton.1 hu]; rfl
  keep := fun {w w' B x cs} h k => by
    cases x with
    | inl xs => exact (slice E e).keep h k
    | inr y => exact h
  more := fun {w B B' x cs} h k => by
    cases x with
    | inl xs => exact (slice E e).more h k
    | inr y => exact h
  okeep := fun {w w' x cs fp} h k => by
    cases x with
    | inl xs => exact (slice E e).okeep h k
    | inr y => exact h
  olt := fun {w x cs fp} h b hb => by
    cases x with
    | inl xs => exact (slice E e).olt h b hb
    | inr y => rw [show fp = [] from h.2] at hb; cases hb
  weak := fun {w B x cs fp} h k => by
    cases x with
    | inl xs => exact (slice E e).weak h k
    | inr y => exact h.1
section
variable {α : Type} {E : Rep α} {e e2 : TypeId} {w : World} {B : Nat} {v : Value} {fp : List Nat}
theorem orv_start {hs : List Hdr} (h : SlOwn hdr e2 w hs v fp) : SlOwn (orv E e) e2 w (hs.map .inr) v fp := by
  obtain ⟨es, he, ho, rfl⟩ := h
  refine ⟨es, ⟨by rw [List.length_map]; exact he.1, fun i x y hx hy => ?_⟩, by rw [List.length_map]; exact ho, rfl⟩
  rw [List.getElem?_map] at hx
  cases hh : hs[i]? with
  | none => rw [hh] at hx; cases hx
  | some h =>
    rw [hh] at hx
    injection hx with hx
    subst hx
    have := he.2 i h y hh hy
    exact ⟨this.1, this.2.2⟩
theorem orv_end {xs : List (List α)} (h : SlOwn (orv E e) e2 w (xs.map .inl) v fp) : SlOwn (slice E e) e2 w xs v fp := by
  obtain ⟨es, he, ho, rfl⟩ := h
  refine ⟨es, ⟨by rw [he.1, List.length_map], fun i x y hx hy => ?_⟩, by rw [List.length_map] at ho; exact ho, rfl⟩
  exact he.2 i (.inl x) y (by rw [List.getElem?_map, hx]; rfl) hy
/-- the headers of a slice of slices that is read -/
theorem hdrs {xs : List (List α)} {A : Option Addr} {n c : Nat} (h : SlAt (slice E e) w B xs A n c) : ∃ hs : List Hdr, SlAt hdr w B hs A n c ∧ ∀ (k : Nat) (x : List α), xs[k]? = some x → ∃ y, hs[k]? = some y ∧ SlAt E w B x y.1 y.2.1 y.2.2 := by
  have key : ∀ k : Nat, ∃ y : Hdr, ∀ x, xs[k]? = some x → ∃ b off, A = some ⟨b, off, none⟩ ∧ b < B ∧ SlAt E w B x y.1 y.2.1 y.2.2 ∧ w.cell? ⟨b, off + k, none⟩ = some (hval y) := fun k => by
    cases hx : xs[k]? with
    | none => exact ⟨(none, 0, 0), fun x h => by cases h⟩
    | some x =>
      obtain ⟨b, off, cs, hA, hb, ⟨A', n', c', rfl, ha⟩, hc⟩ := h.2.2.2.2 k x hx
      refine ⟨(A', n', c'), fun x' hx' => ?_⟩
      injection hx' with hx'
      subst hx'
      refine ⟨b, off, hA, hb, ha, ?_⟩
      have := hc 0 _ rfl
      rw [show (slice E e).size = 1 from rfl, Nat.mul_one, Nat.add_zero] at this
      exact this
  obtain ⟨f, hf⟩ := Classical.axiomOfChoice key
  refine ⟨(List.range n).map f, ⟨by simp, h.2.1, h.2.2.1, h.2.2.2.1, fun i y hy => ?_⟩, fun k x hx => ?_⟩
  · rw [List.getElem?_map] at hy
    have hi : i < n := by
      rcases Nat.lt_or_ge i n with h1 | h1
      · exact h1
      · rw [List.getElem?_eq_none (by simpa using h1)] at hy; cases hy
    rw [List.getElem?_range hi] at hy
    injection hy with hy
    subst hy
    have hl : i < xs.length := by rw [h.1]; exact hi
    obtain ⟨b, off, hA, hb, ha, hc⟩ := hf i _ (List.getElem?_eq_getElem hl)
    refine ⟨b, off, [hval (f i)], hA, hb, ⟨rfl, trivial⟩, fun j u hj => ?_⟩
    cases j with
    | zero =>
      injection hj with hj
      subst hj
      rw [show hdr.size = 1 from rfl, Nat.mul_one, Nat.add_zero]
      exact hc
    | succ j => simp at hj
  · have hk : k < n := by rw [← h.1]; exact (List.getElem?_eq_some_iff.1 hx).1
    obtain ⟨b, off, hA, hb, ha, hc⟩ := hf k x hx
    exact ⟨f k, by rw [List.getElem?_map, List.getElem?_range hk]; rfl, ha⟩
/-- row k, a header alone, becomes a row of the call's own -/
theorem SepF.rowIn {F : List Nat} {w0 wr : World} {ts : List Thing} {ys : List (List α ⊕ Hdr)} {g n c k : Nat} {z : List α ⊕ Hdr} {xs : List α} {A : Option Addr} {m d : Nat} {fx : List Nat} (h : SepF F w0 wr (tsl E e xs (.slice A m d) fx :: tsl (orv E e) e2 ys (.slice (some ⟨g, 0, none⟩) n c) fp :: ts)) (hk : ys[k]? = some z) :
    ∃ fp', SepF F w0 (wr.setCell ⟨g, k, none⟩ (.slice A m d)) (tsl (orv E e) e2 (ys.set k (.inl xs)) (.slice (some ⟨g, 0, none⟩) n c) fp' :: ts) := by
  have ho : SlOwn (orv E e) e2 wr ys (.slice (some ⟨g, 0, none⟩) n c) fp := h.at_ 1 rfl
  have hx : SlOwn E e wr xs (.slice A m d) fx := h.at_ 0 rfl
  have hnx : fx.Nodup := h.ndat (i := 0) rfl
  have hap : ∀ b, b ∈ fx → b ∉ fp := h.apart (i := 0) (j := 1) rfl rfl (by decide)
  have hgf : g ∈ fp := ho.mem_block
  have hown : (orv E e).own wr (.inl xs) [.slice A m d] fx := ⟨_, rfl, hx⟩
  have hkl : k < ys.length := (List.getElem?_eq_some_iff.1 hk).1
  obtain ⟨fp', h1, h2, h3⟩ := ho.set (i := k) hkl hown (h.ndat (i := 1) rfl) hnx (fun b hb hm => hap b hb hm)
  rw [show (orv E e).size = 1 from rfl, Nat.mul_one] at h1
  refine ⟨fp', ?_⟩
  have h4 := h.upd2 (i := 1) (j := 0) (by decide) rfl rfl (W := wr.setCell ⟨g, k, none⟩ (.slice A m d)) (t' := tsl (orv E e) e2 (ys.set k (.inl xs)) (.slice (some ⟨g, 0, none⟩) n c) fp') ((Chg.refl _ _).setCell (List.mem_append_left _ hgf) _) h1 h2 (fun b hb => by
    rcases h3 b hb with h | h
    · exact .inl h
    · exact .inr (.inl h))
  exact h4.tail
end
end Mm
end Go.Proofs.Ytpmeagchkcffoaa

/-
  Contracts: slices.Clone, for the chapters' structs that lead nowhere and for slices of slices (their headers). No conditions.
-/
namespace Go.Proofs.Ytpmeagchkcffoaa
open Go.RowKit
def Mm.encH (h : Mm.Hdr) : List Value := [Mm.hval h]
end Go.Proofs.Ytpmeagchkcffoaa
