/-
  Joined texts, in build order: Ph, In, Ik, Er, Sc, Am, Cg, Ii, E4, E5. Each part says what it proves; no conditions beyond those that a part names.
-/
import Derived.Test.YtkhchfbpmmiopaaZ02
import Derived.Test.YtkhchfbpmmiopaaZ03
import Derived.Shelf.Spec.SearchS
import Derived.Shelf.Spec.SlicesInsertGrow
import Derived.Lib.AppendZerosOnto
import Derived.Lib.Overlaps
import Derived.Deep.RegionLaw
import Derived.Deep.DeepFit
import Derived.Lib.Hide
import Derived.Deep.DeepCutAuto
/-
  Plain functions on heavy hitters: a name added. No program in sight. No conditions.
-/
namespace Go.Proofs.Ytkhchfbpmmiopaa
namespace Pl
def lessB (x y : ByteArray) : Bool := Op.bytesLess x.toList y.toList
theorem bless_irrefl : ∀ x : List UInt8, Op.bytesLess x x = false
  | [] => rfl
  | a :: t => by rw [Op.bytesLess, bless_irrefl t]; simp
theorem bless_trans : ∀ {x y z : List UInt8}, Op.bytesLess x y = true → Op.bytesLess y z = true → Op.bytesLess x z = true
  | _, [], _, h, _ => by simp [Op.bytesLess] at h
  | _, _ :: _, [], _, h => by simp [Op.bytesLess] at h
  | [], _ :: _, _ :: _, _, _ => rfl
  | a :: x, b :: y, c :: z, h, k => by
    rw [Op.bytesLess] at h k ⊢
    simp only [Bool.or_eq_true, decide_eq_true_eq, Bool.and_eq_true, beq_iff_eq] at h k ⊢
    rcases h with h | ⟨rfl, h⟩
    · rcases k with k | ⟨rfl, k⟩
      · exact .inl (UInt8.lt_trans h k)
      · exact .inl h
    · rcases k with k | ⟨rfl, k⟩
      · exact .inl k
      · exact .inr ⟨rfl, bless_trans h k⟩
theorem bless_total : ∀ {x y : List UInt8}, x ≠ y → Op.bytesLess x y = true ∨ Op.bytesLess y x = true
  | [], [], h => absurd rfl h
  | [], _ :: _, _ => .inl rfl
  | _ :: _, [], _ => .inr rfl
  | a :: x, b :: y, h => by
    rw [Op.bytesLess, Op.bytesLess]
    simp only [Bool.or_eq_true, decide_eq_true_eq, Bool.and_eq_true, beq_iff_eq]
    by_cases hab : a = b
    · subst hab
      have : x ≠ y := fun e => h (by rw [e])
      rcases bless_total this with h1 | h1
      · exact .inl (.inr ⟨rfl, h1⟩)
      · exact .inr (.inr ⟨rfl, h1⟩)
    · rcases Nat.lt_or_gt_of_ne (fun e => hab (UInt8.toNat_inj.1 e)) with h1 | h1
      · exact .inl (.inl h1)
      · exact .inr (.inl h1)
theorem ba_inj {x v : ByteArray} (e : x.toList = v.toList) : x = v := by
  rw [Lib.toList_data, Lib.toList_data] at e
  cases x
  cases v
  exact congrArg ByteArray.mk (Array.toList_inj.1 e)
/-- names in order, then places that are free -/
structure HSort (l : List ByteArray) (m : Nat) : Prop where
  le : m ≤ l.length
  used : ∀ (i : Nat) x, i < m → l[i]? = some x → x.toList ≠ []
  free : ∀ (i : Nat) x, m ≤ i → l[i]? = some x → x.toList = []
  sort : ∀ (i j : Nat) x y, i < j → j < m → l[i]? = some x → l[j]? = some y → lessB x y = true
/-- how many of the names in order are less -/
def posF (l : List ByteArray) (x : ByteArray) : Nat → Nat → Nat
  | 0, k => k
  | f + 1, k => if (strAt l k).toList ≠ [] ∧ lessB (strAt l k) x = true then posF l x f (k + 1) else k
def posN (l : List ByteArray) (x : ByteArray) : Nat := posF l x l.length 0
theorem posF_spec (l : List ByteArray) (x : ByteArray) : ∀ (f k : Nat), k ≤ posF l x f k ∧ posF l x f k ≤ k + f ∧ (∀ t, k ≤ t → t < posF l x f k → (strAt l t).toList ≠ [] ∧ lessB (strAt l t) x = true) ∧ (posF l x f k < k + f → ¬ ((strAt l (posF l x f k)).toList ≠ [] ∧ lessB (strAt l (posF l x f k)) x = true))
  | 0, k => ⟨Nat.le_refl _, Nat.le_refl _, fun t h1 h2 => by simp only [posF] at h2; omega, fun h => by simp only [posF] at h; omega⟩
  | f + 1, k => by
    by_cases hc : (strAt l k).toList ≠ [] ∧ lessB (strAt l k) x = true
    · obtain ⟨h1, h2, h3, h4⟩ := posF_spec l x f (k + 1)
      rw [posF, if_pos hc]
      refine ⟨by omega, by omega, fun t a b => ?_, fun h => h4 (by omega)⟩
      by_cases hk : t = k
      · subst hk; exact hc
      · exact h3 t (by omega) b
    · rw [posF, if_neg hc]
      exact ⟨Nat.le_refl _, by omega, fun t a b => by omega, fun _ => hc⟩
theorem prefix_ex (P : Nat → Prop) : ∀ n, ∃ m, m ≤ n ∧ (∀ i, i < m → P i) ∧ (m = n ∨ ¬ P m)
  | 0 => ⟨0, Nat.le_refl _, fun i h => by omega, .inl rfl⟩
  | n + 1 => by
    obtain ⟨m, h1, h2, h3⟩ := prefix_ex P n
    rcases h3 with rfl | h3
    · by_cases hp : P m
      · exact ⟨m + 1, Nat.le_refl _, fun i hi => by
          by_cases h : i = m
          · subst h; exact hp
          · exact h2 i (by omega), .inl rfl⟩
      · exact ⟨m, by omega, h2, .inr hp⟩
    · exact ⟨m, by omega, h2, .inr h3⟩
def insAt {α : Type} (l : List α) (k : Nat) (x : α) : List α := (l.take k ++ x :: l.drop k).dropLast
/-- what stays when one is taken from each count -/
def lessTo (names : List ByteArray) (counts : List Int) : Nat → List (ByteArray × Int)
  | 0 => []
  | k + 1 => lessTo names counts k ++ if 1 < counts.getD k 0 then [(strAt names k, counts.getD k 0 - 1)] else []
theorem lessTo_len (names : List ByteArray) (counts : List Int) : ∀ k, (lessTo names counts k).length ≤ k
  | 0 => by simp [lessTo]
  | k + 1 => by
    have := lessTo_len names counts k
    rw [lessTo, List.length_append]
    split <;> simp <;> omega
def hless (h : Heavy) : Heavy :=
  ⟨(lessTo h.Names h.Counts h.Names.length).map (·.1) ++ List.replicate (h.Names.length - (lessTo h.Names h.Counts h.Names.length).length) ⟨#[]⟩,
   (lessTo h.Names h.Counts h.Names.length).map (·.2) ++ List.replicate (h.Names.length - (lessTo h.Names h.Counts h.Names.length).length) 0, h.Gone + 1, h.Total + 1⟩
def hadd (h : Heavy) (x : ByteArray) : Heavy :=
  if 0 ≤ idx h.Names x then ⟨h.Names, h.Counts.set (idx h.Names x).toNat (h.Counts.getD (idx h.Names x).toNat 0 + 1), h.Gone, h.Total + 1⟩
  else if (strAt h.Names (h.Names.length - 1)).toList ≠ [] then hless h
  else ⟨insAt h.Names (posN h.Names x) x, insAt h.Counts (posN h.Names x) 1, h.Gone, h.Total + 1⟩
section
variable {l : List ByteArray} {m : Nat} {x : ByteArray}
theorem HSort.of_ok {h : Heavy} (hk : heavyOk h = true) : ∃ m, HSort h.Names m := by
  obtain ⟨⟨_, _⟩, hcl, _, _, hs, _⟩ := heavyOk_iff.1 hk
  -- a name that is not free has one that is not free, and less, ahead of it
  have hstep : ∀ (i : Nat) (x : ByteArray), h.Names[i + 1]? = some x → x.toList ≠ [] → ∃ z, h.Names[i]? = some z ∧ z.toList ≠ [] ∧ lessB z x = true := fun i x hx hn => by
    have hi := (List.getElem?_eq_some_iff.1 hx).1
    have hz := List.getElem?_eq_getElem (show i < h.Names.length by omega)
    have hy := List.getElem?_eq_getElem (show i + 1 < h.Counts.length by omega)
    have h1 := hs (i + 1) hi
    rw [slotOk_of hx hy (by rw [Nat.add_sub_cancel]; exact hz)] at h1
    unfold slotP at h1
    rw [if_neg hn] at h1
    simp only [Bool.and_eq_true, Bool.or_eq_true, decide_eq_true_eq] at h1
    rcases h1.2 with h2 | h2
    · omega
    · exact ⟨_, hz, by simpa using h2.2, h2.1⟩
  have hdown : ∀ (d i : Nat) (x : ByteArray), h.Names[i + d]? = some x → x.toList ≠ [] → ∃ z, h.Names[i]? = some z ∧ z.toList ≠ [] ∧ (0 < d → lessB z x = true) := by
    intro d
    induction d with
    | zero => intro i x hx hn; exact ⟨x, hx, hn, fun h => by omega⟩
    | succ d ih =>
      intro i x hx hn
      obtain ⟨y, hy, hyn, hyx⟩ := hstep (i + d) x (by rw [← hx]; rfl) hn
      obtain ⟨z, hz, hzn, hzy⟩ := ih i y hy hyn
      refine ⟨z, hz, hzn, fun _ => ?_⟩
      rcases Nat.eq_zero_or_pos d with hd | hd
      · subst hd
        rw [Nat.add_zero, hz] at hy
        injection hy with hy
        subst hy
        exact hyx
      · exact bless_trans (hzy hd) hyx
  obtain ⟨m, h1, h2, h3⟩ := prefix_ex (fun i => ∀ x, h.Names[i]? = some x → x.toList ≠ []) h.Names.length
  refine ⟨m, h1, fun i x hi hx => h2 i hi x hx, fun i x hi hx => ?_, fun i j x y hij hj hx hy => ?_⟩
  · apply Classical.byContradiction
    intro hn
    have hil := (List.getElem?_eq_some_iff.1 hx).1
    rcases h3 with rfl | h3
    · omega
    · apply h3
      intro z hz
      obtain ⟨z', hz', hzn, _⟩ := hdown (i - m) m x (by rw [show m + (i - m) = i by omega]; exact hx) hn
      rw [hz] at hz'
      injection hz' with hz'
      rw [hz']; exact hzn
  · obtain ⟨z, hz, _, hzy⟩ := hdown (j - i) i y (by rw [show i + (j - i) = j by omega]; exact hy) (h2 j hj y hy)
    rw [hx] at hz
    injection hz with hz
    rw [hz]; exact hzy (by omega)
theorem HSort.at_ (h : HSort l m) {i : Nat} (hi : i < m) : ∃ y, l[i]? = some y ∧ strAt l i = y ∧ y.toList ≠ [] := by
  have hy := List.getElem?_eq_getElem (show i < l.length by have := h.le; omega)
  exact ⟨_, hy, strAt_of hy, h.used i _ hi hy⟩
/-- where the name belongs, among the used places -/
theorem HSort.pos (h : HSort l m) (x : ByteArray) : posN l x ≤ m ∧ (∀ t, t < posN l x → lessB (strAt l t) x = true) ∧ (∀ t, posN l x ≤ t → t < m → lessB (strAt l t) x = false) := by
  obtain ⟨_, h2, h3, h4⟩ := posF_spec l x l.length 0
  have hle : posN l x ≤ m := by
    rcases Nat.lt_or_ge m (posN l x) with hlt | hge
    · have hc := h3 m (Nat.zero_le _) hlt
      have hm : m < l.length := by unfold posN at hlt; omega
      exact absurd (h.free m _ (Nat.le_refl _) (List.getElem?_eq_getElem hm)) (by rw [← strAt_of (List.getElem?_eq_getElem hm)]; exact hc.1)
    · exact hge
  refine ⟨hle, fun t ht => (h3 t (Nat.zero_le _) ht).2, fun t ht htm => ?_⟩
  have hlen := h.le
  have hp : posN l x < m := by omega
  obtain ⟨y, hy, hys, hyn⟩ := h.at_ hp
  have hnp : lessB (strAt l (posN l x)) x = false := by
    have := h4 (by show posN l x < 0 + l.length; omega)
    change ¬ ((strAt l (posN l x)).toList ≠ [] ∧ lessB (strAt l (posN l x)) x = true) at this
    cases hb : lessB (strAt l (posN l x)) x
    · rfl
    · exact absurd ⟨by rw [hys]; exact hyn, hb⟩ this
  rcases Nat.eq_or_lt_of_le ht with rfl | hlt
  · exact hnp
  · obtain ⟨z, hz, hzs, _⟩ := h.at_ htm
    have hs := h.sort _ t y z hlt htm hy hz
    cases hb : lessB (strAt l t) x
    · rfl
    · rw [hzs] at hb
      rw [hys] at hnp
      have := bless_trans hs hb
      unfold lessB at hnp
      rw [hnp] at this
      cases this
theorem idxFrom_eq {v : ByteArray} {i : Nat} (hi : strAt l i = v) : ∀ (f k : Nat), k ≤ i → i < k + f → (∀ t, k ≤ t → t < i → strAt l t ≠ v) → idxFrom l v f k = i
  | 0, k, h1, h2, _ => by omega
  | f + 1, k, h1, h2, h3 => by
    rw [idxFrom]
    by_cases hk : strAt l k = v
    · rw [if_pos hk]
      by_cases hki : k = i
      · rw [hki]
      · exact absurd hk (h3 k (Nat.le_refl _) (by omega))
    · rw [if_neg hk]
      have : k ≠ i := fun e => hk (e ▸ hi)
      exact idxFrom_eq hi f (k + 1) (by omega) (by omega) fun t a b => h3 t (by omega) b
theorem idxFrom_none {v : ByteArray} : ∀ (f k : Nat), (∀ t, k ≤ t → t < k + f → strAt l t ≠ v) → idxFrom l v f k = -1
  | 0, _, _ => rfl
  | f + 1, k, h => by
    rw [idxFrom, if_neg (h k (Nat.le_refl _) (by omega))]
    exact idxFrom_none f (k + 1) fun t a b => h t (by omega) (by omega)
/-- what binary search finds -/
theorem HSort.found (h : HSort l m) {x : ByteArray} (hx : x.toList ≠ []) : (posN l x < m ∧ strAt l (posN l x) = x ∧ idx l x = posN l x) ∨ ((posN l x < m → strAt l (posN l x) ≠ x) ∧ idx l x = -1) := by
  obtain ⟨hp, hlt, hge⟩ := h.pos x
  have hlen := h.le
  have hne : ∀ {y : ByteArray}, lessB y x = true → y ≠ x := fun hy e => by
    subst e
    unfold lessB at hy
    rw [bless_irrefl] at hy
    cases hy
  by_cases hA : ∃ i, i < m ∧ strAt l i = x
  · obtain ⟨i, him, hix⟩ := hA
    have h1 : posN l x ≤ i := by
      rcases Nat.lt_or_ge i (posN l x) with h1 | h1
      · exact absurd hix (hne (hlt i h1))
      · exact h1
    have h2 : posN l x = i := by
      rcases Nat.eq_or_lt_of_le h1 with h2 | h2
      · exact h2
      · exfalso
        obtain ⟨y, hy, hys, _⟩ := h.at_ (show posN l x < m by omega)
        obtain ⟨z, hz, hzs, _⟩ := h.at_ him
        have h3 := h.sort _ i y z h2 him hy hz
        have h4 := hge (posN l x) (Nat.le_refl _) (by omega)
        rw [hys] at h4
        rw [← hzs, hix] at h3
        rw [h3] at h4
        cases h4
    refine .inl ⟨by omega, by rw [h2]; exact hix, ?_⟩
    rw [h2]
    exact idxFrom_eq hix _ 0 (Nat.zero_le _) (by omega) fun t _ b => hne (hlt t (by omega))
  · refine .inr ⟨fun h1 e => hA ⟨_, h1, e⟩, idxFrom_none _ 0 fun t _ b e => ?_⟩
    rcases Nat.lt_or_ge t m with h1 | h1
    · exact hA ⟨t, h1, e⟩
    · apply hx
      have hy := List.getElem?_eq_getElem (show t < l.length by omega)
      rw [← e, strAt_of hy]
      exact h.free t _ h1 hy
theorem HSort.full (h : HSort l m) (h0 : 0 < l.length) : (strAt l (l.length - 1)).toList ≠ [] ↔ m = l.length := by
  have hy := List.getElem?_eq_getElem (show l.length - 1 < l.length by omega)
  have hlen := h.le
  rw [strAt_of hy]
  constructor
  · intro hn
    apply Classical.byContradiction
    intro hm
    exact hn (h.free _ _ (by omega) hy)
  · intro hm
    exact h.used _ _ (by omega) hy
/-- where the first free place is -/
theorem HSort.idx_free (h : HSort l m) : idx l ⟨#[]⟩ = if m < l.length then (m : Int) else -1 := by
  have hne : ∀ t, t < m → strAt l t ≠ ⟨#[]⟩ := fun t ht e => by
    obtain ⟨y, _, hys, hyn⟩ := h.at_ ht
    rw [hys] at e
    subst e
    exact hyn (by rw [Lib.toList_data])
  split
  · rename_i hm
    have hy := List.getElem?_eq_getElem hm
    have he : strAt l m = ⟨#[]⟩ := by
      rw [strAt_of hy]
      exact ba_inj (by rw [h.free m _ (Nat.le_refl _) hy, Lib.toList_data])
    exact idxFrom_eq he _ 0 (Nat.zero_le _) (by omega) fun t _ b => hne t b
  · rename_i hm
    have hlen := h.le
    exact idxFrom_none _ 0 fun t _ b => hne t (by omega)
theorem insAt_len {β : Type} (l : List β) (k : Nat) (x : β) (hk : k ≤ l.length) : (insAt l k x).length = l.length := by
  unfold insAt
  rw [List.length_dropLast, List.length_append, List.length_cons, List.length_take, List.length_drop]
  omega
theorem insAt_get {β : Type} (l : List β) (k : Nat) (x : β) (hk : k ≤ l.length) (j : Nat) : (insAt l k x)[j]? = if l.length ≤ j then none else if j < k then l[j]? else if j = k then some x else l[j - 1]? := by
  unfold insAt
  rw [List.getElem?_dropLast]
  have hl : (l.take k ++ x :: l.drop k).length - 1 = l.length := by
    rw [List.length_append, List.length_cons, List.length_take, List.length_drop]; omega
  rw [hl]
  by_cases h1 : l.length ≤ j
  · rw [if_pos h1, if_neg (by omega)]
  · rw [if_neg h1, if_pos (by omega)]
    by_cases h2 : j < k
    · rw [if_pos h2, List.getElem?_append_left (by rw [List.length_take]; omega), List.getElem?_take, if_pos h2]
    · rw [if_neg h2, List.getElem?_append_right (by rw [List.length_take]; omega), List.length_take]
      by_cases h3 : j = k
      · rw [if_pos h3, h3, show k - min k l.length = 0 by omega]; rfl
      · rw [if_neg h3, show j - min k l.length = (j - 1 - k) + 1 by omega, List.getElem?_cons_succ, List.getElem?_drop]
        congr 1; omega
theorem insAt_map {β γ : Type} (f : β → γ) (l : List β) (k : Nat) (x : β) : (insAt l k x).map f = insAt (l.map f) k (f x) := by
  unfold insAt
  rw [List.map_dropLast, List.map_append, List.map_cons, List.map_take, List.map_drop]
theorem insAt_mem {β : Type} {l : List β} {k : Nat} {x y : β} (h : y ∈ insAt l k x) : y ∈ l ∨ y = x := by
  unfold insAt at h
  have h := List.dropLast_subset _ h
  rcases List.mem_append.1 h with h | h
  · exact .inl (List.mem_of_mem_take h)
  · rcases List.mem_cons.1 h with h | h
    · exact .inr h
    · exact .inl (List.mem_of_mem_drop h)
/-- all behind place i moved on by one -/
def shf {β : Type} (l : List β) (i : Nat) : List β := l.take (i + 1) ++ (l.drop i).dropLast
theorem shf_get {β : Type} (l : List β) (i : Nat) (hi : i < l.length) (j : Nat) : (shf l i)[j]? = if l.length ≤ j then none else if j ≤ i then l[j]? else l[j - 1]? := by
  unfold shf
  by_cases h1 : j ≤ i
  · rw [if_neg (by omega), if_pos h1, List.getElem?_append_left (by rw [List.length_take]; omega), List.getElem?_take, if_pos (by omega)]
  · rw [List.getElem?_append_right (by rw [List.length_take]; omega), List.length_take, List.getElem?_dropLast, List.length_drop]
    by_cases h2 : l.length ≤ j
    · rw [if_pos h2, if_neg (by omega)]
    · rw [if_neg h2, if_neg h1, if_pos (by omega), List.getElem?_drop]
      congr 1; omega
theorem shf_len {β : Type} (l : List β) (i : Nat) (hi : i < l.length) : (shf l i).length = l.length := by
  unfold shf
  rw [List.length_append, List.length_dropLast, List.length_take, List.length_drop]; omega
theorem shf_start {β : Type} (l : List β) (h0 : 0 < l.length) : shf l (l.length - 1) = l := by
  apply List.ext_getElem?
  intro j
  rw [shf_get _ _ (by omega)]
  by_cases h1 : l.length ≤ j
  · rw [if_pos h1, List.getElem?_eq_none h1]
  · rw [if_neg h1, if_pos (by omega)]
theorem shf_prev {β : Type} {l : List β} {i : Nat} (hi : i < l.length) (h0 : 0 < i) : (shf l i)[i - 1]? = l[i - 1]? := by
  rw [shf_get _ _ hi, if_neg (by omega), if_pos (by omega)]
theorem shf_next {β : Type} {l : List β} {i : Nat} {y : β} (hi : i < l.length) (h0 : 0 < i) (hy : l[i - 1]? = some y) : (shf l i).set i y = shf l (i - 1) := by
  apply List.ext_getElem?
  intro j
  by_cases hj : i = j
  · subst hj
    rw [List.getElem?_set_self (by rw [shf_len _ _ hi]; exact hi), shf_get _ _ (by omega), if_neg (by omega), if_neg (by omega), hy]
  · rw [List.getElem?_set_ne hj, shf_get _ _ hi, shf_get _ _ (by omega)]
    by_cases h1 : l.length ≤ j
    · rw [if_pos h1, if_pos h1]
    · rw [if_neg h1, if_neg h1]
      by_cases h2 : j ≤ i - 1
      · rw [if_pos h2, if_pos (by omega)]
      · rw [if_neg h2, if_neg (by omega)]
theorem shf_done {β : Type} {l : List β} {k : Nat} {x : β} (hk : k < l.length) : (shf l k).set k x = insAt l k x := by
  apply List.ext_getElem?
  intro j
  rw [insAt_get _ _ _ (by omega)]
  by_cases hj : k = j
  · subst hj
    rw [List.getElem?_set_self (by rw [shf_len _ _ hk]; exact hk), if_neg (by omega), if_neg (by omega), if_pos rfl]
  · rw [List.getElem?_set_ne hj, shf_get _ _ hk]
    by_cases h1 : l.length ≤ j
    · rw [if_pos h1, if_pos h1]
    · rw [if_neg h1, if_neg h1]
      by_cases h2 : j < k
      · rw [if_pos h2, if_pos (by omega)]
      · rw [if_neg h2, if_neg (by omega), if_neg (by omega)]
/-- what holds of a summary while it is fed -/
structure HIn (h : Heavy) (b : Int) : Prop where
  pl : 1 ≤ h.Names.length ∧ h.Names.length ≤ 6
  cl : h.Counts.length = h.Names.length
  so : ∃ m, HSort h.Names m
  cb : ∀ (i : Nat) y, h.Counts[i]? = some y → 0 ≤ y ∧ y ≤ b
  gb : 0 ≤ h.Gone ∧ h.Gone ≤ b
  tb : 0 ≤ h.Total ∧ h.Total ≤ b
theorem HIn.of_ok {h : Heavy} (hk : heavyOk h = true) : HIn h 1000000 := by
  have hs := HSort.of_ok hk
  obtain ⟨h1, h2, h3, h4, h5, _⟩ := heavyOk_iff.1 hk
  refine ⟨by omega, h2, hs, fun i y hy => ?_, by omega, by omega⟩
  have hi := (List.getElem?_eq_some_iff.1 hy).1
  have := slotP_bd (h5 i (by omega))
  rw [getD_of hy] at this
  omega
theorem HSort.ins {l : List ByteArray} {m : Nat} {x : ByteArray} (h : HSort l m) (hm : m < l.length) (hx : x.toList ≠ []) (hn : posN l x < m → strAt l (posN l x) ≠ x) : HSort (insAt l (posN l x) x) (m + 1) := by
  obtain ⟨hp, hlt, hge⟩ := h.pos x
  have hg := insAt_get l (posN l x) x (by omega)
  refine ⟨by rw [insAt_len _ _ _ (by omega)]; omega, fun i y hi hy => ?_, fun i y hi hy => ?_, fun i j y z hij hj hy hz => ?_⟩
  · rw [hg] at hy
    split at hy
    · cases hy
    · split at hy
      · exact h.used i y (by omega) hy
      · split at hy
        · injection hy with hy; subst hy; exact hx
        · exact h.used (i - 1) y (by omega) hy
  · rw [hg] at hy
    split at hy
    · cases hy
    · rw [if_neg (by omega), if_neg (by omega)] at hy
      exact h.free (i - 1) y (by omega) hy
  · rw [hg] at hy hz
    rw [if_neg (by omega)] at hy hz
    by_cases h1 : j < posN l x
    · rw [if_pos (by omega)] at hy
      rw [if_pos h1] at hz
      exact h.sort i j y z hij (by omega) hy hz
    · rw [if_neg h1] at hz
      by_cases h2 : j = posN l x
      · rw [if_pos h2] at hz
        injection hz with hz
        rw [if_pos (by omega)] at hy
        have := hlt i (by omega)
        rw [strAt_of hy] at this
        rw [← hz]; exact this
      · rw [if_neg h2] at hz
        by_cases h3 : i < posN l x
        · rw [if_pos h3] at hy
          exact h.sort i (j - 1) y z (by omega) (by omega) hy hz
        · rw [if_neg h3] at hy
          by_cases h4 : i = posN l x
          · rw [if_pos h4] at hy
            injection hy with hy
            subst hy
            have h5 := hge (j - 1) (by omega) (by omega)
            rw [strAt_of hz] at h5
            have h6 : z ≠ x := fun e => by
              rcases Nat.eq_or_lt_of_le (show posN l x ≤ j - 1 by omega) with h7 | h7
              · exact hn (by omega) (by rw [h7, strAt_of hz]; exact e)
              · obtain ⟨u, hu, hus, _⟩ := h.at_ (show posN l x < m by omega)
                have h8 := h.sort _ (j - 1) u z h7 (by omega) hu hz
                have h9 := hge (posN l x) (Nat.le_refl _) (by omega)
                rw [hus] at h9
                rw [e, h9] at h8
                cases h8
            rcases bless_total (fun e => h6 (ba_inj e)) with h7 | h7
            · unfold lessB at h5; rw [h7] at h5; cases h5
            · exact h7
          · rw [if_neg h4] at hy
            exact h.sort (i - 1) (j - 1) y z (by omega) (by omega) hy hz
theorem lessTo_sub (names : List ByteArray) (counts : List Int) : ∀ k, k ≤ names.length → ((lessTo names counts k).map (·.1)).Sublist (names.take k)
  | 0, _ => by simp [lessTo]
  | k + 1, hk => by
    have ih := lessTo_sub names counts k (by omega)
    rw [lessTo, List.map_append, List.take_succ_eq_append_getElem (by omega)]
    refine ih.append ?_
    split
    · rw [List.map_cons, List.map_nil, strAt_of (List.getElem?_eq_getElem (show k < names.length by omega))]
      exact List.Sublist.refl _
    · exact List.nil_sublist _
theorem lessTo_bd {names : List ByteArray} {counts : List Int} {b : Int} (hb : ∀ (i : Nat) y, counts[i]? = some y → 0 ≤ y ∧ y ≤ b) : ∀ k, ∀ p, p ∈ lessTo names counts k → 0 ≤ p.2 ∧ p.2 ≤ b
  | 0, p, hp => by simp [lessTo] at hp
  | k + 1, p, hp => by
    rw [lessTo] at hp
    rcases List.mem_append.1 hp with hp | hp
    · exact lessTo_bd hb k p hp
    · split at hp
      · rename_i h1
        rw [List.mem_singleton.1 hp]
        show 0 ≤ counts.getD k 0 - 1 ∧ counts.getD k 0 - 1 ≤ b
        cases hc : counts[k]? with
        | none => rw [List.getD_eq_getElem?_getD, hc] at h1; simp at h1
        | some y => rw [getD_of hc] at h1 ⊢; have := hb k y hc; omega
      · cases hp
theorem hless_len (h : Heavy) : (hless h).Names.length = h.Names.length ∧ (hless h).Counts.length = h.Names.length := by
  have := lessTo_len h.Names h.Counts h.Names.length
  unfold hless
  simp only [List.length_append, List.length_map, List.length_replicate]
  omega
theorem hless_in {h : Heavy} {b : Int} (hi : HIn h b) (hf : HSort h.Names h.Names.length) : HIn (hless h) (b + 1) := by
  have hl := lessTo_len h.Names h.Counts h.Names.length
  have hlen := hless_len h
  have h1 := hi.pl; have h2 := hi.gb; have h3 := hi.tb
  refine ⟨by rw [hlen.1]; exact hi.pl, by rw [hlen.1]; exact hlen.2, ⟨(lessTo h.Names h.Counts h.Names.length).length, ?_⟩, fun i y hy => ?_, ?_, ?_⟩
  · have hsub := lessTo_sub h.Names h.Counts h.Names.length (Nat.le_refl _)
    rw [List.take_length] at hsub
    have hpw : h.Names.Pairwise (fun x y => lessB x y = true) := by
      rw [List.pairwise_iff_getElem]
      intro i j hi' hj hij
      exact hf.sort i j _ _ hij hj (List.getElem?_eq_getElem hi') (List.getElem?_eq_getElem hj)
    have hpl := hpw.sublist hsub
    have hne : ∀ y ∈ (lessTo h.Names h.Counts h.Names.length).map (·.1), y.toList ≠ [] := fun y hy => by
      have hy := hsub.subset hy
      obtain ⟨i, hi', rfl⟩ := List.mem_iff_getElem.1 hy
      exact hf.used i _ hi' (List.getElem?_eq_getElem hi')
    have hml : ((lessTo h.Names h.Counts h.Names.length).map (·.1)).length = (lessTo h.Names h.Counts h.Names.length).length := by simp
    refine ⟨by rw [hlen.1]; exact hl, fun i y hi' hy => ?_, fun i y hi' hy => ?_, fun i j y z hij hj hy hz => ?_⟩
    · unfold hless at hy
      dsimp only at hy
      rw [List.getElem?_append_left (by rw [hml]; exact hi')] at hy
      exact hne y (List.mem_of_getElem? hy)
    · unfold hless at hy
      dsimp only at hy
      rw [List.getElem?_append_right (by rw [hml]; exact hi'), List.getElem?_replicate] at hy
      split at hy
      · injection hy with hy
        rw [← hy, Lib.toList_data]
      · cases hy
    · unfold hless at hy hz
      dsimp only at hy hz
      rw [List.getElem?_append_left (by rw [hml]; omega)] at hy hz
      obtain ⟨a1, a2⟩ := List.getElem?_eq_some_iff.1 hy
      obtain ⟨b1, b2⟩ := List.getElem?_eq_some_iff.1 hz
      rw [← a2, ← b2]
      exact List.pairwise_iff_getElem.1 hpl i j a1 b1 hij
  · unfold hless at hy
    dsimp only at hy
    have hm := List.mem_of_getElem? hy
    rcases List.mem_append.1 hm with hm | hm
    · obtain ⟨p, hp, rfl⟩ := List.mem_map.1 hm
      have := lessTo_bd hi.cb _ p hp
      omega
    · rw [(List.mem_replicate.1 hm).2]; omega
  · show 0 ≤ h.Gone + 1 ∧ h.Gone + 1 ≤ b + 1; omega
  · show 0 ≤ h.Total + 1 ∧ h.Total + 1 ≤ b + 1; omega
theorem hadd_in {h : Heavy} {b : Int} {x : ByteArray} (hi : HIn h b) (hx : x.toList ≠ []) : HIn (hadd h x) (b + 1) := by
  obtain ⟨m, hs⟩ := hi.so
  have h1 := hi.pl; have h2 := hi.gb; have h3 := hi.tb
  have hlen := hs.le
  unfold hadd
  by_cases hf : 0 ≤ idx h.Names x
  · rw [if_pos hf]
    refine ⟨hi.pl, by rw [List.length_set]; exact hi.cl, ⟨m, hs⟩, fun i y hy => ?_, by show 0 ≤ h.Gone ∧ h.Gone ≤ b + 1; omega, by show 0 ≤ h.Total + 1 ∧ h.Total + 1 ≤ b + 1; omega⟩
    dsimp only at hy
    have hbd := idx_bd (l := h.Names) (v := x)
    by_cases he : (idx h.Names x).toNat = i
    · subst he
      rw [List.getElem?_set_self (by rw [hi.cl]; omega)] at hy
      injection hy with hy
      obtain ⟨z, hz⟩ : ∃ z, h.Counts[(idx h.Names x).toNat]? = some z := ⟨_, List.getElem?_eq_getElem (by rw [hi.cl]; omega)⟩
      rw [getD_of hz] at hy
      have := hi.cb _ z hz
      omega
    · rw [List.getElem?_set_ne he] at hy
      have := hi.cb _ y hy
      omega
  · rw [if_neg hf]
    by_cases hu : (strAt h.Names (h.Names.length - 1)).toList ≠ []
    · rw [if_pos hu]
      have hm := (hs.full (by omega)).1 hu
      subst hm
      exact hless_in hi hs
    · rw [if_neg hu]
      have hm : m < h.Names.length := by
        rcases Nat.lt_or_ge m h.Names.length with h4 | h4
        · exact h4
        · exact absurd ((hs.full (by omega)).2 (by omega)) hu
      have hp := (hs.pos x).1
      have hn : posN h.Names x < m → strAt h.Names (posN h.Names x) ≠ x := by
        rcases hs.found hx with h4 | h4
        · exact absurd (by rw [h4.2.2]; omega) hf
        · exact h4.1
      refine ⟨by show 1 ≤ (insAt _ _ _).length ∧ _; rw [insAt_len _ _ _ (by omega)]; exact hi.pl, by show (insAt _ _ _).length = (insAt _ _ _).length; rw [insAt_len _ _ _ (by rw [hi.cl]; omega), insAt_len _ _ _ (by omega)]; exact hi.cl, ⟨m + 1, hs.ins hm hx hn⟩, fun i y hy => ?_, by show 0 ≤ h.Gone ∧ h.Gone ≤ b + 1; omega, by show 0 ≤ h.Total + 1 ∧ h.Total + 1 ≤ b + 1; omega⟩
      rcases insAt_mem (List.mem_of_getElem? hy) with h4 | h4
      · obtain ⟨j, hj⟩ := List.mem_iff_getElem?.1 h4
        have := hi.cb j y hj
        omega
      · omega
def addHeavy (h : Heavy) (x : ByteArray) : Heavy × Bool :=
  if (heavyOk h && word false x.data.toList) = true then (if heavyOk (hadd h x) = true then (hadd h x, true) else (⟨[], [], 0, 0⟩, false)) else (⟨[], [], 0, 0⟩, false)
/-- names fed one after the other; false where one is none -/
def feedFrom : Heavy → List ByteArray → Heavy × Bool
  | h, [] => (h, true)
  | h, x :: l => if word false x.data.toList = true then feedFrom (hadd h x) l else (⟨[], [], 0, 0⟩, false)
def hv0 (n : Nat) : Heavy := ⟨List.replicate n ⟨#[]⟩, List.replicate n 0, 0, 0⟩
def feedHeavy (n : Int) (l : List ByteArray) : Heavy × Bool :=
  if isIn n 1 6 = true ∧ l.length ≤ 200 then feedFrom (hv0 n.toNat) l else (⟨[], [], 0, 0⟩, false)
theorem hv0_in {n : Nat} (h1 : 1 ≤ n) (h6 : n ≤ 6) : HIn (hv0 n) 0 := by
  refine ⟨by unfold hv0; simp; omega, by unfold hv0; simp, ⟨0, ⟨Nat.zero_le _, fun i x h => by omega, fun i x _ hx => ?_, fun i j x y _ h => by omega⟩⟩, fun i y hy => ?_, by unfold hv0; simp, by unfold hv0; simp⟩
  · unfold hv0 at hx
    dsimp only at hx
    rw [List.getElem?_replicate] at hx
    split at hx
    · injection hx with hx; rw [← hx, Lib.toList_data]
    · cases hx
  · unfold hv0 at hy
    dsimp only at hy
    rw [List.getElem?_replicate] at hy
    split at hy
    · injection hy with hy; omega
    · cases hy
end
end Pl
end Go.Proofs.Ytkhchfbpmmiopaa

/-
  slices.Insert with one element, and append of zero values, on slices that the call owns and whose elements are one cell each and lead nowhere. No program in sight. No conditions.
-/
namespace Go.Proofs.Ytkhchfbpmmiopaa
open Go.RowKit
namespace Mm
theorem flat_sub {β γ : Type} (f : β → List γ) {us ts : List β} (h : us.Sublist ts) : (us.flatMap f).Sublist (ts.flatMap f) := by
  induction h with
  | slnil => exact List.Sublist.refl _
  | cons a _ ih => rw [List.flatMap_cons]; exact ih.trans (List.sublist_append_right _ _)
  | cons_cons a _ ih => rw [List.flatMap_cons, List.flatMap_cons]; exact (List.Sublist.refl _).append ih
/-- fewer things -/
theorem SepF.sub {F : List Nat} {w0 wr : World} {ts us : List Thing} (h : SepF F w0 wr ts) (hs : us.Sublist ts) : SepF F w0 wr us :=
  ⟨h.chg, h.nd.sublist (flat_sub (·.fp) hs), fun b hb => h.new b ((flat_sub (·.fp) hs).subset hb), fun u hu => h.hold u (hs.subset hu)⟩
/-- elements of one cell that lead nowhere -/
structure Flat1 {α : Type} (E : Rep α) (val : α → Value) : Prop where
  size : E.size = 1
  one : ∀ x, (val x).oneCell' = true
  inv : ∀ {w x cs fx}, E.own w x cs fx → cs = [val x] ∧ fx = [] ∧ ∀ w', E.own w' x [val x] []
theorem flat1_int : Flat1 int (fun x => .int .i64 x) := ⟨rfl, fun _ => rfl, fun h => ⟨h.1, h.2.2, fun _ => ⟨rfl, h.2.1, rfl⟩⟩⟩
theorem flat1_str : Flat1 str (fun x => .string x) := ⟨rfl, fun _ => rfl, fun h => ⟨h.1, h.2.2, fun _ => ⟨rfl, h.2.1, rfl⟩⟩⟩
theorem fm_val {α : Type} (val : α → Value) : ∀ xs : List α, xs.flatMap (fun x => [val x]) = xs.map val
  | [] => rfl
  | a :: t => by rw [List.flatMap_cons, fm_val val t]; rfl
theorem shape_blk {w : World} {g : Nat} {t : TypeId} {cs : List Value} (h : Blk w g t cs) : w.shape? g = some (t, cs.length) := by
  unfold Blk at h
  unfold World.shape?
  rw [h]
  simp
section
variable {α : Type} {E : Rep α} {val : α → Value} {e : TypeId} {w w' : World} {xs : List α} {v : Value} {fp : List Nat} {g n c : Nat}
theorem Flat1.owns (hF : Flat1 E val) (h : SlOwn E e w xs v fp) : w.ownsRow 0 e 1 v xs.length (xs.map val) ∧ fp = v.ownBlock.toList ∧ ∀ x, x ∈ xs → ∀ w', E.own w' x [val x] [] := by
  obtain ⟨es, he, ho, rfl⟩ := h
  have h1 : es = xs.map fun x => ([val x], ([] : List Nat)) := by
    apply List.ext_getElem?
    intro i
    rw [List.getElem?_map]
    rcases Nat.lt_or_ge i xs.length with hi | hi
    · have hx := List.getElem?_eq_getElem hi
      have hy := List.getElem?_eq_getElem (show i < es.length by rw [he.1]; exact hi)
      have h2 := hF.inv (he.2 i _ _ hx hy)
      rw [hx, hy]
      exact congrArg some (Prod.ext h2.1 h2.2.1)
    · rw [List.getElem?_eq_none hi, List.getElem?_eq_none (by rw [he.1]; exact hi)]
      rfl
  have h3 : (xs.map fun x => ([val x], ([] : List Nat))).flatMap (·.1) = xs.map val := by rw [List.flatMap_map]; exact fm_val val xs
  have h4 : (xs.map fun x => ([val x], ([] : List Nat))).flatMap (·.2) = [] := by simp [List.flatMap_map]
  refine ⟨?_, by rw [h1, h4]; simp, fun x hx w' => ?_⟩
  · rw [h1, h3, hF.size] at ho
    exact ho
  · obtain ⟨i, hi, rfl⟩ := List.mem_iff_getElem.1 hx
    exact (hF.inv (he.2 i _ _ (List.getElem?_eq_getElem hi) (List.getElem?_eq_getElem (show i < es.length by rw [he.1]; exact hi)))).2.2 w'
theorem Flat1.row (hF : Flat1 E val) (ho : w.ownsRow 0 e 1 v xs.length (xs.map val)) (hE : ∀ x, x ∈ xs → E.own w x [val x] []) : SlOwn E e w xs v v.ownBlock.toList :=
  SlOwn.of_row (enc := fun x => [val x]) (by
    rw [hF.size, show xs.flatMap (fun x => [val x]) = xs.map val from fm_val val xs]
    exact ho) hE rfl
theorem Flat1.blk (hF : Flat1 E val) (h : SlOwn E e w xs (.slice (some ⟨g, 0, none⟩) n c) fp) : ∃ cur, Blk w g e cur ∧ cur.length = c ∧ cur.take n = xs.map val ∧ n = xs.length ∧ n ≤ c ∧ c ≤ maxLen ∧ fp = [g] := by
  obtain ⟨h1, h2, _⟩ := hF.owns h
  rcases h1.2 with ⟨h3, _⟩ | ⟨g', cap, cur, h3, _, hg, hnc, hcm, hcs, htake⟩
  · simp at h3
  · simp only [Value.slice.injEq, Option.some.injEq, Addr.mk.injEq, and_true] at h3
    obtain ⟨rfl, rfl, rfl⟩ := h3
    refine ⟨cur.toList, by unfold Blk; rw [Array.toArray_toList]; exact hg, by simpa using hcs, by simpa using htake, rfl, hnc, hcm, by rw [h2]; simp [Value.ownBlock]⟩
theorem Flat1.of_blk (hF : Flat1 E val) {cur : List Value} (h : Blk w g e cur) (hl : cur.length = c) (ht : cur.take n = xs.map val) (hn : xs.length = n) (hnc : n ≤ c) (hc : c ≤ maxLen) (hE : ∀ x, x ∈ xs → E.own w x [val x] []) : SlOwn E e w xs (.slice (some ⟨g, 0, none⟩) n c) [g] := by
  subst hn
  exact hF.row ⟨by simp, .inr ⟨g, c, cur.toArray, rfl, Nat.zero_le _, h, hnc, hc, by simpa using hl, by simpa using ht⟩⟩ hE
theorem Flat1.cell (hF : Flat1 E val) (h : SlOwn E e w xs (.slice (some ⟨g, 0, none⟩) n c) fp) {k : Nat} {x : α} (hk : xs[k]? = some x) : w.cell? ⟨g, k, none⟩ = some (val x) := by
  obtain ⟨cur, hb, hcl, ht, hn, hnc, _⟩ := hF.blk h
  have hkn := (List.getElem?_eq_some_iff.1 hk).1
  refine hb.cell ?_
  have h1 : (cur.take n)[k]? = some (val x) := by rw [ht, List.getElem?_map, hk]; rfl
  rw [List.getElem?_take, if_pos (by omega)] at h1
  exact h1
theorem setCells_blk : ∀ (vs : List Value) (w : World) (o : Nat) (cs : List Value), Blk w g e cs → Blk (w.setCells g o vs) g e (setList cs o vs)
  | [], _, _, _, h => h
  | v :: r, _, o, _, h => setCells_blk r _ (o + 1) _ (h.set_ o v)
theorem setCells_chg (g : Nat) : ∀ (vs : List Value) (w : World) (o : Nat), Chg [g] w (w.setCells g o vs)
  | [], w, _ => Chg.refl _ _
  | v :: r, w, o => ((Chg.refl [g] w).setCell (p := ⟨g, o, none⟩) (by simp) v).trans (setCells_chg g r _ (o + 1))
theorem ins_cells {cur ys : List Value} {u : Value} {i : Nat} (ht : cur.take n = ys) (hn : ys.length = n) (hi : i < n) (hroom : n + 1 ≤ cur.length) :
    (setList (setList cur (i + 1) (ys.drop i)) i [u]).take n = Pl.insAt ys i u := by
  apply List.ext_getElem?
  intro j
  rw [Pl.insAt_get _ _ _ (by omega), List.getElem?_take, hn]
  by_cases hj : n ≤ j
  · rw [if_neg (by omega), if_pos hj]
  · rw [if_pos (by omega), if_neg hj, setList_get _ _ _ _ (by rw [setList_len]; simp; omega)]
    by_cases h1 : j < i
    · rw [if_pos h1, if_neg (by omega), setList_get _ _ _ _ (by rw [List.length_drop]; omega), if_neg (by omega), ← ht, List.getElem?_take, if_pos (by omega)]
    · rw [if_neg h1]
      by_cases h2 : j = i
      · subst h2
        rw [if_pos rfl, if_pos (by simp), Nat.sub_self]; rfl
      · rw [if_neg h2, if_neg (by simp; omega), setList_get _ _ _ _ (by rw [List.length_drop]; omega), if_pos (by rw [List.length_drop]; omega), List.getElem?_drop]
        congr 1; omega
theorem ins_cells' {rest ys : List Value} {z u : Value} {i k : Nat} (hn : ys.length = n) (hi : i < n) (hk : (ys.take i ++ List.replicate (n + 1 - i) z ++ rest).length = k) :
    (setList (setList (ys.take i ++ List.replicate (n + 1 - i) z ++ rest) i [u]) (i + 1) (ys.drop i)).take n = Pl.insAt ys i u := by
  have hl : n + 1 ≤ (ys.take i ++ List.replicate (n + 1 - i) z ++ rest).length := by
    rw [List.length_append, List.length_append, List.length_take, List.length_replicate]; omega
  apply List.ext_getElem?
  intro j
  rw [Pl.insAt_get _ _ _ (by omega), List.getElem?_take, hn]
  by_cases hj : n ≤ j
  · rw [if_neg (by omega), if_pos hj]
  · rw [if_pos (by omega), if_neg hj, setList_get _ _ _ _ (by rw [setList_len, List.length_drop]; omega)]
    by_cases h1 : j < i
    · rw [if_pos h1, if_neg (by omega), setList_get _ _ _ _ (by simp only [List.length_singleton]; omega), if_neg (by omega), List.getElem?_append_left (by rw [List.length_append, List.length_take, List.length_replicate]; omega), List.getElem?_append_left (by rw [List.length_take]; omega), List.getElem?_take, if_pos h1]
    · rw [if_neg h1]
      by_cases h2 : j = i
      · subst h2
        rw [if_pos rfl, if_neg (by omega), setList_get _ _ _ _ (by simp only [List.length_singleton]; omega), if_pos (by simp), Nat.sub_self]; rfl
      · rw [if_neg h2, if_pos (by rw [List.length_drop]; omega), List.getElem?_drop]
        congr 1; omega
/-- behind slices.Insert of one element, where there was room: the slice cut back to its old length -/
theorem ins_shift {F : List Nat} {w0 wr : World} {ts : List Thing} {i k : Nat} {x : α} (hF : Flat1 E val) (h : SepF F w0 wr ts) (hi : ts[i]? = some (tsl E e xs (.slice (some ⟨g, 0, none⟩) n c) fp)) (hk : k < n) (hroom : n + 1 ≤ c) (hx : ∀ w, E.own w x [val x] []) {off1 off2 : Nat} (h1 : k + 1 = off1) (h2 : k = off2) :
    SepF F w0 ((wr.drew.setCells g off1 ((xs.map val).drop k)).setCells g off2 [val x]) (ts.set i (tsl E e (Pl.insAt xs k x) (.slice (some ⟨g, 0, none⟩) n c) fp)) := by
  subst h1; subst h2
  have hs : SlOwn E e wr xs (.slice (some ⟨g, 0, none⟩) n c) fp := h.at_ i hi
  obtain ⟨cur, hb, hcl, ht, hn, hnc, hcm, rfl⟩ := hF.blk hs
  have hxs := (hF.owns hs).2.2
  have hd : Blk wr.drew g e cur := hb
  have hb2 := setCells_blk [val x] _ k _ (setCells_blk ((xs.map val).drop k) _ (k + 1) _ hd)
  refine h.upd hi (((Chg.of_below (Below.refl wr.heap.size wr).drew).trans (setCells_chg g _ _ _)).trans (setCells_chg g _ _ _)) (t' := tsl E e (Pl.insAt xs k x) (.slice (some ⟨g, 0, none⟩) n c) [g]) ?_ (by simp [tsl]) (fun b hb => .inl hb)
  refine hF.of_blk hb2 (by rw [setList_len, setList_len, hcl]) ?_ (by rw [Pl.insAt_len _ _ _ (by omega)]; omega) hnc hcm (fun y hy => ?_)
  · rw [ins_cells ht (by rw [List.length_map]; omega) hk (by omega), Pl.insAt_map]
  · rcases Pl.insAt_mem hy with hy | rfl
    · exact hxs y hy _
    · exact hx _
/-- the same, where it has moved -/
theorem ins_grow {F : List Nat} {w0 wr : World} {ts : List Thing} {i k : Nat} {x : α} {z : Value} {ROW : Array Value} {G : Nat} (hF : Flat1 E val) (h : SepF F w0 wr ts) (hi : ts[i]? = some (tsl E e xs (.slice (some ⟨g, 0, none⟩) n c) fp)) (hk : k < n) (hx : ∀ w, E.own w x [val x] []) {off1 off2 : Nat} (h1 : k = off1) (h2 : k + 1 = off2) (hG : n + 1 ≤ G) (hGm : G ≤ maxLen)
    (hR : ROW = ((xs.map val).take k).toArray ++ Builtin.zeroCells #[z] (n + 1 - k) ++ Builtin.zeroCells #[z] (G - (n + 1))) :
    SepF F w0 ((((wr.alloc (.cells ROW e)).drew.setCells wr.heap.size off1 [val x]).drew).setCells wr.heap.size off2 ((xs.map val).drop k)) (ts.set i (tsl E e (Pl.insAt xs k x) (.slice (some ⟨wr.heap.size, 0, none⟩) n G) [wr.heap.size])) := by
  subst h1; subst h2
  have hs : SlOwn E e wr xs (.slice (some ⟨g, 0, none⟩) n c) fp := h.at_ i hi
  obtain ⟨cur, hb, hcl, ht, hn, hnc, hcm, rfl⟩ := hF.blk hs
  have hxs := (hF.owns hs).2.2
  have hz : ∀ m, (Builtin.zeroCells #[z] m).toList = List.replicate m z := fun m => by
    apply List.ext_getElem?
    intro j
    by_cases hj : j < m <;> simp [Builtin.zeroCells, hj, Nat.mod_one]
  have hRl : ROW.toList = (xs.map val).take k ++ List.replicate (n + 1 - k) z ++ List.replicate (G - (n + 1)) z := by
    rw [hR]; simp [hz]
  have hRs : ROW.toList.length = G := by
    rw [hRl]; simp; omega
  have hd : Blk (wr.alloc (.cells ROW e)).drew wr.heap.size e ROW.toList := by
    have := Blk.new wr e ROW.toList
    rw [Array.toArray_toList] at this
    exact this
  have hb1 : Blk (((wr.alloc (.cells ROW e)).drew.setCells wr.heap.size k [val x]).drew) wr.heap.size e (setList ROW.toList k [val x]) := setCells_blk [val x] _ k _ hd
  have hb2 := setCells_blk ((xs.map val).drop k) _ (k + 1) _ hb1
  have hch : Below wr.heap.size wr ((((wr.alloc (.cells ROW e)).drew.setCells wr.heap.size k [val x]).drew).setCells wr.heap.size (k + 1) ((xs.map val).drop k)) := by
    have q1 : Below wr.heap.size wr (wr.alloc (.cells ROW e)).drew := (below_new (Below.refl _ _) _).drew
    have q2 := Below.chg q1 (setCells_chg wr.heap.size [val x] _ k) q1.size (fun b hb => by rw [List.mem_singleton.1 hb]; exact Nat.le_refl _)
    have q3 := Below.chg q2.drew (setCells_chg wr.heap.size ((xs.map val).drop k) _ (k + 1)) q2.drew.size (fun b hb => by rw [List.mem_singleton.1 hb]; exact Nat.le_refl _)
    exact q3
  refine h.upd hi (Chg.of_below hch) (t' := tsl E e (Pl.insAt xs k x) (.slice (some ⟨wr.heap.size, 0, none⟩) n G) [wr.heap.size]) ?_ (by simp [tsl]) (fun b hb => .inr (by simp [tsl] at hb; omega))
  refine hF.of_blk hb2 (by rw [setList_len, setList_len, hRs]) ?_ (by rw [Pl.insAt_len _ _ _ (by omega)]; omega) (by omega) hGm (fun y hy => ?_)
  · rw [hRl, ins_cells' (by rw [List.length_map]; omega) hk rfl, Pl.insAt_map]
  · rcases Pl.insAt_mem hy with hy | rfl
    · exact hxs y hy _
    · exact hx _
end
section
variable {P : Program} (w : World)
/-- append(s, make([]T, k)...) on a slice that the call owns -/
theorem run_append_own_zeros (t tn ty e : TypeId) (i : TypeInfo) (z : Value) (bytes : Nat) (ht : P.underlying t = some (.slice e)) (htn : P.underlying tn = some (.int .i64)) (hi : P.info? e = some i) (hz : i.zero = some z) (hsize : i.size = 1) (hby : i.bytes = bytes) (hzs : z.cells = #[z]) (hz1 : z.oneCell' = true)
    (v : Value) (n : Nat) (xs : List Value) (hown : w.ownsRow 0 e 1 v n xs) (k : Nat) (hnk : n + k ≤ maxLen) (hbytes : (n + k) * bytes ≤ 140737488355328) :
    ∃ v' w', (Builtin.append_ #[t, tn] ty #[v, .int .i64 k]).run P w = .ok v' w' ∧ w'.ownsRow 0 e 1 v' (n + k) (xs ++ List.replicate k z) ∧ w.grownBy w' v.ownBlock ∧ (v'.ownBlock = v.ownBlock ∨ v'.ownBlock = some w.heap.size) := by
  subst hby
  have hzc : ∀ m, (Builtin.zeroCells z.cells m).toList = List.replicate m z := fun m => by
    rw [hzs]
    apply List.ext_getElem?
    intro j
    by_cases hj : j < m <;> simp [Builtin.zeroCells, hj, Nat.mod_one]
  have hlen : (xs ++ List.replicate k z).length = n + k := by rw [List.length_append, hown.1, List.length_replicate]; omega
  have hm63 : n + k ≤ 9223372036854775807 := by unfold maxLen at hnk; omega
  have hkb : k * i.bytes ≤ 281474976710656 := by
    have := Nat.mul_le_mul_right i.bytes (show k ≤ n + k by omega)
    omega
  have grown : ∀ (old : Nat) (row : Option Nat),
      (w.drew.alloc (.cells (xs.toArray ++ Builtin.zeroCells z.cells k ++ Builtin.zeroCells z.cells (grownCap w (n + k) old e - (n + k))) e)).ownsRow 0 e 1
        (.slice (some ⟨w.heap.size, 0, none⟩) (n + k) (grownCap w (n + k) old e)) (n + k) (xs ++ List.replicate k z) ∧
      w.grownBy (w.drew.alloc (.cells (xs.toArray ++ Builtin.zeroCells z.cells k ++ Builtin.zeroCells z.cells (grownCap w (n + k) old e - (n + k))) e)) row := by
    intro old row
    have hge := grownCap_ge w (n + k) old e
    have hcm : grownCap w (n + k) old e ≤ maxLen := grownCap_le_maxLen w (n + k) old e hnk
    refine ⟨⟨by rw [hlen]; omega, .inr ⟨w.heap.size, _, _, rfl, Nat.zero_le _, heap_alloc_new w.drew _, hge, hcm, ?_, ?_⟩⟩, ⟨rfl, rfl, rfl, by simp, fun k hk _ => heap_alloc_old w.drew _ hk⟩⟩
    · have := hown.1
      simp only [Array.size_append, List.size_toArray, size_zeroCells, hzs, Nat.mul_one, List.size_toArray]
      simp
      omega
    · simp only [Array.toList_append, hzc]
      rw [Nat.mul_one, ← hlen]
      exact List.take_left
  rcases hown.2 with ⟨rfl, rfl⟩ | ⟨g, cap, cur, rfl, hbg, hg, hnc, hcm, hcs, htake⟩
  · have hx : xs = [] := List.eq_nil_of_length_eq_zero (by simpa using hown.1)
    subst hx
    rcases Nat.eq_zero_or_pos k with rfl | hk
    · refine ⟨_, w, ?_, by simpa using World.ownsRow_nil w 0 e 1, ⟨rfl, rfl, rfl, Nat.le_refl _, fun _ _ _ => rfl⟩, .inl rfl⟩
      have hw : IntKind.i64.wrap 0 = 0 := by decide
      simp [Builtin.append_, run_underlying ht, run_underlying htn, sizeOf, typeInfo, hi, asInt, asIntOf, hw]
    · have hr := Lib.run_append_nil_zeros (P := P) w t tn ty e i z .i64 .i64 ht htn hi hz k hk (by omega) (by omega) hkb
      obtain ⟨g1, g2⟩ := grown 0 none
      simp only [Nat.zero_add] at g1 g2
      refine ⟨_, _, hr, ?_, ?_, .inr rfl⟩
      · have : (([] : List Value).toArray ++ Builtin.zeroCells z.cells k) = Builtin.zeroCells z.cells k := by simp
        rw [this] at g1
        rw [Nat.zero_add]
        exact g1
      · have : (([] : List Value).toArray ++ Builtin.zeroCells z.cells k) = Builtin.zeroCells z.cells k := by simp
        rw [this] at g2
        exact g2
  · have hw : IntKind.i64.wrap (k : Int) = k := by rw [IntKind.wrap_i64]; omega
    have hcl : cur.toList.length = cap := by rw [Array.length_toList, hcs, Nat.mul_one]
    have hxl : xs.length = n := by rw [hown.1, Nat.mul_one]
    rcases Nat.lt_or_ge cap (n + k) with hlt | hroom
    · have hold : (Builtin.firstCells i.size n (.slice (some ⟨g, 0, none⟩) n cap)).run P w.drew = .ok xs.toArray w.drew := by
        rw [hsize]
        exact run_firstCells_some w.drew 1 n ⟨g, 0, none⟩ n cap xs (by rw [hxl]; omega) (fun j v hj => by
          have := hown.cells (g := g) rfl j v hj
          exact this)
      have hr := Lib.run_append_grow_zeros (P := P) w t tn ty e i z .i64 .i64 ht htn hi hz (some ⟨g, 0, none⟩) n cap xs hold k (by omega) (by omega) hlt (by omega) hkb (growslice_fits hlt hbytes)
      obtain ⟨g1, g2⟩ := grown cap (some g)
      exact ⟨_, _, hr, g1, g2, .inr rfl⟩
    · rcases Nat.eq_zero_or_pos k with rfl | hk
      · refine ⟨.slice (some ⟨g, 0, none⟩) (n + 0) cap, w, ?_, by simpa using hown, ⟨rfl, rfl, rfl, Nat.le_refl _, fun _ _ _ => rfl⟩, .inl rfl⟩
        have hw0 : IntKind.i64.wrap 0 = 0 := by decide
        simp [Builtin.append_, run_underlying ht, run_underlying htn, sizeOf, typeInfo, hi, asInt, asIntOf, hw0, hnc, storeCells]
      · have hst := run_storeCells_at P g n e (List.replicate k z) 0 cur w hg (by rw [List.length_replicate]; have := hcs; omega) (fun v hv => by rw [(List.mem_replicate.1 hv).2]; exact hz1)
        simp only [Nat.add_zero, List.length_replicate] at hst
        have hks : ¬ (k = 0) := by omega
        have hneg : ¬ ((k : Int) < 0) := by omega
        have h48i : ¬ (281474976710656 < (k : Int) * (i.bytes : Int)) := by
          rw [← Int.natCast_mul]
          omega
        have hr : (Builtin.append_ #[t, tn] ty #[.slice (some ⟨g, 0, none⟩) n cap, .int .i64 k]).run P w = .ok (.slice (some ⟨g, 0, none⟩) (n + k) cap) (w.setRow g (cur.toList.take n ++ List.replicate k z ++ cur.toList.drop (n + k)).toArray) := by
          simp [Builtin.append_, run_underlying ht, run_underlying htn, sizeOf, typeInfo, zeroValue, hi, hz, asInt, asIntOf, hw, hneg, h48i, hsize, hks, hroom, Addr.add_lit, hzc, hst]
        refine ⟨_, _, hr, ⟨by rw [hlen]; omega, .inr ⟨g, cap, _, rfl, hbg, setRow_heap w g cur _ e _ hg, hroom, hcm, ?_, ?_⟩⟩, ⟨rfl, rfl, rfl, by simp, fun k hk hn => setRow_other w g k _ (fun e => hn (by simp [e, Value.ownBlock]))⟩, .inl rfl⟩
        · simp only [List.size_toArray, List.length_append, List.length_take, List.length_drop, List.length_replicate, hcl]
          omega
        · rw [Nat.mul_one] at htake ⊢
          show ((cur.toList.take n ++ List.replicate k z) ++ cur.toList.drop (n + k)).take (n + k) = _
          rw [htake, ← hlen]
          exact List.take_left
end
theorem SepF.perm {F : List Nat} {w0 wr : World} {ts us : List Thing} (h : SepF F w0 wr ts) (hp : us.Perm ts) : SepF F w0 wr us :=
  h.conv (List.Perm.flatMap_right _ hp) fun u hu => h.hold u (hp.mem_iff.1 hu)
/-- the third thing in front -/
theorem SepF.front3 {F : List Nat} {w0 wr : World} {ts : List Thing} {a b c : Thing} (h : SepF F w0 wr (a :: b :: c :: ts)) : SepF F w0 wr (c :: a :: b :: ts) :=
  h.perm (List.perm_middle (l₁ := [a, b])).symm
/-- append of zero values, on one of the things -/
theorem SepF.zeros {P : Program} {α : Type} {E : Rep α} {val : α → Value} {F : List Nat} {w0 w : World} {ts : List Thing} {i : Nat} {xs : List α} {v : Value} {fp : List Nat} {z0 : α} (hF : Flat1 E val) (h : SepF F w0 w ts) (t tn ty e : TypeId) (ii : TypeInfo) (z : Value) (bytes : Nat) (hi : ts[i]? = some (tsl E e xs v fp)) (ht : P.underlying t = some (.slice e)) (htn : P.underlying tn = some (.int .i64)) (hin : P.info? e = some ii) (hz : ii.zero = some z) (hsize : ii.size = 1) (hby : ii.bytes = bytes) (hzs : z.cells = #[z]) (hz1 : z.oneCell' = true)
    (hv : val z0 = z) (hz0 : ∀ w, E.own w z0 [z] []) (k : Nat) (hnk : xs.length + k ≤ maxLen) (hbytes : (xs.length + k) * bytes ≤ 140737488355328) :
    ∃ v' w' fp', (Builtin.append_ #[t, tn] ty #[v, .int .i64 k]).run P w = .ok v' w' ∧ SepF F w0 w' (ts.set i (tsl E e (xs ++ List.replicate k z0) v' fp')) := by
  have hs : SlOwn E e w xs v fp := h.at_ i hi
  obtain ⟨ho, hfp, hx⟩ := hF.owns hs
  obtain ⟨v', w', h1, h2, h3, h4⟩ := run_append_own_zeros (P := P) w (ty := ty) t tn e ii z bytes ht htn hin hz hsize hby hzs hz1 v _ _ ho k hnk hbytes
  refine ⟨v', w', v'.ownBlock.toList, h1, h.upd hi ⟨h3.os, h3.tape, h3.output, h3.size, fun b hb hn => h3.block b hb (fun e => hn (by rw [hfp]; show b ∈ v.ownBlock.toList; rw [← e]; simp))⟩ (t' := tsl E e (xs ++ List.replicate k z0) v' v'.ownBlock.toList) ?_ (by simp only [tsl]; cases v'.ownBlock <;> simp) (fun b hb => ?_)⟩
  · refine hF.row ?_ (fun x hm => ?_)
    · rw [List.length_append, List.length_replicate, List.map_append, List.map_replicate, hv]
      exact h2
    · rcases List.mem_append.1 hm with hm | hm
      · exact hx x hm _
      · rw [(List.mem_replicate.1 hm).2, hv]; exact hz0 _
  · simp only [tsl] at hb ⊢
    rw [hfp]
    rcases h4 with h4 | h4
    · rw [h4] at hb; exact .inl hb
    · rw [h4] at hb; simp at hb; exact .inr (by omega)
end Mm
end Go.Proofs.Ytkhchfbpmmiopaa

/-
  slices.Insert at elements of several cells: the rows before and behind, and what an owned slice is then. No program in sight. No conditions.
-/
namespace Go.Proofs.Ytkhchfbpmmiopaa
open Go.RowKit
namespace Mm
section
variable {P : Program}
/-- copy, at elements of s cells: all is read before anything is written -/
theorem run_copy_k (w : World) (dT sT ty elem : TypeId) (s b o dLen dCap : Nat) (a : Addr) (sLen sCap : Nat) (cs : List Value)
    (hu : P.underlying dT = some (.slice elem)) (hs : (P.info? elem).map (·.size) = some s) (hn : cs.length = Nat.min sLen dLen * s)
    (hsrc : ∀ j v, cs[j]? = some v → w.cell? (a.add j) = some v) (hc : ∀ j, j < cs.length → (w.cell? ⟨b, o + j, none⟩).isSome = true) (hf : ∀ j, j < cs.length → w.frozen? ⟨b, o + j, none⟩ = false) (h1 : ∀ v ∈ cs, v.oneCell' = true) :
    (Builtin.copy_ #[dT, sT] ty #[.slice (some ⟨b, o, none⟩) dLen dCap, .slice (some a) sLen sCap]).run P w = .ok (goInt (Nat.min sLen dLen)) (w.setCells b o cs) := by
  have hl := run_loadCells_list (P := P) w a cs hsrc
  have hst := run_storeCells_cells (P := P) b o cs 0 w (by simpa using hc) (by simpa using hf) h1
  cases hq : P.info? elem with
  | none => simp [hq] at hs
  | some i =>
    have hi : i.size = s := by simpa [hq] using hs
    simp [Builtin.copy_, run_underlying hu, Builtin.lenOf, Builtin.firstCells, sizeOf, typeInfo, hq, hi, ← hn, hl, hst]
end
theorem ins_rows {cur cells ct : List Value} {N K S : Nat} (ht : cur.take N = cells) (hl : cells.length = N) (hK : K ≤ N) (hS : ct.length = S) (hroom : N + S ≤ cur.length) :
    (setList (setList cur (K + S) (cells.drop K)) K ct).take (N + S) = cells.take K ++ ct ++ cells.drop K := by
  apply List.ext_getElem?
  intro j
  rw [List.getElem?_take]
  by_cases hj : j < N + S
  · rw [if_pos hj, setList_get _ _ _ _ (by rw [setList_len, hS]; omega), setList_get _ _ _ _ (by rw [List.length_drop, hl]; omega), List.length_drop, hl, hS]
    by_cases h1 : j < K
    · rw [if_neg (by omega), if_neg (by omega), List.append_assoc, List.getElem?_append_left (by rw [List.length_take, hl]; omega), List.getElem?_take, if_pos h1, ← ht, List.getElem?_take, if_pos (by omega)]
    · by_cases h2 : j < K + S
      · rw [if_pos ⟨by omega, h2⟩, List.append_assoc, List.getElem?_append_right (by rw [List.length_take, hl]; omega), List.length_take, hl, Nat.min_eq_left hK, List.getElem?_append_left (by omega)]
      · rw [if_neg (by omega), if_pos (by omega), List.getElem?_append_right (by rw [List.length_append, List.length_take, hl]; omega), List.length_append, List.length_take, hl, Nat.min_eq_left hK, hS]
  · rw [if_neg hj, List.getElem?_eq_none (by rw [List.length_append, List.length_append, List.length_take, List.length_drop, hl, hS]; omega)]
theorem ins_rows' {cur cells ct : List Value} {N K S : Nat} (ht : cur.take K = cells.take K) (hl : cells.length = N) (hK : K ≤ N) (hS : ct.length = S) (hroom : N + S ≤ cur.length) :
    (setList (setList cur K ct) (K + S) (cells.drop K)).take (N + S) = cells.take K ++ ct ++ cells.drop K := by
  apply List.ext_getElem?
  intro j
  rw [List.getElem?_take]
  by_cases hj : j < N + S
  · rw [if_pos hj, setList_get _ _ _ _ (by rw [setList_len, List.length_drop, hl]; omega), setList_get _ _ _ _ (by rw [hS]; omega), List.length_drop, hl, hS]
    by_cases h1 : j < K
    · have h2 : cur[j]? = (cells.take K)[j]? := by rw [← ht, List.getElem?_take, if_pos h1]
      rw [if_neg (by omega), if_neg (by omega), List.append_assoc, List.getElem?_append_left (by rw [List.length_take, hl]; omega), h2]
    · by_cases h2 : j < K + S
      · rw [if_neg (by omega), if_pos ⟨by omega, h2⟩, List.append_assoc, List.getElem?_append_right (by rw [List.length_take, hl]; omega), List.length_take, hl, Nat.min_eq_left hK, List.getElem?_append_left (by omega)]
      · rw [if_pos (by omega), List.getElem?_append_right (by rw [List.length_append, List.length_take, hl]; omega), List.length_append, List.length_take, hl, Nat.min_eq_left hK, hS]
  · rw [if_neg hj, List.getElem?_eq_none (by rw [List.length_append, List.length_append, List.length_take, List.length_drop, hl, hS]; omega)]
/-- one element among the others, at k -/
def insertAt {α : Type} (l : List α) (k : Nat) (x : α) : List α := l.take k ++ x :: l.drop k
theorem insertAt_len {α : Type} (l : List α) (k : Nat) (x : α) : (insertAt l k x).length = l.length + 1 := by
  unfold insertAt
  rw [List.length_append, List.length_cons, ← List.take_append_drop k l, List.length_append]
  simp; omega
theorem insertAt_map {α β : Type} (f : α → β) (l : List α) (k : Nat) (x : α) : (insertAt l k x).map f = insertAt (l.map f) k (f x) := by
  unfold insertAt
  rw [List.map_append, List.map_take, List.map_cons, List.map_drop]
theorem rowsMap_take {β γ : Type} (f : β → List γ) (s : Nat) : ∀ (l : List β) (k : Nat), (∀ y ∈ l, (f y).length = s) → (l.take k).flatMap f = (l.flatMap f).take (k * s)
  | [], k, _ => by simp
  | z :: t, 0, _ => by simp
  | z :: t, k + 1, h => by
    have hz := h z (by simp)
    have e0 : (k + 1) * s = s + k * s := by rw [Nat.add_mul]; omega
    have e1 : (f z).take (s + k * s) = f z := List.take_of_length_le (by omega)
    rw [List.take_succ_cons, List.flatMap_cons, List.flatMap_cons, rowsMap_take f s t k (fun y hy => h y (by simp [hy])), List.take_append, hz, e0, e1, Nat.add_sub_cancel_left]
theorem rowsMap_drop {β γ : Type} (f : β → List γ) (s : Nat) : ∀ (l : List β) (k : Nat), (∀ y ∈ l, (f y).length = s) → (l.drop k).flatMap f = (l.flatMap f).drop (k * s)
  | [], k, _ => by simp
  | z :: t, 0, _ => by simp
  | z :: t, k + 1, h => by
    have hz := h z (by simp)
    have e0 : (k + 1) * s = s + k * s := by rw [Nat.add_mul]; omega
    have e1 : (f z).drop (s + k * s) = [] := List.drop_of_length_le (by omega)
    rw [List.drop_succ_cons, List.flatMap_cons, rowsMap_drop f s t k (fun y hy => h y (by simp [hy])), List.drop_append, hz, e0, e1, Nat.add_sub_cancel_left, List.nil_append]
theorem insertAt_flat {β γ : Type} (f : β → List γ) (s : Nat) (l : List β) (k : Nat) (x : β) (h : ∀ y ∈ l, (f y).length = s) : (insertAt l k x).flatMap f = (l.flatMap f).take (k * s) ++ f x ++ (l.flatMap f).drop (k * s) := by
  unfold insertAt
  rw [List.flatMap_append, List.flatMap_cons, rowsMap_take f s l k h, rowsMap_drop f s l k h, List.append_assoc]
theorem insertAt_get {α : Type} {l : List α} {k i : Nat} {x y : α} (hk : k ≤ l.length) (h : (insertAt l k x)[i]? = some y) : (i < k ∧ l[i]? = some y) ∨ (i = k ∧ y = x) ∨ (k < i ∧ l[i - 1]? = some y) := by
  unfold insertAt at h
  by_cases h1 : i < k
  · rw [List.getElem?_append_left (by rw [List.length_take]; omega), List.getElem?_take, if_pos h1] at h
    exact .inl ⟨h1, h⟩
  · rw [List.getElem?_append_right (by rw [List.length_take]; omega), List.length_take, Nat.min_eq_left hk] at h
    by_cases h2 : i = k
    · subst h2
      rw [Nat.sub_self] at h
      exact .inr (.inl ⟨rfl, by simpa using h.symm⟩)
    · rw [show i - k = (i - k - 1) + 1 by omega, List.getElem?_cons_succ, List.getElem?_drop, show k + (i - k - 1) = i - 1 by omega] at h
      exact .inr (.inr ⟨by omega, h⟩)
theorem insertAt_perm {α : Type} (l : List α) (k : Nat) (x : α) : (insertAt l k x).Perm (x :: l) := by
  unfold insertAt
  refine (List.perm_middle).trans ?_
  rw [List.take_append_drop]
section
variable {α : Type} {E : Rep α} {e : TypeId} {w w' : World} {xs : List α} {v v' : Value} {fp : List Nat}
/-- slices.Insert(out, k, x): what its law asks, and what its answer is worth -/
theorem SlOwn.insert (h : SlOwn E e w xs v fp) {k : Nat} (hk : k ≤ xs.length) {x : α} {cx : List Value} {fx : List Nat} (hx : E.own w x cx fx) (hnd : fp.Nodup) (hxd : fx.Nodup) (hdis : ∀ b, b ∈ fx → b ∉ fp) :
    ∃ l, w.ownsRow 0 e E.size v xs.length l ∧ (∀ u ∈ l, u.oneCell' = true) ∧ ∀ v' w', w'.ownsRow 0 e E.size v' (xs.length + 1) (l.take (k * E.size) ++ cx ++ l.drop (k * E.size)) → w.grownBy w' v.ownBlock → (v'.ownBlock = v.ownBlock ∨ ∀ g, v'.ownBlock = some g → w.heap.size ≤ g) →
      ∃ fp', SlOwn E e w' (insertAt xs k x) v' fp' ∧ fp'.Nodup ∧ ∀ b, b ∈ fp' → b ∈ fp ∨ b ∈ fx ∨ w.heap.size ≤ b := by
  have hlt := h.olt
  have hxlt := E.olt hx
  obtain ⟨es, he, ho, rfl⟩ := h
  refine ⟨_, ho, fun u hu => ?_, fun v' w' ho' hg hat => ?_⟩
  · obtain ⟨y, hy, hu⟩ := List.mem_flatMap.1 hu
    obtain ⟨z, _, hz⟩ := he.mem hy
    exact E.one hz u hu
  have hkeep : ∀ b, b ∈ es.flatMap (·.2) → w'.heap[b]? = w.heap[b]? := fun b hb => hg.block b (hlt b (List.mem_append_right _ hb)) (fun hv => by
    rw [List.nodup_append] at hnd
    exact hnd.2.2 b (by rw [← hv]; simp) b hb rfl)
  have hkx : ∀ b, b ∈ fx → w'.heap[b]? = w.heap[b]? := fun b hb => hg.block b (hxlt b hb) (fun hv => hdis b hb (List.mem_append_left _ (by rw [← hv]; simp)))
  have hke : k ≤ es.length := by rw [he.1]; exact hk
  have hp : ((insertAt es k (cx, fx)).flatMap (·.2)).Perm (fx ++ es.flatMap (·.2)) := by
    have := (insertAt_perm es k (cx, fx)).flatMap_right (fun y => y.2)
    rwa [List.flatMap_cons] at this
  refine ⟨_, ⟨insertAt es k (cx, fx), ⟨by rw [insertAt_len, insertAt_len, he.1], fun i y z hy hz => ?_⟩, ?_, rfl⟩, ?_, ?_⟩
  · rcases insertAt_get hk hy with ⟨h1, h2⟩ | ⟨h1, h2⟩ | ⟨h1, h2⟩
    · rcases insertAt_get hke hz with ⟨g1, g2⟩ | ⟨g1, g2⟩ | ⟨g1, g2⟩
      · exact E.okeep (he.2 i y z h2 g2) fun b hb => hkeep b (List.mem_flatMap.2 ⟨z, List.mem_of_getElem? g2, hb⟩)
      · omega
      · omega
    · rcases insertAt_get hke hz with ⟨g1, g2⟩ | ⟨g1, g2⟩ | ⟨g1, g2⟩
      · omega
      · subst h2; subst g2
        exact E.okeep hx hkx
      · omega
    · rcases insertAt_get hke hz with ⟨g1, g2⟩ | ⟨g1, g2⟩ | ⟨g1, g2⟩
      · omega
      · omega
      · exact E.okeep (he.2 _ y z h2 g2) fun b hb => hkeep b (List.mem_flatMap.2 ⟨z, List.mem_of_getElem? g2, hb⟩)
  · rw [insertAt_len, insertAt_flat (·.1) E.size es k (cx, fx) he.len]
    exact ho'
  · have hvn : ∀ b, b ∈ v'.ownBlock.toList → b ∉ es.flatMap (·.2) ∧ b ∉ fx := fun b hb => by
      rcases hat with hat | hat
      · rw [hat] at hb
        rw [List.nodup_append] at hnd
        exact ⟨fun hm => hnd.2.2 b hb b hm rfl, fun hm => hdis b hm (List.mem_append_left _ hb)⟩
      · have hb' := hat b (by simpa using hb)
        exact ⟨fun hm => by have := hlt _ (List.mem_append_right _ hm); omega, fun hm => by have := hxlt _ hm; omega⟩
    have h1 : v'.ownBlock.toList.Nodup := by cases v'.ownBlock <;> simp
    rw [List.nodup_append] at hnd ⊢
    refine ⟨h1, ?_, fun a ha b hb hab => ?_⟩
    · rw [hp.nodup_iff, List.nodup_append]
      exact ⟨hxd, hnd.2.1, fun a ha b hb hab => by
        subst hab
        exact hdis a ha (List.mem_append_right _ hb)⟩
    · subst hab
      rcases List.mem_append.1 (hp.mem_iff.1 hb) with hb | hb
      · exact (hvn a ha).2 hb
      · exact (hvn a ha).1 hb
  · intro b hb
    rcases List.mem_append.1 hb with hb | hb
    · rcases hat with hat | hat
      · rw [hat] at hb
        exact .inl (List.mem_append_left _ hb)
      · exact .inr (.inr (hat b (by simpa using hb)))
    · rcases List.mem_append.1 (hp.mem_iff.1 hb) with hb | hb
      · exact .inr (.inl hb)
      · exact .inl (List.mem_append_right _ hb)
end
section
variable {F : List Nat} {w0 wr W2 : World} {ts : List Thing} {s : Thing} {i j : Nat} {α : Type} {E : Rep α} {e : TypeId} {xs : List α} {v : Value} {fp : List Nat} {x : α} {cx : List Value}
/-- slices.Insert, the new element a thing of the list -/
theorem SepF.insert (h : SepF F w0 wr ts) (i j : Nat) (hij : i ≠ j) {k : Nat} (hi : ts[i]? = some (tsl E e xs v fp)) (hk : k ≤ xs.length) (hj : ts[j]? = some s) (hb : Below wr.heap.size wr W2) (hx : ∀ W, s.holds W → E.own W x cx s.fp) :
    ∃ l, W2.ownsRow 0 e E.size v xs.length l ∧ (∀ u ∈ l, u.oneCell' = true) ∧ ∀ v' w1, w1.ownsRow 0 e E.size v' (xs.length + 1) (l.take (k * E.size) ++ cx ++ l.drop (k * E.size)) → W2.grownBy w1 v.ownBlock → (v'.ownBlock = v.ownBlock ∨ ∀ g, v'.ownBlock = some g → W2.heap.size ≤ g) →
      ∃ fp', SepF F w0 w1 ((ts.set j tnil).set i (tsl E e (insertAt xs k x) v' fp')) := by
  have h2 := h.step hb
  have ho : SlOwn E e W2 xs v fp := h2.at_ i hi
  have hs := hx _ (h2.at_ j hj)
  obtain ⟨l, k1, k0, k2⟩ := ho.insert hk hs (h2.ndat hi) (h2.ndat hj) (fun b hb hm => h2.apart hi hj hij b hm hb)
  refine ⟨l, k1, k0, fun v' w1 g1 g2 g3 => ?_⟩
  obtain ⟨fp', m1, m2, m3⟩ := k2 v' w1 g1 g2 g3
  refine ⟨fp', h2.upd2 hij hi hj ?_ m1 m2 (fun b hb => ?_)⟩
  · exact ⟨g2.os, g2.tape, g2.output, g2.size, fun k hk hn => g2.block k hk (fun hh => hn (List.mem_append_left _ (row_in ho hh.symm)))⟩
  · rcases m3 b hb with h | h | h
    · exact .inl h
    · exact .inr (.inl h)
    · exact .inr (.inr (by omega))
end
end Mm
end Go.Proofs.Ytkhchfbpmmiopaa

/-
  slices.Delete of one element, on slices whose elements lead nowhere. No program in sight. No conditions.
-/
namespace Go.Proofs.Ytkhchfbpmmiopaa
open Go.RowKit
namespace Mm
/-- elements of several cells that lead nowhere -/
structure FlatN {α : Type} (E : Rep α) (enc : α → List Value) : Prop where
  pos : 0 < E.size
  inv : ∀ {w x cs fx}, E.own w x cs fx → cs = enc x ∧ fx = [] ∧ ∀ w', E.own w' x (enc x) []
theorem flatMap_len {α : Type} {s : Nat} {enc : α → List Value} : ∀ {xs : List α}, (∀ x, x ∈ xs → (enc x).length = s) → (xs.flatMap enc).length = xs.length * s
  | [], _ => by simp
  | a :: t, h => by
    rw [List.flatMap_cons, List.length_append, h a (by simp), flatMap_len (fun x hx => h x (List.mem_cons_of_mem _ hx)), List.length_cons, Nat.succ_mul]; omega
theorem flatMap_drop {α : Type} {s : Nat} {enc : α → List Value} : ∀ {xs : List α} (k : Nat), (∀ x, x ∈ xs → (enc x).length = s) → (xs.drop k).flatMap enc = (xs.flatMap enc).drop (k * s)
  | xs, 0, _ => by simp
  | [], k + 1, _ => by simp
  | a :: t, k + 1, h => by
    rw [List.drop_succ_cons, List.flatMap_cons, flatMap_drop k (fun x hx => h x (List.mem_cons_of_mem _ hx)), List.drop_append, h a (by simp), List.drop_eq_nil_of_le (show (enc a).length ≤ (k + 1) * s by rw [h a (by simp), Nat.succ_mul]; omega), List.nil_append]
    congr 1
    rw [Nat.succ_mul]; omega
theorem flatMap_take {α : Type} {s : Nat} {enc : α → List Value} : ∀ {xs : List α} (k : Nat), (∀ x, x ∈ xs → (enc x).length = s) → (xs.take k).flatMap enc = (xs.flatMap enc).take (k * s)
  | xs, 0, _ => by simp
  | [], k + 1, _ => by simp
  | a :: t, k + 1, h => by
    rw [List.take_succ_cons, List.flatMap_cons, List.flatMap_cons, flatMap_take k (fun x hx => h x (List.mem_cons_of_mem _ hx)), List.take_append, h a (by simp), List.take_of_length_le (show (enc a).length ≤ (k + 1) * s by rw [h a (by simp), Nat.succ_mul]; omega)]
    congr 2
    rw [Nat.succ_mul]; omega
section
variable {α : Type} {E : Rep α} {enc : α → List Value} {e : TypeId} {w w' : World} {xs : List α} {v : Value} {fp : List Nat} {g n c : Nat}
theorem FlatN.owns (hF : FlatN E enc) (h : SlOwn E e w xs v fp) : w.ownsRow 0 e E.size v xs.length (xs.flatMap enc) ∧ fp = v.ownBlock.toList ∧ (∀ x, x ∈ xs → ∀ w', E.own w' x (enc x) []) ∧ ∀ x, x ∈ xs → (enc x).length = E.size := by
  obtain ⟨es, he, ho, rfl⟩ := h
  have h1 : es = xs.map fun x => (enc x, ([] : List Nat)) := by
    apply List.ext_getElem?
    intro i
    rw [List.getElem?_map]
    rcases Nat.lt_or_ge i xs.length with hi | hi
    · have hx := List.getElem?_eq_getElem hi
      have hy := List.getElem?_eq_getElem (show i < es.length by rw [he.1]; exact hi)
      have h2 := hF.inv (he.2 i _ _ hx hy)
      rw [hx, hy]
      exact congrArg some (Prod.ext h2.1 h2.2.1)
    · rw [List.getElem?_eq_none hi, List.getElem?_eq_none (by rw [he.1]; exact hi)]
      rfl
  have h3 : (xs.map fun x => (enc x, ([] : List Nat))).flatMap (·.1) = xs.flatMap enc := by rw [List.flatMap_map]
  have h4 : (xs.map fun x => (enc x, ([] : List Nat))).flatMap (·.2) = [] := by simp [List.flatMap_map]
  have h5 : ∀ x, x ∈ xs → ∀ w', E.own w' x (enc x) [] := fun x hx w' => by
    obtain ⟨i, hi, rfl⟩ := List.mem_iff_getElem.1 hx
    exact (hF.inv (he.2 i _ _ (List.getElem?_eq_getElem hi) (List.getElem?_eq_getElem (show i < es.length by rw [he.1]; exact hi)))).2.2 w'
  refine ⟨?_, by rw [h1, h4]; simp, h5, fun x hx => E.olen (h5 x hx w)⟩
  rw [h1, h3] at ho
  exact ho
theorem FlatN.blk (hF : FlatN E enc) (h : SlOwn E e w xs (.slice (some ⟨g, 0, none⟩) n c) fp) : ∃ cur, Blk w g e cur ∧ cur.length = c * E.size ∧ cur.take (n * E.size) = xs.flatMap enc ∧ n = xs.length ∧ n ≤ c ∧ c ≤ maxLen ∧ fp = [g] := by
  obtain ⟨h1, h2, _⟩ := hF.owns h
  rcases h1.2 with ⟨h3, _⟩ | ⟨g', cap, cur, h3, _, hg, hnc, hcm, hcs, htake⟩
  · simp at h3
  · simp only [Value.slice.injEq, Option.some.injEq, Addr.mk.injEq, and_true] at h3
    obtain ⟨rfl, rfl, rfl⟩ := h3
    refine ⟨cur.toList, by unfold Blk; rw [Array.toArray_toList]; exact hg, by simpa using hcs, by simpa using htake, rfl, hnc, hcm, by rw [h2]; simp [Value.ownBlock]⟩
theorem FlatN.of_blk (_hF : FlatN E enc) {cur : List Value} (h : Blk w g e cur) (hl : cur.length = c * E.size) (ht : cur.take (n * E.size) = xs.flatMap enc) (hn : xs.length = n) (hnc : n ≤ c) (hc : c ≤ maxLen) (hE : ∀ x, x ∈ xs → E.own w x (enc x) []) : SlOwn E e w xs (.slice (some ⟨g, 0, none⟩) n c) [g] := by
  subst hn
  refine SlOwn.of_row (enc := enc) ⟨by simp [flatMap_len fun x hx => E.olen (hE x hx)], .inr ⟨g, c, cur.toArray, rfl, Nat.zero_le _, h, hnc, hc, by simpa using hl, by simpa using ht⟩⟩ hE ?_
  simp
/-- behind slices.Delete of element k: what follows has moved up, the last place is cleared -/
theorem FlatN.erase (hF : FlatN E enc) (h : SlOwn E e w xs (.slice (some ⟨g, 0, none⟩) n c) fp) {k : Nat} (hk : k < n) {z : List Value} (hz : z.length = E.size) {o1 o2 : Nat} (h1 : k * E.size = o1) (h2 : (n - 1) * E.size = o2) :
    Chg fp w ((w.drew.setCells g o1 ((xs.drop (k + 1)).flatMap enc)).setCells g o2 z) ∧ SlOwn E e ((w.drew.setCells g o1 ((xs.drop (k + 1)).flatMap enc)).setCells g o2 z) (xs.eraseIdx k) (.slice (some ⟨g, 0, none⟩) (n - 1) c) fp := by
  subst h1; subst h2
  obtain ⟨_, _, hown, hlen⟩ := hF.owns h
  obtain ⟨cur, hb, hcl, ht, rfl, hnc, hcm, rfl⟩ := hF.blk h
  have hb0 : Blk w.drew g e cur := hb
  have hb2 := setCells_blk z _ ((xs.length - 1) * E.size) _ (setCells_blk ((xs.drop (k + 1)).flatMap enc) _ (k * E.size) _ hb0)
  refine ⟨((Chg.of_below (Below.refl w.heap.size w).drew).trans (setCells_chg g _ _ _)).trans (setCells_chg g _ _ _), ?_⟩
  have hsub : ∀ x, x ∈ xs.eraseIdx k → x ∈ xs := fun x hx => List.mem_of_mem_eraseIdx hx
  have hdl : ((xs.drop (k + 1)).flatMap enc).length = (xs.length - 1 - k) * E.size := by
    rw [flatMap_len (s := E.size) (fun x hx => hlen x (List.mem_of_mem_drop hx)), List.length_drop]; congr 1; omega
  have e1 : k * E.size + (xs.length - 1 - k) * E.size = (xs.length - 1) * E.size := by rw [← Nat.add_mul]; congr 1; omega
  have e2 : (xs.length - 1) * E.size + E.size = xs.length * E.size := by rw [← Nat.succ_mul]; congr 1; omega
  have e3 : xs.length * E.size ≤ cur.length := by rw [hcl]; exact Nat.mul_le_mul_right _ hnc
  have e4 : k * E.size + E.size = (k + 1) * E.size := (Nat.succ_mul _ _).symm
  refine hF.of_blk hb2 (by rw [setList_len, setList_len, hcl]) ?_ (List.length_eraseIdx_of_lt hk) (by omega) hcm (fun x hx => hown x (hsub x hx) _)
  have hE : (xs.eraseIdx k).flatMap enc = (xs.flatMap enc).take (k * E.size) ++ (xs.flatMap enc).drop ((k + 1) * E.size) := by
    rw [List.eraseIdx_eq_take_drop_succ, List.flatMap_append, flatMap_take k hlen, flatMap_drop (k + 1) hlen]
  have hfl : (xs.flatMap enc).length = xs.length * E.size := flatMap_len hlen
  apply List.ext_getElem?
  intro j
  rw [hE, List.getElem?_take]
  by_cases hj : j < (xs.length - 1) * E.size
  · rw [if_pos hj, setList_get _ _ _ _ (by rw [setList_len]; omega), if_neg (by omega), setList_get _ _ _ _ (by rw [hdl]; omega), hdl]
    by_cases hjk : j < k * E.size
    · rw [if_neg (by omega), List.getElem?_append_left (by rw [List.length_take, hfl]; omega), List.getElem?_take, if_pos hjk, ← ht, List.getElem?_take, if_pos (by omega)]
    · rw [if_pos (by omega), List.getElem?_append_right (by rw [List.length_take]; omega), flatMap_drop (k + 1) hlen, List.length_take, hfl, Nat.min_eq_left (by omega)]
  · rw [if_neg hj, List.getElem?_append_right (by rw [List.length_take]; omega), List.getElem?_drop, List.length_take, hfl, Nat.min_eq_left (by omega), List.getElem?_eq_none (by rw [hfl]; omega)]
/-- the cells behind element k -/
theorem FlatN.cells (hF : FlatN E enc) (h : SlOwn E e w xs (.slice (some ⟨g, 0, none⟩) n c) fp) {j : Nat} {u : Value} (hj : (xs.flatMap enc)[j]? = some u) : w.cell? ⟨g, j, none⟩ = some u := by
  obtain ⟨cur, hb, hcl, ht, rfl, hnc, hcm, rfl⟩ := hF.blk h
  refine hb.cell ?_
  rw [← ht, List.getElem?_take] at hj
  split at hj
  · exact hj
  · cases hj
end
theorem run_clear_one {P : Program} (w : World) (t e ty : TypeId) (z : Value) (ht : P.underlying t = some (.slice e)) (hv : ∀ w, (zeroValue e).run P w = .ok z w) (h1 : ∀ u ∈ z.cells, u.oneCell' = true) (b o c : Nat)
    (hc : ∀ j, j < z.cells.size → (w.cell? ⟨b, o + j, none⟩).isSome = true) (hf : ∀ j, j < z.cells.size → w.frozen? ⟨b, o + j, none⟩ = false) :
    (Builtin.clear_ #[t] ty #[.slice (some ⟨b, o, none⟩) 1 c]).run P w = .ok (.tuple #[]) (w.setCells b o z.cells.toList) := by
  have hzc : (Builtin.zeroCells z.cells 1).toList = z.cells.toList := by
    apply List.ext_getElem?
    intro j
    by_cases hj : j < z.cells.size
    · simp [Builtin.zeroCells, hj, Nat.mod_eq_of_lt hj]
    · simp [Builtin.zeroCells, hj]
  have hst := run_storeCells_cells (P := P) b o z.cells.toList 0 w (by simpa using hc) (by simpa using hf) (by intro u hu; exact h1 u (by simpa using hu))
  simp only [Nat.add_zero] at hst
  simp [Builtin.clear_, run_underlying ht, hv, hzc, hst]
end Mm
end Go.Proofs.Ytkhchfbpmmiopaa

/-
  'append([]T{}, l...)' inside a larger statement: the copy becomes one of the things that the call owns. No program in sight. No conditions.
-/
namespace Go.Proofs.Ytkhchfbpmmiopaa
open Go.RowKit
namespace Mm
/-- elements that lead nowhere: what they are written as -/
structure Flat {α : Type} (E : Rep α) (enc : α → List Value) : Prop where
  at_ : ∀ {w B x cs}, E.at_ w B x cs → cs = enc x
  own : ∀ {w B x cs}, E.at_ w B x cs → ∀ w', E.own w' x (enc x) []
theorem flat_int : Flat int (fun x => [.int .i64 x]) := ⟨fun h => h.1, fun h _ => ⟨rfl, h.2, rfl⟩⟩
theorem flat_str : Flat str (fun x => [.string x]) := ⟨fun h => h.1, fun h _ => ⟨rfl, h.2, rfl⟩⟩
theorem flat_bool : Flat bool (fun x => [.bool x]) := ⟨fun h => h.1, fun h _ => ⟨rfl, h.2, rfl⟩⟩
section
variable {P : Program} {α : Type} {E : Rep α} {enc : α → List Value} {w0 wr W : World} {ts : List Thing} {xs : List α} {A : Option Addr} {n c g B : Nat} {e : TypeId}
theorem run_clone (hF : Flat E enc) (t ty : TypeId) (i : TypeInfo) (z : Value) (bytes : Nat) (ht : P.underlying t = some (.slice e)) (hi : P.info? e = some i) (hz : i.zero = some z) (hsize : i.size = E.size) (hby : i.bytes = bytes) (hzs : z.cells.size = E.size) (hsz : 0 < E.size)
    (h : Sep w0 wr ts) (hb : Below wr.heap.size wr W) (hg : W.heap[g]? = some (.cells #[] e (0, 0))) (hgn : wr.heap.size ≤ g) (hl : SlAt E W B xs A n c) (hn : n ≤ maxLen) (hbytes : n * bytes ≤ 140737488355328) :
    ∃ A2 c2 fp w1, (Builtin.append_ #[t, t] ty #[.slice (some ⟨g, 0, none⟩) 0 0, .slice A n c]).run P W = .ok (.slice A2 n c2) w1 ∧ Sep w0 w1 (tsl E e xs (.slice A2 n c2) fp :: ts) ∧ Below wr.heap.size wr w1 := by
  have hown : W.ownsRow g e E.size (.slice (some ⟨g, 0, none⟩) 0 0) 0 [] := ⟨by simp, .inr ⟨g, 0, #[], rfl, Nat.le_refl _, hg, Nat.le_refl _, Nat.zero_le _, by simp, by simp⟩⟩
  have hlt : g < W.heap.size := by
    rcases Nat.lt_or_ge g W.heap.size with h1 | h1
    · exact h1
    · rw [Array.getElem?_eq_none h1] at hg; cases hg
  have hE : ∀ w1 x, x ∈ xs → E.own w1 x (enc x) [] := fun w1 x hx => by
    obtain ⟨k, hk, rfl⟩ := List.mem_iff_getElem.1 hx
    obtain ⟨y, b, off, cs, hy, _, _, ha, _⟩ := hl.get (k := k) (by rw [← hl.1]; exact hk)
    rw [List.getElem?_eq_getElem hk] at hy
    injection hy with hy
    subst hy
    exact hF.own ha w1
  have main : ∀ v w1, w1.ownsRow g e E.size v n (xs.flatMap enc) → W.grownBy w1 (some g) → ∃ A2 c2 fp, v = .slice A2 n c2 ∧ Sep w0 w1 (tsl E e xs (.slice A2 n c2) fp :: ts) ∧ Below wr.heap.size wr w1 := fun v w1 k1 k2 => by
    have h0 : w1.ownsRow 0 e E.size v n (xs.flatMap enc) := ⟨k1.1, k1.2.imp id fun ⟨g', cap, cur, h1, _, h3⟩ => ⟨g', cap, cur, h1, Nat.zero_le _, h3⟩⟩
    have hs := SlOwn.of_row h0 (fun x hx => hE w1 x hx) hl.1
    obtain ⟨A2, n2, c2, hv, hn2, _⟩ := hs.form
    have hbl : Below wr.heap.size wr w1 := hb.grown k2 (by have := hb.size; omega) (fun k hk => by injection hk with hk; omega)
    subst hv
    have hn3 : n2 = n := hn2.trans hl.1
    subst hn3
    exact ⟨A2, c2, _, rfl, h.add hbl (t := tsl E e xs (.slice A2 n2 c2) _) hs (by simp only [tsl]; cases (Value.slice A2 n2 c2).ownBlock <;> simp) (fun b hb => by
      simp only [tsl, Option.mem_toList] at hb
      have := (k1.lt b hb).1; omega), hbl⟩
  cases A with
  | none =>
    have hc0 : c = 0 := hl.2.2.2.1 rfl
    have hn0 : n = 0 := by have := hl.2.1; omega
    subst hc0; subst hn0
    have hx0 : xs = [] := List.length_eq_zero_iff.1 hl.1
    have hr := run_append_owned_none (P := P) W g t ty e i E.size ht hi _ _ _ hown
    obtain ⟨A2, c2, fp, hv, hS, hB⟩ := main _ W (by rw [hx0]; exact hown) ⟨rfl, rfl, rfl, Nat.le_refl _, fun _ _ _ => rfl⟩
    exact ⟨A2, c2, fp, W, by rw [hr, hv], hS, hB⟩
  | some a =>
    obtain ⟨v', w1, hr, h2, h3, _, h5⟩ := run_append_own_at (P := P) W g t ty e i z E.size bytes ht hi hz hsize hby hzs hsz _ 0 [] hown a n c (xs.flatMap enc) (flat_len (fun x cs h => hF.at_ h) hl) (flat_cells' (fun x cs h => hF.at_ h) hl) (fun u hu => by
      obtain ⟨x, hx, hu⟩ := List.mem_flatMap.1 hu
      exact E.one (hE W x hx) u hu) (by omega) (by rw [Nat.zero_add]; exact hbytes) (by omega)
    rw [Nat.zero_add, List.nil_append] at h2
    obtain ⟨A2, c2, fp, hv, hS, hB⟩ := main v' w1 h2 h3
    exact ⟨A2, c2, fp, w1, by rw [hr, hv], hS, hB⟩

theorem wp_clone {o : Oper} {a : Act} {K : Act → World → Prop} {Q : Exit → Act → World → Prop} (s x : Operand) (t : TypeId)
    (ho : o.op = .call { callee := .builtin .append, args := #[s, x], argTypes := #[t, t] })
    (hF : Flat E enc) (i : TypeInfo) (z : Value) (bytes : Nat) (ht : P.underlying t = some (.slice e)) (hi : P.info? e = some i) (hz : i.zero = some z) (hsize : i.size = E.size) (hby : i.bytes = bytes) (hzs : z.cells.size = E.size) (hsz : 0 < E.size)
    (h : Sep w0 wr ts) (hb : Below wr.heap.size wr W) (hg : W.heap[g]? = some (.cells #[] e (0, 0))) (hgn : wr.heap.size ≤ g) (hl : SlAt E W B xs A n c) (hn : n ≤ maxLen) (hbytes : n * bytes ≤ 140737488355328)
    (hs : a.eval s = .slice (some ⟨g, 0, none⟩) 0 0) (hx : a.eval x = .slice A n c)
    (hk : ∀ A2 c2 fp w1, Sep w0 w1 (tsl E e xs (.slice A2 n c2) fp :: ts) → Below wr.heap.size wr w1 → K (a.put o.dst (.slice A2 n c2)) w1) : o.wp P a W K Q := by
  obtain ⟨A2, c2, fp, w1, hr, h2, h3⟩ := run_clone (P := P) hF t o.type i z bytes ht hi hz hsize hby hzs hsz h hb hg hgn hl hn hbytes
  unfold Oper.wp execOp
  simp only [ho, resolve, invoke, builtin, Sem.run_bind, Sem.run_pure, Result.andThen_ok, List.map_toArray, List.map_cons, List.map_nil, hs, hx, hr]
  exact hk A2 c2 fp w1 h2 h3
theorem step_clone {ops : Array Oper} {o : Oper} {a : Act} {K : Act → World → Prop} {Q : Exit → Act → World → Prop} {X : Prop} (hgd : o.guard = none) (s x : Operand) (t : TypeId)
    (ho : o.op = .call { callee := .builtin .append, args := #[s, x], argTypes := #[t, t] })
    (hF : Flat E enc) (i : TypeInfo) (z : Value) (bytes : Nat) (ht : P.underlying t = some (.slice e)) (hi : P.info? e = some i) (hz : i.zero = some z) (hsize : i.size = E.size) (hby : i.bytes = bytes) (hzs : z.cells.size = E.size) (hsz : 0 < E.size)
    (h : Sep w0 wr ts) (hb : Below wr.heap.size wr W) (hg : W.heap[g]? = some (.cells #[] e (0, 0))) (hgn : wr.heap.size ≤ g) (hl : SlAt E W B xs A n c) (hn : n ≤ maxLen) (hbytes : n * bytes ≤ 140737488355328)
    (hs : a.eval s = .slice (some ⟨g, 0, none⟩) 0 0) (hx : a.eval x = .slice A n c)
    (hk : ∀ A2 c2 fp w1, Sep w0 w1 (tsl E e xs (.slice A2 n c2) fp :: ts) → Below wr.heap.size wr w1 → K (a.put o.dst (.slice A2 n c2)) w1) :
    if Region.wanted o (yielded ops a.tmps) = true then Oper.wp P o a W K Q else X := by
  have hw : Region.wanted o (yielded ops a.tmps) = true := by simp [Region.wanted, hgd]
  rw [if_pos hw]
  exact wp_clone s x t ho hF i z bytes ht hi hz hsize hby hzs hsz h hb hg hgn hl hn hbytes hs hx hk
theorem wpList_clone {ops : Array Oper} {rest : List Oper} {o : Oper} {a : Act} {Q : Exit → Act → World → Prop} (hgd : o.guard = none) (s x : Operand) (t : TypeId)
    (ho : o.op = .call { callee := .builtin .append, args := #[s, x], argTypes := #[t, t] })
    (hF : Flat E enc) (i : TypeInfo) (z : Value) (bytes : Nat) (ht : P.underlying t = some (.slice e)) (hi : P.info? e = some i) (hz : i.zero = some z) (hsize : i.size = E.size) (hby : i.bytes = bytes) (hzs : z.cells.size = E.size) (hsz : 0 < E.size)
    (h : Sep w0 wr ts) (hb : Below wr.heap.size wr W) (hg : W.heap[g]? = some (.cells #[] e (0, 0))) (hgn : wr.heap.size ≤ g) (hl : SlAt E W B xs A n c) (hn : n ≤ maxLen) (hbytes : n * bytes ≤ 140737488355328)
    (hs : a.eval s = .slice (some ⟨g, 0, none⟩) 0 0) (hx : a.eval x = .slice A n c)
    (hk : ∀ A2 c2 fp w1, Sep w0 w1 (tsl E e xs (.slice A2 n c2) fp :: ts) → Below wr.heap.size wr w1 → wpList P ops Q rest (a.put o.dst (.slice A2 n c2)) w1) : wpList P ops Q (o :: rest) a W :=
  wpList_plain hgd fun _ hK => wp_clone s x t ho hF i z bytes ht hi hz hsize hby hzs hsz h hb hg hgn hl hn hbytes hs hx (fun A2 c2 fp w1 h1 h2 => hK _ _ (hk A2 c2 fp w1 h1 h2))
end
end Mm
end Go.Proofs.Ytkhchfbpmmiopaa

/-
  append of a whole slice of flat elements to a slice that the call owns; slices cut from the right and from the left. No program in sight. No conditions.
-/
namespace Go.Proofs.Ytkhchfbpmmiopaa
open Go.RowKit
namespace Mm
section
variable {P : Program} {α : Type} {E : Rep α} {enc : α → List Value} {F : List Nat} {w0 wr : World} {ts : List Thing} {xs ys : List α} {A : Option Addr} {n c B : Nat} {e : TypeId} {v : Value} {fp : List Nat}
theorem SepF.appMany (hF : Flat E enc) (hN : FlatN E enc) (t ty : TypeId) (i : TypeInfo) (z : Value) (bytes : Nat) (ht : P.underlying t = some (.slice e)) (hi : P.info? e = some i) (hz : i.zero = some z) (hsize : i.size = E.size) (hby : i.bytes = bytes) (hzs : z.cells.size = E.size)
    (h : SepF F w0 wr ts) (k : Nat) (hk : ts[k]? = some (tsl E e ys v fp)) (hl : SlAt E wr B xs A n c) (hn : ys.length + n ≤ maxLen) (hbytes : (ys.length + n) * bytes ≤ 140737488355328) :
    ∃ A2 c2 fp' w1, (Builtin.append_ #[t, t] ty #[v, .slice A n c]).run P wr = .ok (.slice A2 (ys.length + n) c2) w1 ∧ SepF F w0 w1 (ts.set k (tsl E e (ys ++ xs) (.slice A2 (ys.length + n) c2) fp')) := by
  have hs : SlOwn E e wr ys v fp := h.at_ k hk
  obtain ⟨hown, hfp, hys, hlen⟩ := hN.owns hs
  have hE : ∀ w1 x, x ∈ xs → E.own w1 x (enc x) [] := fun w1 x hx => by
    obtain ⟨k, hk, rfl⟩ := List.mem_iff_getElem.1 hx
    obtain ⟨y, b, off, cs, hy, _, _, ha, _⟩ := hl.get (k := k) (by rw [← hl.1]; exact hk)
    rw [List.getElem?_eq_getElem hk] at hy
    injection hy with hy
    subst hy
    exact hF.own ha w1
  have main : ∀ v' w1, w1.ownsRow 0 e E.size v' (ys.length + n) (ys.flatMap enc ++ xs.flatMap enc) → wr.grownBy w1 v.ownBlock → (v'.ownBlock = v.ownBlock ∨ v'.ownBlock = some wr.heap.size) → ∃ A2 c2 fp', v' = .slice A2 (ys.length + n) c2 ∧ SepF F w0 w1 (ts.set k (tsl E e (ys ++ xs) (.slice A2 (ys.length + n) c2) fp')) := fun v' w1 k1 k2 k3 => by
    rw [← List.flatMap_append] at k1
    have hs1 : SlOwn E e w1 (ys ++ xs) v' v'.ownBlock.toList := SlOwn.of_row (enc := enc) (by rw [List.length_append, hl.1]; exact k1) (fun x hx => by
      rcases List.mem_append.1 hx with hx | hx
      · exact hys x hx w1
      · exact hE w1 x hx) rfl
    obtain ⟨A2, n2, c2, hv, hn2, _⟩ := hs1.form
    subst hv
    rw [List.length_append, hl.1] at hn2
    subst hn2
    refine ⟨A2, c2, _, rfl, h.upd hk (Chg.mk k2.os k2.tape k2.output k2.size fun b hb hn => k2.block b hb (fun hh => hn (row_in hs hh.symm))) (t' := tsl E e (ys ++ xs) (.slice A2 (ys.length + n) c2) _) hs1 (by simp only [tsl]; cases (Value.slice A2 (ys.length + n) c2).ownBlock <;> simp) (fun b hb => ?_)⟩
    simp only [tsl, Option.mem_toList] at hb
    rcases k3 with h3 | h3
    · rw [h3] at hb; exact .inl (row_in hs (by rw [Option.mem_def.1 hb]))
    · rw [h3] at hb; injection hb with hb; exact .inr (by omega)
  cases A with
  | none =>
    have hc0 : c = 0 := hl.2.2.2.1 rfl
    have hn0 : n = 0 := by have := hl.2.1; omega
    subst hc0; subst hn0
    have hx0 : xs = [] := List.length_eq_zero_iff.1 hl.1
    have hr := run_append_owned_none (P := P) wr 0 t ty e i E.size ht hi _ _ _ hown
    obtain ⟨A2, c2, fp', hv, hS⟩ := main _ wr (by rw [hx0]; simpa using hown) ⟨rfl, rfl, rfl, Nat.le_refl _, fun _ _ _ => rfl⟩ (.inl rfl)
    exact ⟨A2, c2, fp', wr, by rw [hr, hv], hS⟩
  | some a =>
    obtain ⟨v', w1, hr, h2, h3, _, h5⟩ := run_append_own_at (P := P) wr 0 t ty e i z E.size bytes ht hi hz hsize hby hzs hN.pos _ _ _ hown a n c (xs.flatMap enc) (flat_len (fun x cs h => hF.at_ h) hl) (flat_cells' (fun x cs h => hF.at_ h) hl) (fun u hu => by
      obtain ⟨x, hx, hu⟩ := List.mem_flatMap.1 hu
      exact E.one (hE wr x hx) u hu) hn hbytes (Nat.zero_le _)
    obtain ⟨A2, c2, fp', hv, hS⟩ := main v' w1 h2 h3 h5
    exact ⟨A2, c2, fp', w1, by rw [hr, hv], hS⟩
theorem wpList_appMany {ops : Array Oper} {rest : List Oper} {o : Oper} {a : Act} {Q : Exit → Act → World → Prop} {m : Nat} (hgd : o.guard = none) (s x : Operand) (t : TypeId)
    (ho : o.op = .call { callee := .builtin .append, args := #[s, x], argTypes := #[t, t] })
    (hF : Flat E enc) (hN : FlatN E enc) (i : TypeInfo) (z : Value) (bytes : Nat) (ht : P.underlying t = some (.slice e)) (hi : P.info? e = some i) (hz : i.zero = some z) (hsize : i.size = E.size) (hby : i.bytes = bytes) (hzs : z.cells.size = E.size)
    (h : SepF F w0 wr ts) (k : Nat) (hk : ts[k]? = some (tsl E e ys v fp)) (hl : SlAt E wr B xs A n c) (hm : ys.length + n = m) (hn : m ≤ maxLen) (hbytes : m * bytes ≤ 140737488355328) (hs : a.eval s = v) (hx : a.eval x = .slice A n c)
    (hnext : ∀ A2 c2 fp' w1, SepF F w0 w1 (ts.set k (tsl E e (ys ++ xs) (.slice A2 m c2) fp')) → wpList P ops Q rest (a.put o.dst (.slice A2 m c2)) w1) : wpList P ops Q (o :: rest) a wr := by
  subst hm
  refine wpList_plain hgd fun K hK => ?_
  obtain ⟨A2, c2, fp', w1, hr, h2⟩ := h.appMany (P := P) hF hN t o.type i z bytes ht hi hz hsize hby hzs k hk hl hn hbytes
  unfold Oper.wp execOp
  simp only [ho, resolve, invoke, builtin, Sem.run_bind, Sem.run_pure, Result.andThen_ok, List.map_toArray, List.map_cons, List.map_nil, hs, hx, hr]
  exact hK _ _ (hnext A2 c2 fp' w1 h2)
/-- a slice that is owned, read -/
theorem SepF.rdSl (h : SepF F w0 wr ts) (k : Nat) (hk : ts[k]? = some (tsl E e ys (.slice A n c) fp)) : SlAt E wr wr.heap.size ys A n c := (h.sl k hk).weak fun b hb => (h.sl k hk).olt b hb
/-- cut from the left, as Go lays it -/
theorem SlAt.cut {w : World} {g j : Nat} (h : SlAt E w B xs (some ⟨g, 0, none⟩) n c) (hj : j ≤ n) {s : Nat} (hs : E.size = s) : ∃ A', (if c = j then (some ⟨g, 0, none⟩ : Option Addr) else some ⟨g, j * s, none⟩) = A' ∧ SlAt E w B (xs.drop j) A' (n - j) (c - j) := by
  subst hs
  by_cases hc : c = j
  · rw [if_pos hc]
    have hn : n = j := by have := h.2.1; omega
    subst hn
    have hx : xs.drop n = [] := List.drop_eq_nil_of_le (by rw [h.1]; exact Nat.le_refl _)
    rw [hx, Nat.sub_self]
    exact ⟨_, rfl, SlAt.nil (by have := h.2.2.1; omega) (fun hh => by cases hh)⟩
  · rw [if_neg hc]
    have := h.drop hj
    rw [Nat.zero_add] at this
    exact ⟨_, rfl, this⟩
/-- 's[j:]', the bound an int, as one equation -/
theorem run_cut {P : Program} {t : TypeId} {s : Nat} (ht : P.underlying t = some (.slice (P.elem t))) (hs : ∀ W, (sizeOf (P.elem t)).run P W = .ok s W) {g n c : Nat} {j : Nat} {i : Int} (hi : i = j) (hj : j ≤ n) (W : World) :
    (Instr.slice t (.slice (some ⟨g, 0, none⟩) n c) (some (.int .i64 i)) none none).run P W = .ok (.slice (if c = j then (some ⟨g, 0, none⟩ : Option Addr) else some ⟨g, j * s, none⟩) (n - j) (c - j)) W := by
  subst hi
  rw [run_slice_l W t _ n c ht .i64 (j : Int) (by omega) (by omega), hs]
  simp only [Result.andThen_ok, sliced, Int.toNat_natCast]
  congr 1
  by_cases h : c = j
  · simp [h]
  · simp only [h, if_false, Option.map_some, Addr.add]
    by_cases h0 : j * s = 0
    · simp [h0]
    · simp [h0]
/-- an empty slice, just laid -/
theorem SepF.fresh {g : Nat} (h : SepF F w0 wr ts) (hg : wr.heap.size = g) (E : Rep α) (e : TypeId) : SepF F w0 (wr.alloc (.cells #[] e)) (tsl E e [] (.slice (some ⟨g, 0, none⟩) 0 0) [g] :: ts) := by
  have h1 := h.alloc' hg e []
  refine h1.conv (by simp [tblk, tsl]) (List.forall_mem_cons.2 ⟨?_, fun u hu => h1.hold u (List.mem_cons_of_mem _ hu)⟩)
  have hb : Blk (wr.alloc (.cells #[] e)) g e [] := h1.at_ 0 rfl
  exact ⟨[], ⟨rfl, fun i x y h => by simp at h⟩, ⟨by simp, .inr ⟨g, 0, #[], rfl, Nat.zero_le _, hb, Nat.le_refl _, Nat.zero_le _, by simp, by simp⟩⟩, by simp [Value.ownBlock]⟩
end
end Mm
end Go.Proofs.Ytkhchfbpmmiopaa

/-
  'append([]T{}, l...)' inside a region that draws its order and gives; an empty slice just laid; the two ways of telling what a call owns. No program in sight. No conditions.
-/
namespace Go.Proofs.Ytkhchfbpmmiopaa
open Go.RowKit
namespace Mm
theorem Sep.toF {w0 wr : World} {ts : List Thing} (h : Sep w0 wr ts) : SepF [] w0 wr ts := ⟨Chg.of_below h.bel, h.nd, fun b hb => .inr (h.new b hb), h.hold⟩
theorem SepF.toSep {w0 wr : World} {ts : List Thing} (h : SepF [] w0 wr ts) : Sep w0 wr ts := ⟨h.bel0, h.nd, fun b hb => (h.new b hb).resolve_left (fun h => by cases h), h.hold⟩
section
variable {P : Program} {F : List Nat} {w X : World} {ops : Array Oper} {o : Oper} {a a' : Act} {others tk : List Thing} {vals : List Value} {α : Type} {E : Rep α} {enc : α → List Value} {e : TypeId} {xs : List α} {v : Value} {fp : List Nat} {A : Option Addr} {n c B : Nat}
theorem clone_gvq (hgd : o.guard = none) (s y : Operand) (t : TypeId) (ho : o.op = .call { callee := .builtin .append, args := #[s, y], argTypes := #[t, t] }) (d : Nat) (hd : o.dst = some d) (hs : Nat.blt d a.tmps.size = true)
    (hF : Flat E enc) (hN : FlatN E enc) (i : TypeInfo) (z : Value) (bytes : Nat) (ht : P.underlying t = some (.slice e)) (hi : P.info? e = some i) (hz : i.zero = some z) (hsize : i.size = E.size) (hby : i.bytes = bytes) (hzs : z.cells.size = E.size)
    (hsv : a.eval s = v) (hyv : a.eval y = .slice A n c) (hl : SlAt E X B xs A n c) (hn : n ≤ maxLen) (hbytes : n * bytes ≤ 140737488355328)
    (hS : SepF F w X ([tsl E e [] v fp] ++ others)) : wpList P ops (GvQ F w (gSl E e xs vals tk) d a.defers others) [o] a X := by
  refine wpList_appMany hgd s y t ho hF hN i z bytes ht hi hz hsize hby hzs hS 0 rfl hl (m := n) (by simp) hn hbytes hsv hyv ?_
  intro A2 c2 fp' w1 h1
  have e1 : ((a.put o.dst (.slice A2 n c2)).tmps.getD d undef) = .slice A2 n c2 := by
    rw [hd]; exact put_get (by simpa [Nat.blt_eq] using hs) _
  unfold wpList
  exact ⟨rfl, by rw [hd]; rfl, _, ⟨A2, n, c2, fp', e1, rfl, hl.1.symm⟩, h1⟩
theorem gvq_fresh {g d : Nat} {df : List Deferred} (h : SepF F w X others) (hg : X.heap.size = g) (hv : a'.tmps.getD d undef = .slice (some ⟨g, 0, none⟩) 0 0) (hdf : a'.defers = df) : GvQ F w (gSl E e [] vals tk) d df others .normal a' (X.alloc (.cells #[] e)) :=
  ⟨rfl, hdf, _, ⟨_, _, _, _, hv, rfl, rfl⟩, h.fresh hg E e⟩
end
end Mm
end Go.Proofs.Ytkhchfbpmmiopaa

/-
  Contracts: slices.Insert with one element, at ints; slices.Delete likewise. No conditions beyond those named.
-/
namespace Go.Proofs.Ytkhchfbpmmiopaa
open Go.RowKit
theorem Mm.Chg.grown {g : Nat} {w w' : World} (h : Mm.Chg [g] w w') : w.grownBy w' (some g) := ⟨h.os, h.tape, h.output, h.size, fun k hk hn => h.block k hk (fun hm => hn (by rw [List.mem_singleton.1 hm]))⟩
theorem Mm.Chg.grown0 {row : Option Nat} {w w' : World} (h : Below w.heap.size w w') : w.grownBy w' row := ⟨h.os, h.tape, h.output, h.size, fun k hk _ => h.block k hk⟩
theorem Mm.zeroCells_len (z : Array Value) (m : Nat) : (Builtin.zeroCells z m).size = m * z.size := by simp [Builtin.zeroCells]
theorem Try.infoInt1 : (Try.prog.info? 3).map (fun i => (i.zero, i.size, i.bytes)) = some (some (.int .i64 0), 1, 8) := by kernel_rfl
set_option maxRecDepth 100000 in
set_option maxHeartbeats 4000000 in
theorem insInt_c (cells ct : List Value) (n k vb : Nat) (A : Option Addr) (c : Nat) (w : World) (ho : w.ownsRow 0 3 1 (.slice A n c) n cells) (hk : k ≤ n) (hn : n ≤ 1000) (hct : ct.length = 1) (hvs : ∀ j u, ct[j]? = some u → w.cell? ⟨vb, j, none⟩ = some u) (h1 : ∀ u ∈ ct, u.oneCell' = true) (h1c : ∀ u ∈ cells, u.oneCell' = true)
    (hvb : ∀ g, A = some ⟨g, 0, none⟩ → vb ≠ g) (hsh : w.shape? vb = some (3, 1)) (hfz : ∀ j, w.frozen? ⟨vb, j, none⟩ = false) (hvw : vb < w.heap.size) :
    Calls Try.prog 99 #[.slice A n c, .int .i64 k, .slice (some ⟨vb, 0, none⟩) 1 1] w fun e w' => ∃ A' n' c', e = .returned (.slice A' n' c') ∧ w'.ownsRow 0 3 1 (.slice A' n' c') (n + 1) (cells.take (k) ++ (ct ++ cells.drop (k))) ∧ w.grownBy w' (Value.slice A n c).ownBlock ∧ ((Value.slice A' n' c').ownBlock = (Value.slice A n c).ownBlock ∨ (Value.slice A' n' c').ownBlock = some w.heap.size) := by
  obtain ⟨i0, hi, hz0, hzs, hzb⟩ := info_parts Try.infoInt1
  have hcl := ho.1
  rw [Nat.mul_one] at hcl
  by_cases hkn : k = n
  · subst hkn
    have e0 : cells.take (k) ++ (ct ++ cells.drop (k)) = cells ++ ct := by rw [List.take_of_length_le (by omega), List.drop_of_length_le (by omega), List.append_nil]
    have E0 := Lib.hid e0
    clear e0 hcl
    have HO := Lib.hid ho
    rcases ho.2 with ⟨hv, hn0⟩ | ⟨g, cap, cur, hv, _, hg, hnc, hcm, hcs, htake⟩
    · injection hv with e1 e2 e3
      subst e1 e3
      subst hn0
      clear ho
      go_enter Try.func99, Try.ntmps99
      go_wp2_with (at_builtin; refine wpList_append_lies _ (by rfl) _ _ _ (by rfl) 0 3 i0 _ 1 8 Try.underlying23 hi hz0 hzs hzb rfl (by omega) _ 0 cells (by rfl) HO.out ⟨vb, 0, none⟩ 1 1 ct (by rfl) (by omega) (fun j u hj => by rw [Mm.add0]; exact hvs j u hj) h1 (by omega) (by unfold maxLen; omega) (by omega) (Nat.zero_le _) _ rfl ?_; intro gg cap w3 hown hgrow hat hlt)
      go_ret
      exact ⟨_, _, _, rfl, E0.out ▸ hown, hgrow, hat.elim (fun h => .inl (by rw [h]; rfl)) (fun h => .inr (by rw [h]; rfl))⟩
    · injection hv with e1 e2 e3
      subst e1 e3
      clear ho
      unfold maxLen at hcm
      by_cases hcn : c = k
      · subst hcn
        go_enter Try.func99, Try.ntmps99
        go_wp2_with (at_builtin; refine wpList_append_lies _ (by rfl) _ _ _ (by rfl) 0 3 i0 _ 1 8 Try.underlying23 hi hz0 hzs hzb rfl (by omega) _ c cells (by rfl) HO.out ⟨vb, 0, none⟩ 1 1 ct (by rfl) (by omega) (fun j u hj => by rw [Mm.add0]; exact hvs j u hj) h1 (by omega) (by unfold maxLen; omega) (by omega) (Nat.zero_le _) _ rfl ?_; intro gg cap w3 hown hgrow hat hlt)
        go_ret
        exact ⟨_, _, _, rfl, E0.out ▸ hown, hgrow, hat.elim (fun h => .inl (by rw [h]; rfl)) (fun h => .inr (by rw [h]; rfl))⟩
      · go_enter Try.func99, Try.ntmps99
        go_wp2_with (at_builtin; refine wpList_append_lies _ (by rfl) _ _ _ (by rfl) 0 3 i0 _ 1 8 Try.underlying23 hi hz0 hzs hzb rfl (by omega) _ k cells (by rfl) HO.out ⟨vb, 0, none⟩ 1 1 ct (by rfl) (by omega) (fun j u hj => by rw [Mm.add0]; exact hvs j u hj) h1 (by omega) (by unfold maxLen; omega) (by omega) (Nat.zero_le _) _ rfl ?_; intro gg cap w3 hown hgrow hat hlt)
        go_ret
        exact ⟨_, _, _, rfl, E0.out ▸ hown, hgrow, hat.elim (fun h => .inl (by rw [h]; rfl)) (fun h => .inr (by rw [h]; rfl))⟩
  · have hkl : k < n := by omega
    rcases ho.2 with ⟨hv, hn0⟩ | ⟨g, cap, cur, hv, _, hg, hnc, hcm, hcs, htake⟩
    · omega
    injection hv with e1 e2 e3
    subst e1 e3
    rw [Nat.mul_one] at htake
    have hBg : Mm.Blk w g 3 cur.toList := by unfold Mm.Blk; rw [Array.toArray_toList]; exact hg
    have hcsl : cur.toList.length = c := by simpa using hcs
    have hne := hvb g rfl
    have hcc : ∀ j u, cells[j]? = some u → w.cell? ⟨g, j, none⟩ = some u := fun j u hj => hBg.cell (by
      have : (cur.toList.take (n))[j]? = some u := by rw [htake]; exact hj
      rw [List.getElem?_take] at this
      split at this
      · exact this
      · cases this)
    have hsp : ∀ j, j < c → (w.cell? ⟨g, j, none⟩).isSome = true := fun j hj => by
      rw [hBg.cell (List.getElem?_eq_getElem (by rw [hcsl]; exact hj))]; rfl
    have hfz2 : ∀ j, w.frozen? ⟨g, j, none⟩ = false := fun j => hBg.frozen _
    have hdl : (cells.drop (k)).length = (n - k) := by rw [List.length_drop, hcl]
    unfold maxLen at hcm
    have hw1 : IntKind.i64.wrap ((k : Int) + 1) = (k : Int) + 1 := IntWalk.i64_in _ (by omega)
    have hw2 : IntKind.i64.wrap ((n : Int) + 1) = (n : Int) + 1 := IntWalk.i64_in _ (by omega)
    have hz2 : ¬ ((k : Int) = (n : Int)) := by omega
    have hb1 : (0 : Int) ≤ (k : Int) + 1 := by omega
    have hb5 : ((k : Int) + 1).toNat = k + 1 := by omega
    have hb6 : ((n : Int) + 1).toNat = n + 1 := by omega
    by_cases hroom : n + 1 ≤ c
    · have hb2 : ¬ (c = k + 1) := by omega
      have hb4 : ¬ (c = k) := by omega
      have hb3 : (k : Int) ≤ (n : Int) + 1 := by omega
      have hov : ∀ o lb cb, (callFunc 106 #[.slice (some ⟨vb, 0, none⟩) 1 1, .slice (some ⟨g, o, none⟩) lb cb]).run Try.prog w = .ok (.value (.bool false)) w := fun o lb cb => by
        rw [run_callFunc_extern Try.func106 (by kernel_rfl) (by kernel_rfl) (by kernel_rfl) (e := Extern.SlicesOverlaps.overlaps #[23, 23] #[4]) (by kernel_rfl),
          Lib.run_overlaps_apart w 23 4 3 Try.underlying23 1 Try.sizeOf3 ⟨vb, 0, none⟩ ⟨g, o, none⟩ 1 1 lb cb hne _ _ _ _ hsh (Mm.shape_blk hBg) (by omega) (hfz _) (hfz _)]
        rfl
      have HBG := Lib.hid hBg
      clear ho hg hBg
      go_enter Try.func99, Try.ntmps99
      go_wp2_with (simp only [hov])
      have hsz : (Try.prog.info? 3).map (·.size) = some 1 := by rw [hi]; exact congrArg some hzs
      have hmin : Nat.min (n + 1 - k) (n - k) = n - k := by simp only [Nat.min_def]; split <;> omega
      have hmin2 : Nat.min 1 (n + 1 - k) = 1 := by simp only [Nat.min_def]; split <;> omega
      have hcp1 : ∀ ty dc sc, (Builtin.copy_ #[23, 23] ty #[.slice (some ⟨g, (k + 1), none⟩) (n - k) dc, .slice (some ⟨g, k, none⟩) (n + 1 - k) sc]).run Try.prog w.drew = .ok (goInt (Nat.min (n + 1 - k) (n - k))) (w.drew.setCells g ((k + 1)) (cells.drop (k))) := fun ty dc sc =>
        Mm.run_copy_k w.drew _ _ ty 3 1 g ((k + 1)) (n - k) dc ⟨g, k, none⟩ (n + 1 - k) sc (cells.drop (k)) Try.underlying23 hsz (by rw [hdl, hmin, Nat.mul_one])
          (fun j v hj => by rw [Addr.add_lit]; exact hcc _ v (by rwa [List.getElem?_drop] at hj))
          (fun j hj => hsp _ (by rw [hdl] at hj; omega)) (fun j hj => hfz2 _) (fun v hv => h1c v (List.mem_of_mem_drop hv))
      obtain ⟨W1, hW1⟩ : ∃ W1, W1 = w.drew.setCells g ((k + 1)) (cells.drop (k)) := ⟨_, rfl⟩
      have hsp1 : ∀ j, j < c → (W1.cell? ⟨g, j, none⟩).isSome = true := fun j hj => by
        rw [hW1]
        exact isSome_setCells g (cells.drop (k)) ((k + 1)) w.drew (fun j hj => hsp ((k + 1) + j) (by rw [hdl] at hj; omega)) _ (hsp j hj)
      have hcp2 : ∀ (W : World), (∀ x, W.cell? x = W1.cell? x) → (∀ x, W.frozen? x = W1.frozen? x) → ∀ ty dc, (Builtin.copy_ #[23, 23] ty #[.slice (some ⟨g, k, none⟩) (n + 1 - k) dc, .slice (some ⟨vb, 0, none⟩) 1 1]).run Try.prog W = .ok (goInt (Nat.min 1 (n + 1 - k))) (W.setCells g (k) ct) := fun W hWc hWf ty dc =>
        Mm.run_copy_k (P := Try.prog) W 23 23 ty 3 1 g (k) (n + 1 - k) dc ⟨vb, 0, none⟩ 1 1 ct Try.underlying23 hsz (by rw [hct, hmin2])
          (fun j v hj => by
            rw [Mm.add0, hWc, hW1, World.cell?_setCells_out g _ _ _ _ (fun h _ => absurd h hne)]
            exact hvs j v hj)
          (fun j hj => by rw [hWc]; exact hsp1 _ (by omega)) (fun j hj => by rw [hWf, hW1, World.frozen?_setCells]; exact hfz2 _) h1
      rw [← hW1] at hcp1
      have HW1 := Lib.hid hW1
      clear hW1
      go_region_law (refine step_copy_runI rfl _ _ 23 23 rfl (.slice (some ⟨g, (k + 1), none⟩) (n - k) (c - (k + 1))) (.slice (some ⟨g, k, none⟩) (n + 1 - k) (c - k)) (by simp [Act.eval, Act.put]) (by simp [Act.eval, Act.put]) (hcp1 _ _ _) ?_)
      go_wp2_with (at_builtin; refine wpList_copy_runI _ rfl _ _ 23 23 rfl _ _ rfl rfl (hcp2 _ (fun _ => rfl) (fun _ => rfl) _ _) ?_)
      go_ret
      have hW1 := HW1.out
      subst hW1
      have hd : Mm.Blk w.drew g 3 cur.toList := HBG.out
      have hb2 := Mm.setCells_blk ct _ (k) _ (Mm.setCells_blk (cells.drop (k)) _ ((k + 1)) _ hd)
      refine ⟨_, _, _, rfl, ⟨?_, .inr ⟨g, c, _, rfl, Nat.zero_le _, hb2, hroom, by unfold maxLen; omega, ?_, ?_⟩⟩, ?_, .inl rfl⟩
      · rw [List.length_append, List.length_append, List.length_take, hdl, hct, hcl]; omega
      · rw [List.size_toArray, Mm.setList_len, Mm.setList_len, Nat.mul_one]; exact hcsl
      · have := Mm.ins_rows (cur := cur.toList) (cells := cells) (ct := ct) (N := n) (K := k) (S := 1) htake hcl (by omega) hct (by rw [hcsl]; omega)
        rw [show k + 1 = k + 1 by rfl, show n + 1 = n + 1 by rfl]
        rw [List.append_assoc] at this
        rw [Nat.mul_one]
        exact this
      · exact Mm.Chg.grown ((Mm.Chg.of_below (Below.refl w.heap.size w).drew).trans ((Mm.setCells_chg g _ _ _).trans (Mm.setCells_chg g _ _ _)))
    · have hcn : c = n := by omega
      subst hcn
      have hsz : (Try.prog.info? 3).map (·.size) = some 1 := by rw [hi]; exact congrArg some hzs
      have hw3 : IntKind.i64.wrap ((c : Int) + 1 - (k : Int)) = (c : Int) + 1 - (k : Int) := IntWalk.i64_in _ (by omega)
      have hold : (Builtin.firstCells i0.size k (.slice (some ⟨g, 0, none⟩) k c)).run Try.prog w.drew = .ok (cells.take (k)).toArray w.drew := by
        rw [hzs]
        exact run_firstCells_some w.drew 1 k ⟨g, 0, none⟩ k c (cells.take (k)) (by rw [List.length_take, hcl]; omega) (fun j v hj => by
          rw [List.getElem?_take] at hj
          split at hj
          · rw [Mm.add0]; exact hcc j v hj
          · cases hj)
      have hik : ((c + 1 - k : Nat) : Int) = (c : Int) + 1 - (k : Int) := by omega
      have hkk : k + (c + 1 - k) = c + 1 := by omega
      obtain ⟨G, hG⟩ : ∃ G, G = grownCap w (c + 1) c 3 := ⟨_, rfl⟩
      obtain ⟨ROW, hROW⟩ : ∃ ROW : Array Value, ROW = (cells.take (k)).toArray ++ Builtin.zeroCells (Value.int .i64 0).cells (c + 1 - k) ++ Builtin.zeroCells (Value.int .i64 0).cells (G - (c + 1)) := ⟨_, rfl⟩
      have hrz : ∀ ty, (Builtin.append_ #[23, 3] ty #[.slice (some ⟨g, 0, none⟩) k c, .int .i64 ((c : Int) + 1 - (k : Int))]).run Try.prog w = .ok (.slice (some ⟨w.heap.size, 0, none⟩) (c + 1) G) (w.drew.alloc (.cells ROW 3)) := fun ty => by
        have h := Lib.run_append_grow_zeros w 23 3 ty 3 i0 _ .i64 .i64 Try.underlying23 Try.underlying3 hi hz0 (some ⟨g, 0, none⟩) k c (cells.take (k)) hold (c + 1 - k) (by omega) (by omega) (by omega) (by omega) (by rw [hzb]; omega) (by rw [hzb, hkk]; exact growslice_fits (by omega) (by omega))
        rw [hik, hkk] at h
        rw [hG, hROW, hG]
        exact h
      have hGn : c + 1 ≤ G := by rw [hG]; exact grownCap_ge w _ _ _
      have hGm : G ≤ maxLen := by rw [hG]; exact grownCap_le_maxLen w (c + 1) c 3 (by unfold maxLen; omega)
      have hRs : ROW.size = G := by
        rw [hROW]
        simp only [Array.size_append, List.size_toArray, Mm.zeroCells_len, List.length_take, hcl]
        show min k c + (c + 1 - k) * 1 + (G - (c + 1)) * 1 = _
        omega
      have hRt : ROW.toList.take (k) = cells.take (k) := by
        rw [hROW, Array.append_assoc, Array.toList_append, List.take_left' (by rw [List.length_take, hcl]; omega)]
      clear hG hROW hik hkk hold
      unfold maxLen at hGm
      obtain ⟨W1, hW1⟩ : ∃ W1, W1 = w.drew.alloc (.cells ROW 3) := ⟨_, rfl⟩
      have hgw : g < w.heap.size := hBg.lt
      have hB1 : Mm.Blk W1 w.heap.size 3 ROW.toList := by
        have := Mm.Blk.new w.drew 3 ROW.toList
        rw [Array.toArray_toList] at this
        rw [hW1]
        exact this
      have hN : ∀ j, j < G → (W1.cell? ⟨w.heap.size, j, none⟩).isSome = true := fun j hj => by
        rw [hB1.cell (List.getElem?_eq_getElem (by rw [Array.length_toList, hRs]; exact hj))]; rfl
      have hNf : ∀ j, W1.frozen? ⟨w.heap.size, j, none⟩ = false := fun j => hB1.frozen _
      have hbl : Below w.heap.size w W1 := by rw [hW1]; exact (Below.refl _ _).drew.alloc (by exact Nat.le_refl _) _
      have hOc : ∀ b j v, b < w.heap.size → w.cell? ⟨b, j, none⟩ = some v → W1.cell? ⟨b, j, none⟩ = some v := fun b j v hb h => (hbl.cell hb).trans h
      have hmin1 : Nat.min 1 (c + 1 - k) = 1 := by simp only [Nat.min_def]; split <;> omega
      have hmin2 : Nat.min (c - k) (c - k) = c - k := Nat.min_self _
      have hcpA : ∀ (W : World), (∀ x, W.cell? x = W1.cell? x) → (∀ x, W.frozen? x = W1.frozen? x) → ∀ ty dc, (Builtin.copy_ #[23, 23] ty #[.slice (some ⟨w.heap.size, k, none⟩) (c + 1 - k) dc, .slice (some ⟨vb, 0, none⟩) 1 1]).run Try.prog W = .ok (goInt (Nat.min 1 (c + 1 - k))) (W.setCells w.heap.size (k) ct) := fun W hWc hWf ty dc =>
        Mm.run_copy_k (P := Try.prog) W 23 23 ty 3 1 w.heap.size (k) (c + 1 - k) dc ⟨vb, 0, none⟩ 1 1 ct Try.underlying23 hsz (by rw [hct, hmin1])
          (fun j v hj => by rw [Mm.add0, hWc]; exact hOc _ _ v hvw (hvs j v hj))
          (fun j hj => by rw [hWc]; exact hN _ (by omega)) (fun j hj => by rw [hWf]; exact hNf _) h1
      have hcpB : ∀ (W : World), (∀ x, W.cell? x = (W1.setCells w.heap.size (k) ct).cell? x) → (∀ x, W.frozen? x = (W1.setCells w.heap.size (k) ct).frozen? x) → ∀ ty dc sc, (Builtin.copy_ #[23, 23] ty #[.slice (some ⟨w.heap.size, (k + 1), none⟩) (c - k) dc, .slice (some ⟨g, k, none⟩) (c - k) sc]).run Try.prog W = .ok (goInt (Nat.min (c - k) (c - k))) (W.setCells w.heap.size ((k + 1)) (cells.drop (k))) := fun W hWc hWf ty dc sc =>
        Mm.run_copy_k (P := Try.prog) W 23 23 ty 3 1 w.heap.size ((k + 1)) (c - k) dc ⟨g, k, none⟩ (c - k) sc (cells.drop (k)) Try.underlying23 hsz (by rw [hdl, hmin2, Nat.mul_one])
          (fun j v hj => by
            rw [Addr.add_lit, hWc, World.cell?_setCells_out _ _ _ _ _ (fun h _ => absurd h (Nat.ne_of_lt hgw))]
            exact hOc _ _ v hgw (hcc _ v (by rwa [List.getElem?_drop] at hj)))
          (fun j hj => by rw [hWc]; exact isSome_setCells _ _ _ _ (fun t ht => hN (k + t) (by omega)) _ (hN ((k + 1) + j) (by rw [hdl] at hj; omega)))
          (fun j hj => by rw [hWf, World.frozen?_setCells]; exact hNf _) (fun v hv => h1c v (List.mem_of_mem_drop hv))
      have HW1 := Lib.hid (And.intro hW1 hB1)
      have HBL := Lib.hid hbl
      subst hW1
      have hE1 : ∀ x, ((w.alloc (.cells ROW 3)).drew).cell? x = (w.drew.alloc (.cells ROW 3)).cell? x := fun x => rfl
      have hE2 : ∀ x, ((w.alloc (.cells ROW 3)).drew).frozen? x = (w.drew.alloc (.cells ROW 3)).frozen? x := fun x => rfl
      have hF1 : ∀ x, (((w.alloc (.cells ROW 3)).drew.setCells w.heap.size (k) ct).drew).cell? x = ((w.drew.alloc (.cells ROW 3)).setCells w.heap.size (k) ct).cell? x := fun x => rfl
      have hF2 : ∀ x, (((w.alloc (.cells ROW 3)).drew.setCells w.heap.size (k) ct).drew).frozen? x = ((w.drew.alloc (.cells ROW 3)).setCells w.heap.size (k) ct).frozen? x := fun x => rfl
      have hGi : ¬ (G = k) := by omega
      have hGim : ¬ (G = k + 1) := by omega
      have hci : ¬ (c = k) := by omega
      clear ho hg hBg hbl hN hNf hOc
      go_enter Try.func99, Try.ntmps99
      go_wp2_with (first
        | (at_builtin; refine Lib.wpList_append_run _ rfl _ _ _ _ rfl _ _ rfl rfl _ _ (hrz _) ?_)
        | (at_builtin; refine wpList_copy_runI _ rfl _ _ 23 23 rfl _ _ rfl rfl (hcpA _ hE1 hE2 _ _) ?_))
      go_region_law (refine step_copy_runI rfl _ _ 23 23 rfl (.slice (some ⟨w.heap.size, (k + 1), none⟩) (c - k) (G - (k + 1))) (.slice (some ⟨g, k, none⟩) (c - k) (c - k)) (by simp [Act.eval, Act.put]) (by simp [Act.eval, Act.put]) (hcpB _ hF1 hF2 3 (G - (k + 1)) (c - k)) ?_)
      go_wp2
      go_ret
      have hd : Mm.Blk (w.alloc (.cells ROW 3)).drew w.heap.size 3 ROW.toList := HW1.out.2
      have hb1' : Mm.Blk (((w.alloc (.cells ROW 3)).drew.setCells w.heap.size (k) ct).drew) w.heap.size 3 (Mm.setList ROW.toList (k) ct) := Mm.setCells_blk ct _ (k) _ hd
      have hb2' := Mm.setCells_blk (cells.drop (k)) _ ((k + 1)) _ hb1'
      refine ⟨_, _, _, rfl, ⟨?_, .inr ⟨w.heap.size, G, _, rfl, Nat.zero_le _, hb2', hGn, by unfold maxLen; omega, ?_, ?_⟩⟩, ?_, .inr rfl⟩
      · rw [List.length_append, List.length_append, List.length_take, hdl, hct, hcl]; omega
      · rw [List.size_toArray, Mm.setList_len, Mm.setList_len, Array.length_toList, Nat.mul_one]; exact hRs
      · have := Mm.ins_rows' (cur := ROW.toList) (cells := cells) (ct := ct) (N := c) (K := k) (S := 1) hRt hcl (by omega) hct (by rw [Array.length_toList, hRs]; omega)
        rw [show k + 1 = k + 1 by rfl, show c + 1 = c + 1 by rfl]
        rw [List.append_assoc] at this
        rw [Nat.mul_one]
        exact this
      · have q1 : Below w.heap.size w (w.alloc (.cells ROW 3)).drew := (below_new (Below.refl _ _) _).drew
        have q2 := Mm.Below.chg q1 (Mm.setCells_chg w.heap.size ct _ (k)) q1.size (fun b hb => by rw [List.mem_singleton.1 hb]; exact Nat.le_refl _)
        have q3 := Mm.Below.chg q2.drew (Mm.setCells_chg w.heap.size (cells.drop (k)) _ ((k + 1))) q2.drew.size (fun b hb => by rw [List.mem_singleton.1 hb]; exact Nat.le_refl _)
        exact Mm.Chg.grown0 q3
theorem Mm.flatN_int' : Mm.FlatN Mm.int (fun x : Int => [Value.int .i64 x]) := ⟨by decide, fun h => by
  obtain ⟨rfl, h1, rfl⟩ := h
  exact ⟨rfl, rfl, fun w' => ⟨rfl, h1, rfl⟩⟩⟩
end Go.Proofs.Ytkhchfbpmmiopaa

/-
  Contracts: rising lists of numbers: sought, held, put in, taken out (slices at ints; chapters 1, 4 and 8). No conditions beyond those named.
-/
namespace Go.Proofs.Ytkhchfbpmmiopaa
open Go.RowKit
attribute [local go_sem] und_cell World.cell?_alloc_some
theorem isNaNs_c (a : Int) (w : World) : Calls Try.prog 105 #[.int .i64 a] w fun e w' => e = .returned (.bool false) ∧ w = w' := by
  go_enter Try.func105, Try.ntmps105
  go_wp2
  go_ret
  exact ⟨ret_bool (by simp), rfl⟩
theorem isNaNc_c (a : Int) (w : World) : Calls Try.prog 108 #[.int .i64 a] w fun e w' => e = .returned (.bool false) ∧ w = w' := by
  go_enter Try.func108, Try.ntmps108
  go_wp2
  go_ret
  exact ⟨ret_bool (by simp), rfl⟩
theorem lessI_c (a b : Int) (w : World) : Calls Try.prog 104 #[.int .i64 a, .int .i64 b] w fun e w' => e = .returned (.bool (decide (a < b))) ∧ w = w' := by
  go_enter Try.func104, Try.ntmps104
  go_wp2_with (go_at_call 108; (with_reducible refine (isNaNc_c _ _).mono ?_); rintro e w5 ⟨rfl, rfl⟩)
  go_ret
  exact ⟨rfl, rfl⟩
set_option maxRecDepth 100000 in
set_option maxHeartbeats 1000000 in
theorem bsInt_c (l : List Int) (t : Int) (A : Option Addr) (n c : Nat) (w : World) (B : Nat) (hl : Mm.SlAt Mm.int w B l A n c) (hs : l.Pairwise (· < ·)) (hn : n ≤ 1000) :
    Calls Try.prog 98 #[.slice A n c, .int .i64 t] w fun e w' => e = .returned (.tuple #[.int .i64 (Pl.ipos l t : Nat), .bool (Pl.hasI l t)]) ∧ w = w' := by
  have HL := Lib.hid hl
  have HLN : Hid (l.length = n) := hl.1
  have HS := Lib.hid hs
  obtain ⟨p, hp⟩ : ∃ p, Pl.ipos l t = p := ⟨_, rfl⟩
  have HP := Lib.hid hp
  rw [hp]
  have hpn : p ≤ n := by rw [← hp, ← hl.1]; exact Pl.ipos_le l t
  obtain ⟨b, hb⟩ : ∃ b, Pl.hasI l t = b := ⟨_, rfl⟩
  have HB := Lib.hid hb
  rw [hb]
  clear hl hs hp hb
  go_enter Try.func98, Try.ntmps98
  go_wp2
  go_loopg [7, 8] n (fun g i j wr => wr = w ∧ ∃ a b : Nat, b - a ≤ g ∧ a ≤ p ∧ p ≤ b ∧ b ≤ n ∧ i = .int .i64 a ∧ j = .int .i64 b)
  case atStart => exact ⟨rfl, 0, n, by omega, Nat.zero_le _, hpn, Nat.le_refl _, rfl, rfl⟩
  case round =>
    obtain ⟨rfl, a, b', hg, hap, hpb, hbn, rfl, rfl⟩ := hrel
    by_cases hab : a < b'
    · have f1 : (a : Int) < (b' : Nat) := by omega
      obtain ⟨m, hm⟩ : ∃ m : Nat, ((a : Int) + (b' : Int)) / 2 = m := ⟨(a + b') / 2, by omega⟩
      have hma : a ≤ m := by omega
      have hmb : m < b' := by omega
      obtain ⟨x, bb, off, hx, rfl, hbb, i1, e0⟩ := int_get HL.out (show m < n by omega)
      have HX := Lib.hid hx
      have hlt := Pl.ipos_lt (k := t) HS.out hx
      rw [HP.out] at hlt
      have f2 : (0 : Int) ≤ (m : Nat) := by omega
      have f3 : ((m : Nat) : Int).toNat = m := by omega
      have f4 : (m : Int) < (n : Nat) := by omega
      have f5 : (m : Int) < (b' : Nat) := by omega
      have f6 : (a : Int) ≤ (m : Nat) := by omega
      have f7 : IntKind.i64.wrap ((m : Int) + 1) = (m : Int) + 1 := IntWalk.i64_in _ (by omega)
      clear hx
      by_cases hxt : x < t
      · have hmp : m < p := hlt.2 hxt
        have f8 : decide (x < t) = true := by simpa using hxt
        clear hlt hxt
        go_wp2_with (go_at_call 104; (with_reducible refine (lessI_c _ _ _).mono ?_); rintro e w5 ⟨rfl, rfl⟩)
        go_roundg (b' - (m + 1))
        case measure => omega
        case rel => exact ⟨rfl, m + 1, b', Nat.le_refl _, by omega, hpb, hbn, by go_num, rfl⟩
      · have hmp : p ≤ m := by
          apply Classical.byContradiction
          intro hh
          exact hxt (hlt.1 (by omega))
        have f8 : decide (x < t) = false := by simpa using hxt
        clear hlt hxt
        go_wp2_with (go_at_call 104; (with_reducible refine (lessI_c _ _ _).mono ?_); rintro e w5 ⟨rfl, rfl⟩)
        go_roundg (m - a)
        case measure => omega
        case rel => exact ⟨rfl, a, m, Nat.le_refl _, hap, hmp, by omega, rfl, by go_num⟩
    · have hab2 : a = p := by omega
      subst hab2
      have f1 : ¬ (a : Int) < (b' : Nat) := by omega
      have hmem := Pl.mem_ipos (k := t) HS.out
      rw [HP.out, ← Pl.hasI_iff] at hmem
      by_cases han : a < n
      · obtain ⟨x, bb, off, hx, rfl, hbb, i1, e0⟩ := int_get HL.out han
        have f2 : (0 : Int) ≤ (a : Nat) := by omega
        have f3 : ((a : Nat) : Int).toNat = a := by omega
        have f4 : decide (a < n) = true := by simpa using han
        by_cases hxt : x = t
        · have hbt : b = true := by rw [← HB.out]; exact hmem.2 (by rw [hx, hxt])
          subst hbt
          have f5 : (x == t) = true := by simpa using hxt
          clear hmem hx hxt
          go_wp2_with (go_at_call 105; (with_reducible refine (isNaNs_c _ _).mono ?_); rintro e w5 ⟨rfl, rfl⟩)
          go_ret2
          exact ⟨rfl, rfl⟩
        · have hbt : b = false := by
            cases hb : b with
            | false => rfl
            | true =>
              have := hmem.1 (by rw [HB.out, hb])
              rw [hx] at this; injection this with this; exact absurd this hxt
          subst hbt
          have f5 : (x == t) = false := by simpa using hxt
          clear hmem hx hxt
          go_wp2_with (go_at_call 105; (with_reducible refine (isNaNs_c _ _).mono ?_); rintro e w5 ⟨rfl, rfl⟩)
          go_ret2
          exact ⟨rfl, rfl⟩
      · have hbt : b = false := by
          cases hb : b with
          | false => rfl
          | true =>
            have := (List.getElem?_eq_some_iff.1 (hmem.1 (by rw [HB.out, hb]))).1
            rw [HLN.out] at this; omega
        subst hbt
        have f4 : decide (a < n) = false := by simpa using han
        clear hmem
        go_wp2_with (go_at_call 105; (with_reducible refine (isNaNs_c _ _).mono ?_); rintro e w5 ⟨rfl, rfl⟩)
        go_ret2
        exact ⟨rfl, rfl⟩
theorem Pl.hasI_no {l : List Int} {k : Int} {n : Nat} (hn : l.length ≤ n) (h : ∀ (i : Nat) x, i < n → l[i]? = some x → x ≠ k) : Pl.hasI l k = false := by
  rw [← Bool.not_eq_true, Pl.hasI_iff]
  intro hk
  obtain ⟨i, hi⟩ := List.mem_iff_getElem?.1 hk
  exact h i k (by have := (List.getElem?_eq_some_iff.1 hi).1; omega) hi rfl
theorem Pl.hasI_yes {l : List Int} {k : Int} {i : Nat} (h : l[i]? = some k) : Pl.hasI l k = true := Pl.hasI_iff.2 (List.mem_of_getElem? h)
theorem Pl.snocNe {l : List Int} {k x : Int} {n : Nat} (h : ∀ (i : Nat) y, i < n → l[i]? = some y → y ≠ k) (hx : l[n]? = some x) (hne : x ≠ k) : ∀ (i : Nat) y, i < n + 1 → l[i]? = some y → y ≠ k := fun i y hi hy => by
  rcases Nat.lt_succ_iff_lt_or_eq.1 hi with h1 | rfl
  · exact h i y h1 hy
  · rw [hx] at hy; injection hy with hy; rw [← hy]; exact hne
set_option maxRecDepth 100000 in
theorem l1Has_c (l : List Int) (t : Int) (A : Option Addr) (n c : Nat) (w : World) (B : Nat) (hl : Mm.SlAt Mm.int w B l A n c) :
    Calls Try.prog 74 #[.slice A n c, .int .i64 t] w fun e w' => e = .returned (.bool (Pl.hasI l t)) ∧ w = w' := by
  have hn : n ≤ 9223372036854775807 := by have := hl.2.1; have := hl.2.2.1; unfold maxLen at this; omega
  have HL := Lib.hid hl
  have HLN : Hid (l.length = n) := hl.1
  clear hl
  go_enter Try.func74, Try.ntmps74
  go_wp2
  go_loop [9] (fun i => ∃ k : Nat, k ≤ n ∧ i = .int .i64 k ∧ Hid (∀ (i : Nat) x, i < k → l[i]? = some x → x ≠ t)) (fun i => n - (intOf i).toNat)
  case atStart => exact ⟨0, Nat.zero_le _, rfl, Lib.hid (fun j x hj => absurd hj (Nat.not_lt_zero _))⟩
  case round =>
    obtain ⟨k, hk, rfl, HA⟩ := hrel
    by_cases hlt : k < n
    · obtain ⟨x, b, off, hx, rfl, hb, i1, e0⟩ := int_get HL.out hlt
      by_cases hxt : x = t
      · have HF : Hid (Pl.hasI l t = true) := Pl.hasI_yes (by rw [hx, hxt])
        have f1 : (x == t) = true := by simpa using hxt
        clear hx hxt
        go_wp2
        go_ret
        exact ⟨ret_bool HF.out.symm, rfl⟩
      · have HN := Lib.hid (Pl.snocNe HA.out hx hxt)
        have f1 : (x == t) = false := by simpa using hxt
        clear hx hxt
        go_wp2
        go_round
        case rel => exact ⟨k + 1, by omega, by go_num, HN⟩
        case measure => simp [intOf]; omega
    · have HF : Hid (Pl.hasI l t = false) := Pl.hasI_no (by rw [HLN.out]; omega) HA.out
      go_wp2
      go_ret
      exact ⟨ret_bool HF.out.symm, rfl⟩
set_option maxRecDepth 100000 in
theorem idxI_c (l : List Int) (t : Int) (A : Option Addr) (n c : Nat) (w : World) (B : Nat) (hl : Mm.SlAt Mm.int w B l A n c) :
    Calls Try.prog 103 #[.slice A n c, .int .i64 t] w fun e w' => ∃ i : Int, e = .returned (.int .i64 i) ∧ decide (0 ≤ i) = Pl.hasI l t ∧ w = w' := by
  have hn : n ≤ 9223372036854775807 := by have := hl.2.1; have := hl.2.2.1; unfold maxLen at this; omega
  have HL := Lib.hid hl
  have HLN : Hid (l.length = n) := hl.1
  clear hl
  go_enter Try.func103, Try.ntmps103
  go_wp2
  go_loopg [8] n (fun g i wr => wr = w ∧ ∃ k : Nat, n - k ≤ g ∧ k ≤ n ∧ i = .int .i64 k ∧ Hid (∀ (i : Nat) x, i < k → l[i]? = some x → x ≠ t))
  case atStart => exact ⟨rfl, 0, Nat.le_refl _, Nat.zero_le _, rfl, Lib.hid (fun j x hj => absurd hj (Nat.not_lt_zero _))⟩
  case round =>
    obtain ⟨rfl, k, hgk, hk, rfl, HA⟩ := hrel
    by_cases hlt : k < n
    · obtain ⟨x, b, off, hx, rfl, hb, i1, e0⟩ := int_get HL.out hlt
      have f2 : (0 : Int) ≤ (k : Nat) := by omega
      have f3 : ((k : Nat) : Int).toNat = k := by omega
      by_cases hxt : x = t
      · have HF : Hid (Pl.hasI l t = true) := Pl.hasI_yes (by rw [hx, hxt])
        have f1 : (t == x) = true := by simpa using hxt.symm
        clear hx hxt
        go_wp2
        go_ret
        exact ⟨_, rfl, by rw [HF.out]; simp, rfl⟩
      · have HN := Lib.hid (Pl.snocNe HA.out hx hxt)
        have f1 : (t == x) = false := by simpa using fun h => hxt h.symm
        clear hx hxt
        go_wp2
        go_roundg (n - (k + 1))
        case measure => omega
        case rel => exact ⟨rfl, k + 1, Nat.le_refl _, by omega, by go_num, HN.out⟩
    · have HF : Hid (Pl.hasI l t = false) := Pl.hasI_no (by rw [HLN.out]; omega) HA.out
      go_wp2
      go_ret
      exact ⟨_, rfl, by rw [HF.out]; rfl, rfl⟩
theorem hasI_c (l : List Int) (t : Int) (A : Option Addr) (n c : Nat) (w : World) (B : Nat) (hl : Mm.SlAt Mm.int w B l A n c) :
    Calls Try.prog 95 #[.slice A n c, .int .i64 t] w fun e w' => e = .returned (.bool (Pl.hasI l t)) ∧ w = w' := by
  have C := idxI_c l t A n c w B hl
  obtain ⟨b, hb⟩ : ∃ b, Pl.hasI l t = b := ⟨_, rfl⟩
  rw [hb] at C ⊢
  clear hb hl
  go_enter Try.func95, Try.ntmps95
  go_wp2_with (go_at_call 103; (with_reducible refine C.mono ?_); clear C; rintro e w5 ⟨i, rfl, hi, rfl⟩)
  go_ret
  exact ⟨rfl, rfl⟩
theorem Pl.risI_bad {n : Int} {l : List Int} {k : Nat} {x : Int} (hx : l[k]? = some x) (h : isIn x 0 (n - 1) = false ∨ (0 < k ∧ x ≤ l.getD (k - 1) 0)) : risI n l = false := by
  have hk := (List.getElem?_eq_some_iff.1 hx).1
  unfold risI
  refine allB_no hk ?_
  rw [risP_of hx]
  rcases h with h | ⟨h0, h⟩
  · rw [h, Bool.false_and]
  · have e1 : decide (k = 0) = false := by simp; omega
    have e2 : decide (l.getD (k - 1) 0 < x) = false := by rw [decide_eq_false_iff_not]; omega
    rw [e1, e2]; simp
theorem Pl.getDI_of {l : List Int} {k : Nat} {x : Int} (h : l[k]? = some x) : l.getD k 0 = x := by rw [List.getD_eq_getElem?_getD, h]; rfl
set_option maxRecDepth 100000 in
set_option maxHeartbeats 1000000 in
theorem areNodes_c (m : Nat) (l : List Int) (A : Option Addr) (n c : Nat) (w : World) (B : Nat) (hl : Mm.SlAt Mm.int w B l A n c) (hm : m ≤ 1000000) :
    Calls Try.prog 71 #[(.int .i64 (m : Nat)), (.slice A n c)] w fun e w' => e = .returned (.bool (Pl.risI (m : Int) l)) ∧ Below w.heap.size w w' := by
  have hn : n ≤ 9223372036854775807 := by have := hl.2.1; have := hl.2.2.1; unfold maxLen at this; omega
  have HL := Lib.hid hl
  have HLN : Hid (l.length = n) := hl.1
  have f0 : IntKind.i64.wrap ((m : Int) - 1) = (m : Int) - 1 := IntWalk.i64_in _ (by omega)
  clear hl
  go_enter Try.func71, Try.ntmps71
  go_wp2
  go_loopg [9] n (fun g i wr => ∃ k : Nat, n - k ≤ g ∧ k ≤ n ∧ i = .int .i64 k ∧ Hid (∀ i, i < k → Pl.risP (m : Int) l i = true) ∧ wr = w)
  case atStart => exact ⟨0, Nat.le_refl _, Nat.zero_le _, rfl, Lib.hid (fun j hj => absurd hj (Nat.not_lt_zero _)), rfl⟩
  case round =>
    obtain ⟨k, hgk, hk, rfl, HA, rfl⟩ := hrel
    by_cases hlt : k < n
    · obtain ⟨x, b, off, hx, rfl, hb, i1, e0⟩ := int_get HL.out hlt
      have HX := Lib.hid hx
      have CW := within_c x 0 ((m : Int) - 1) wr
      clear hx
      cases h1 : Pl.isIn x 0 ((m : Int) - 1) with
      | false =>
        have HF : Hid (Pl.risI (m : Int) l = false) := Pl.risI_bad HX.out (.inl h1)
        rw [h1] at CW
        go_wp2_with (go_at_call 43; (with_reducible refine CW.mono ?_); rintro e w5 ⟨rfl, rfl⟩)
        go_ret
        exact ⟨ret_bool HF.out.symm, Below.refl _ _⟩
      | true =>
        rw [h1] at CW
        by_cases h0 : k = 0
        · have HG : Hid (∀ i, i < k + 1 → Pl.risP (m : Int) l i = true) := Lib.hid (Pl.snocB HA.out (by rw [Pl.risP_of HX.out, h1]; simp [h0]))
          have f1 : decide (0 < k) = false := by simp; omega
          clear h0 h1
          go_wp2_with (go_at_call 43; (with_reducible refine CW.mono ?_); rintro e w5 ⟨rfl, rfl⟩)
          go_roundg (n - (k + 1))
          case measure => omega
          case rel => exact ⟨k + 1, Nat.le_refl _, by omega, by go_num, HG.out, rfl⟩
        · have hk0 : 0 < k := by omega
          obtain ⟨y, hy, _, _, e3⟩ := int_get' HL.out (show k - 1 < n by omega)
          have HY := Lib.hid hy
          have f3 : (0 : Int) ≤ (k : Int) - 1 := by omega
          have f4 : 1 ≤ k := by omega
          have f5 : ((k : Int) - 1).toNat = k - 1 := by omega
          have f6 : (k : Int) - 1 < n := by omega
          clear hy h0
          by_cases h3 : y < x
          · have HG : Hid (∀ i, i < k + 1 → Pl.risP (m : Int) l i = true) := Lib.hid (Pl.snocB HA.out (by rw [Pl.risP_of HX.out, h1, Pl.getDI_of HY.out]; simp [h3]))
            have f7 : decide (x ≤ y) = false := by simp; omega
            clear h1
            go_wp2_with (go_at_call 43; (with_reducible refine CW.mono ?_); rintro e w5 ⟨rfl, rfl⟩)
            go_roundg (n - (k + 1))
            case measure => omega
            case rel => exact ⟨k + 1, Nat.le_refl _, by omega, by go_num, HG.out, rfl⟩
          · have HF : Hid (Pl.risI (m : Int) l = false) := Pl.risI_bad HX.out (.inr ⟨hk0, by rw [Pl.getDI_of HY.out]; omega⟩)
            have f7 : decide (x ≤ y) = true := by simp; omega
            clear h1
            go_wp2_with (go_at_call 43; (with_reducible refine CW.mono ?_); rintro e w5 ⟨rfl, rfl⟩)
            go_ret
            exact ⟨ret_bool HF.out.symm, Below.refl _ _⟩
    · have HF : Hid (Pl.risI (m : Int) l = true) := Lib.hid (Pl.allB_yes fun i hi => HA.out i (by rw [HLN.out] at hi; omega))
      go_wp2
      go_ret
      exact ⟨ret_bool HF.out.symm, Below.refl _ _⟩
set_option maxRecDepth 100000 in
set_option maxHeartbeats 1000000 in
theorem l8Rising_c (m : Nat) (l : List Int) (A : Option Addr) (n c : Nat) (w : World) (B : Nat) (hl : Mm.SlAt Mm.int w B l A n c) (hm : m ≤ 1000000) :
    Calls Try.prog 68 #[(.slice A n c), (.int .i64 (m : Nat))] w fun e w' => e = .returned (.bool (Pl.risI (m : Int) l)) ∧ Below w.heap.size w w' := by
  have hn : n ≤ 9223372036854775807 := by have := hl.2.1; have := hl.2.2.1; unfold maxLen at this; omega
  have HL := Lib.hid hl
  have HLN : Hid (l.length = n) := hl.1
  have f0 : IntKind.i64.wrap ((m : Int) - 1) = (m : Int) - 1 := IntWalk.i64_in _ (by omega)
  clear hl
  go_enter Try.func68, Try.ntmps68
  go_wp2
  go_loopg [9] n (fun g i wr => ∃ k : Nat, n - k ≤ g ∧ k ≤ n ∧ i = .int .i64 k ∧ Hid (∀ i, i < k → Pl.risP (m : Int) l i = true) ∧ wr = w)
  case atStart => exact ⟨0, Nat.le_refl _, Nat.zero_le _, rfl, Lib.hid (fun j hj => absurd hj (Nat.not_lt_zero _)), rfl⟩
  case round =>
    obtain ⟨k, hgk, hk, rfl, HA, rfl⟩ := hrel
    by_cases hlt : k < n
    · obtain ⟨x, b, off, hx, rfl, hb, i1, e0⟩ := int_get HL.out hlt
      have HX := Lib.hid hx
      have CW := l1In_c x 0 ((m : Int) - 1) wr
      clear hx
      cases h1 : Pl.isIn x 0 ((m : Int) - 1) with
      | false =>
        have HF : Hid (Pl.risI (m : Int) l = false) := Pl.risI_bad HX.out (.inl h1)
        rw [h1] at CW
        go_wp2_with (go_at_call 67; (with_reducible refine CW.mono ?_); rintro e w5 ⟨rfl, rfl⟩)
        go_ret
        exact ⟨ret_bool HF.out.symm, Below.refl _ _⟩
      | true =>
        rw [h1] at CW
        by_cases h0 : k = 0
        · have HG : Hid (∀ i, i < k + 1 → Pl.risP (m : Int) l i = true) := Lib.hid (Pl.snocB HA.out (by rw [Pl.risP_of HX.out, h1]; simp [h0]))
          have f1 : decide (0 < k) = false := by simp; omega
          clear h0 h1
          go_wp2_with (go_at_call 67; (with_reducible refine CW.mono ?_); rintro e w5 ⟨rfl, rfl⟩)
          go_roundg (n - (k + 1))
          case measure => omega
          case rel => exact ⟨k + 1, Nat.le_refl _, by omega, by go_num, HG.out, rfl⟩
        · have hk0 : 0 < k := by omega
          obtain ⟨y, hy, _, _, e3⟩ := int_get' HL.out (show k - 1 < n by omega)
          have HY := Lib.hid hy
          have f3 : (0 : Int) ≤ (k : Int) - 1 := by omega
          have f4 : 1 ≤ k := by omega
          have f5 : ((k : Int) - 1).toNat = k - 1 := by omega
          have f6 : (k : Int) - 1 < n := by omega
          clear hy h0
          by_cases h3 : y < x
          · have HG : Hid (∀ i, i < k + 1 → Pl.risP (m : Int) l i = true) := Lib.hid (Pl.snocB HA.out (by rw [Pl.risP_of HX.out, h1, Pl.getDI_of HY.out]; simp [h3]))
            have f7 : decide (x ≤ y) = false := by simp; omega
            clear h1
            go_wp2_with (go_at_call 67; (with_reducible refine CW.mono ?_); rintro e w5 ⟨rfl, rfl⟩)
            go_roundg (n - (k + 1))
            case measure => omega
            case rel => exact ⟨k + 1, Nat.le_refl _, by omega, by go_num, HG.out, rfl⟩
          · have HF : Hid (Pl.risI (m : Int) l = false) := Pl.risI_bad HX.out (.inr ⟨hk0, by rw [Pl.getDI_of HY.out]; omega⟩)
            have f7 : decide (x ≤ y) = true := by simp; omega
            clear h1
            go_wp2_with (go_at_call 67; (with_reducible refine CW.mono ?_); rintro e w5 ⟨rfl, rfl⟩)
            go_ret
            exact ⟨ret_bool HF.out.symm, Below.refl _ _⟩
    · have HF : Hid (Pl.risI (m : Int) l = true) := Lib.hid (Pl.allB_yes fun i hi => HA.out i (by rw [HLN.out] at hi; omega))
      go_wp2
      go_ret
      exact ⟨ret_bool HF.out.symm, Below.refl _ _⟩
theorem Try.infoInt : (Try.prog.info? 3).map (fun i => (i.zero, i.size, i.bytes)) = some (some (.int .i64 0), 1, 8) := by kernel_rfl
theorem Pl.outI_next {l : List Int} {k x : Int} {i : Nat} (h : l[i]? = some x) : outI (l.take (i + 1)) k = if x = k then outI (l.take i) k else outI (l.take i) k ++ [x] := by
  unfold outI
  rw [Mm.take_succ_some h, List.filter_append]
  by_cases e : x = k
  · rw [if_pos e, List.filter_cons_of_neg (by simpa using e)]; simp
  · rw [if_neg e, List.filter_cons_of_pos (by simpa using e)]; rfl
theorem Pl.hasI_one (k x : Int) : hasI [k] x = (k == x) := by simp [hasI]
end Go.Proofs.Ytkhchfbpmmiopaa

/-
  Contracts: a number put into a rising list, the reference's (chapter 1). No conditions beyond those named.
-/
namespace Go.Proofs.Ytkhchfbpmmiopaa
open Go.RowKit
attribute [local go_sem] und_cell World.cell?_alloc_some
set_option maxRecDepth 100000 in
set_option maxHeartbeats 2000000 in
theorem l1Put_c (l : List Int) (t : Int) (A : Option Addr) (n c : Nat) (w : World) (B : Nat) (hl : Mm.SlAt Mm.int w B l A n c) (hB : B ≤ w.heap.size) (hs : l.Pairwise (· < ·)) (hn : n ≤ 1000) (ht : Mm.I64 t) (hno : Pl.hasI l t = false) :
    Calls Try.prog 101 #[.slice A n c, .int .i64 t] w (Mm.NewSl Mm.int 3 w (Pl.insI l t)) := by
  have HLN : Hid (l.length = n) := hl.1
  have HL := Lib.hid hl
  have HSO := Lib.hid hs
  have HI := Lib.hid ht
  have hmem : t ∉ l := fun h => by rw [Pl.hasI_iff.2 h] at hno; cases hno
  have HNO := Lib.hid hmem
  have HCC := Lib.hid hl.2
  clear hl hs hno ht hmem
  obtain ⟨i0, hi, hz0, hz1, hz2⟩ := info_parts Try.infoInt
  have KS := Lib.hid ((Mm.SepF.start w).add (Below.refl _ _) (t := Mm.tsl Mm.int 3 [] (.slice none 0 0) []) Mm.SlOwn.nil List.nodup_nil (fun b hb => by cases hb))
  go_enter Try.func101, Try.ntmps101
  go_wp2
  go_loop [5] (fun i => ∃ k : Nat, k ≤ n ∧ i = .int .i64 k ∧ Hid (∀ (i : Nat) x, i < k → l[i]? = some x → x < t)) (fun i => n - (intOf i).toNat)
  case atStart => exact ⟨0, Nat.zero_le _, rfl, Lib.hid (fun j x hj => absurd hj (Nat.not_lt_zero _))⟩
  case round =>
    obtain ⟨k, hk, rfl, HA⟩ := hrel
    by_cases hlt : k < n
    · obtain ⟨x, b, off, hx, rfl, hb, i1, e0⟩ := int_get HL.out hlt
      by_cases hxt : x < t
      · have HN : Hid (∀ (i : Nat) y, i < k + 1 → l[i]? = some y → y < t) := Lib.hid (fun i y hi hy => by
          rcases Nat.lt_succ_iff_lt_or_eq.1 hi with h1 | rfl
          · exact HA.out i y h1 hy
          · rw [hx] at hy; injection hy with hy; rw [← hy]; exact hxt)
        clear hx
        go_wp2
        go_round
        case rel => exact ⟨k + 1, by omega, by go_num, HN⟩
        case measure => simp [intOf]; omega
      · have HP : Hid (Pl.ipos l t = k) := Lib.hid (Pl.ipos_of HSO.out (by rw [HLN.out]; omega) HA.out (fun y hy => by rw [hx] at hy; injection hy with hy; omega))
        have hne : ¬ x = t := fun h => HNO.out (List.mem_of_getElem? (h ▸ hx))
        have f1 : (x == t) = false := by simpa using hne
        have f2 : decide (k < n) = true := by simpa using hlt
        have hkn : k ≤ n := by omega
        have hcn : n ≤ c := HCC.out.1
        have hcm : c ≤ 9223372036854775807 := by have := HCC.out.2.1; unfold maxLen at this; omega
        have HT1 := Lib.hid (HL.out.take hkn)
        have HTD : Hid (Mm.SlAt Mm.int w B (l.drop k) (some ⟨b, off + k, none⟩) (n - k) (c - k)) := Lib.hid (by have h9 := HL.out.drop hkn; rwa [show off + k * Mm.int.size = off + k by show off + k * 1 = _; omega] at h9)
        have HL1 : Hid (([] ++ l.take k).length = k) := by show _ = _; rw [List.nil_append, List.length_take, HLN.out]; omega
        have HL2 : Hid ((([] ++ l.take k) ++ [t]).length + (n - k) = n + 1) := by show _ = _; rw [List.length_append, HL1.out]; simp; omega
        have f6 : ¬ (c = k) := by omega
        have f7 : (k : Int) ≤ (n : Nat) := by omega
        have f8 : (k : Int) ≤ (c : Nat) := by omega
        have f9 : k ≤ c := by omega
        clear hx hne
        go_wp2_with first
          | (at_builtin; refine Mm.wpList_appMany rfl (.tmp 34) (.tmp 37) 23 rfl Mm.flat_int Mm.flatN_int' i0 _ 8 Try.underlying23 hi hz0 hz1 hz2 rfl KS.out 0 rfl HT1.out (m := k) (by simp) (by unfold maxLen; omega) (by omega) rfl rfl ?_; intro A2 c2 fp2 w1 hs1; (have HS1 := Lib.hid hs1); (have HT2 := Lib.hid (HTD.out.keep (w' := w1) fun b hb => hs1.bel0.block b (by omega))); clear hs1)
          | (at_builtin; refine Mm.app_list (x := t) HS1.out 0 rfl rfl (.tmp 39) (.tmp 41) 23 rfl i0 _ 8 Try.underlying23 hi hz0 hz1 hz2 rfl (by decide) rfl rfl (fun W => ⟨rfl, HI.out, rfl⟩) HL1.out (by unfold maxLen; omega) (by omega) ?_; intro g cap w' fp' hs; (have HS3 := Lib.hid hs); (have HT3 := Lib.hid (HTD.out.keep (w' := w') fun b hb => hs.bel0.block b (by omega))); clear hs)
          | (at_builtin; refine Mm.wpList_appMany rfl (.tmp 43) (.tmp 46) 23 rfl Mm.flat_int Mm.flatN_int' i0 _ 8 Try.underlying23 hi hz0 hz1 hz2 rfl HS3.out 0 rfl HT3.out (m := n + 1) HL2.out (by unfold maxLen; omega) (by omega) rfl rfl ?_; intro A4 c4 fp4 w4 hs4; (have HS4 := Lib.hid hs4); clear hs4)
        go_ret
        have HE := Pl.insI_at HSO.out HNO.out
        rw [HP.out] at HE
        obtain ⟨q1, q2, q3, q4⟩ := HS4.out.toSep.own0 0 rfl
        rw [List.nil_append, List.append_assoc, List.singleton_append, HE] at q1
        exact ⟨A4, n + 1, c4, fp4, rfl, q1, q2, q3, q4⟩
    · have HP : Hid (Pl.ipos l t = k) := Lib.hid (Pl.ipos_of HSO.out (by rw [HLN.out]; omega) HA.out (fun y hy => by have := (List.getElem?_eq_some_iff.1 hy).1; rw [HLN.out] at this; omega))
      have f2 : decide (k < n) = false := by simpa using hlt
      obtain rfl : k = n := by omega
      have hkn : k ≤ k := Nat.le_refl _
      have hcn : k ≤ c := HCC.out.1
      have hcm : c ≤ 9223372036854775807 := by have := HCC.out.2.1; unfold maxLen at this; omega
      have HT1 := Lib.hid (HL.out.take hkn)
      have HTD : Hid (∀ A c, c ≤ maxLen → (A = none → c = 0) → Mm.SlAt Mm.int w B (l.drop k) A (k - k) c) := Lib.hid (fun A c h1 h2 => by
        rw [List.drop_of_length_le (by rw [HLN.out]; exact Nat.le_refl _), Nat.sub_self]
        exact Mm.SlAt.nil h1 h2)
      have HL1 : Hid (([] ++ l.take k).length = k) := by show _ = _; rw [List.nil_append, List.length_take, HLN.out]; omega
      have HL2 : Hid ((([] ++ l.take k) ++ [t]).length + (k - k) = k + 1) := by show _ = _; rw [List.length_append, HL1.out]; simp
      have hA : Hid (A = none → c = 0) := Lib.hid HCC.out.2.2.1
      have f7 : (k : Int) ≤ (c : Nat) := by omega
      rcases A with _ | a
      · obtain rfl : c = 0 := hA.out rfl
        obtain rfl : k = 0 := by omega
        have HTD := Lib.hid (HTD.out none 0 (Nat.zero_le _) (fun _ => rfl))
        go_wp2_with first
          | (at_builtin; refine Mm.wpList_appMany rfl (.tmp 34) (.tmp 37) 23 rfl Mm.flat_int Mm.flatN_int' i0 _ 8 Try.underlying23 hi hz0 hz1 hz2 rfl KS.out 0 rfl HT1.out (m := 0) (by simp) (by unfold maxLen; omega) (by omega) rfl rfl ?_; intro A2 c2 fp2 w1 hs1; (have HS1 := Lib.hid hs1); (have HT2 := Lib.hid (HTD.out.keep (w' := w1) fun b hb => hs1.bel0.block b (by omega))); clear hs1)
          | (at_builtin; refine Mm.app_list (x := t) HS1.out 0 rfl rfl (.tmp 39) (.tmp 41) 23 rfl i0 _ 8 Try.underlying23 hi hz0 hz1 hz2 rfl (by decide) rfl rfl (fun W => ⟨rfl, HI.out, rfl⟩) HL1.out (by unfold maxLen; omega) (by omega) ?_; intro g cap w' fp' hs; (have HS3 := Lib.hid hs); (have HT3 := Lib.hid (HTD.out.keep (w' := w') fun b hb => hs.bel0.block b (by omega))); clear hs)
          | (at_builtin; refine Mm.wpList_appMany rfl (.tmp 43) (.tmp 46) 23 rfl Mm.flat_int Mm.flatN_int' i0 _ 8 Try.underlying23 hi hz0 hz1 hz2 rfl HS3.out 0 rfl HT3.out (m := 0 + 1) HL2.out (by unfold maxLen; omega) (by omega) rfl rfl ?_; intro A4 c4 fp4 w4 hs4; (have HS4 := Lib.hid hs4); clear hs4)
        go_ret
        have HE := Pl.insI_at HSO.out HNO.out
        rw [HP.out] at HE
        obtain ⟨q1, q2, q3, q4⟩ := HS4.out.toSep.own0 0 rfl
        rw [List.nil_append, List.append_assoc, List.singleton_append, HE] at q1
        exact ⟨A4, 0 + 1, c4, fp4, rfl, q1, q2, q3, q4⟩
      · by_cases f6 : c = k
        · subst f6
          have HTD := Lib.hid (HTD.out (some a) 0 (Nat.zero_le _) (fun h => by cases h))
          rw [Nat.sub_self] at HTD HL2
          go_wp2_with first
            | (at_builtin; refine Mm.wpList_appMany rfl (.tmp 34) (.tmp 37) 23 rfl Mm.flat_int Mm.flatN_int' i0 _ 8 Try.underlying23 hi hz0 hz1 hz2 rfl KS.out 0 rfl HT1.out (m := c) (by simp) (by unfold maxLen; omega) (by omega) rfl rfl ?_; intro A2 c2 fp2 w1 hs1; (have HS1 := Lib.hid hs1); (have HT2 := Lib.hid (HTD.out.keep (w' := w1) fun b hb => hs1.bel0.block b (by omega))); clear hs1)
            | (at_builtin; refine Mm.app_list (x := t) HS1.out 0 rfl rfl (.tmp 39) (.tmp 41) 23 rfl i0 _ 8 Try.underlying23 hi hz0 hz1 hz2 rfl (by decide) rfl rfl (fun W => ⟨rfl, HI.out, rfl⟩) HL1.out (by unfold maxLen; omega) (by omega) ?_; intro g cap w' fp' hs; (have HS3 := Lib.hid hs); (have HT3 := Lib.hid (HTD.out.keep (w' := w') fun b hb => hs.bel0.block b (by omega))); clear hs)
            | (at_builtin; refine Mm.wpList_appMany rfl (.tmp 43) (.tmp 46) 23 rfl Mm.flat_int Mm.flatN_int' i0 _ 8 Try.underlying23 hi hz0 hz1 hz2 rfl HS3.out 0 rfl HT3.out (m := c + 1) HL2.out (by unfold maxLen; omega) (by omega) rfl rfl ?_; intro A4 c4 fp4 w4 hs4; (have HS4 := Lib.hid hs4); clear hs4)
          go_ret
          have HE := Pl.insI_at HSO.out HNO.out
          rw [HP.out] at HE
          obtain ⟨q1, q2, q3, q4⟩ := HS4.out.toSep.own0 0 rfl
          rw [List.nil_append, List.append_assoc, List.singleton_append, HE] at q1
          exact ⟨A4, c + 1, c4, fp4, rfl, q1, q2, q3, q4⟩
        · have HTD := Lib.hid (HTD.out (some (a.add k)) (c - k) (by unfold maxLen; omega) (fun h => by cases h))
          rw [Nat.sub_self] at HTD HL2
          go_wp2_with first
            | (at_builtin; refine Mm.wpList_appMany rfl (.tmp 34) (.tmp 37) 23 rfl Mm.flat_int Mm.flatN_int' i0 _ 8 Try.underlying23 hi hz0 hz1 hz2 rfl KS.out 0 rfl HT1.out (m := k) (by simp) (by unfold maxLen; omega) (by omega) rfl rfl ?_; intro A2 c2 fp2 w1 hs1; (have HS1 := Lib.hid hs1); (have HT2 := Lib.hid (HTD.out.keep (w' := w1) fun b hb => hs1.bel0.block b (by omega))); clear hs1)
            | (at_builtin; refine Mm.app_list (x := t) HS1.out 0 rfl rfl (.tmp 39) (.tmp 41) 23 rfl i0 _ 8 Try.underlying23 hi hz0 hz1 hz2 rfl (by decide) rfl rfl (fun W => ⟨rfl, HI.out, rfl⟩) HL1.out (by unfold maxLen; omega) (by omega) ?_; intro g cap w' fp' hs; (have HS3 := Lib.hid hs); (have HT3 := Lib.hid (HTD.out.keep (w' := w') fun b hb => hs.bel0.block b (by omega))); clear hs)
            | (at_builtin; refine Mm.wpList_appMany rfl (.tmp 43) (.tmp 46) 23 rfl Mm.flat_int Mm.flatN_int' i0 _ 8 Try.underlying23 hi hz0 hz1 hz2 rfl HS3.out 0 rfl HT3.out (m := k + 1) HL2.out (by unfold maxLen; omega) (by omega) rfl rfl ?_; intro A4 c4 fp4 w4 hs4; (have HS4 := Lib.hid hs4); clear hs4)
          go_ret
          have HE := Pl.insI_at HSO.out HNO.out
          rw [HP.out] at HE
          obtain ⟨q1, q2, q3, q4⟩ := HS4.out.toSep.own0 0 rfl
          rw [List.nil_append, List.append_assoc, List.singleton_append, HE] at q1
          exact ⟨A4, k + 1, c4, fp4, rfl, q1, q2, q3, q4⟩
end Go.Proofs.Ytkhchfbpmmiopaa
