/-
  Plain functions on heavy hitters: a name added. No program in sight. No conditions.
-/
import Derived.Test.YtaepohocabealaaPk
import Derived.Shelf.Spec.SearchS
namespace Go.Proofs.Ytaepohocabealaa
namespace Pl
def lessB (x y : ByteArray) : Bool := Op.bytesLess x.toList y.toList
theorem bless_irrefl : ∀ x : List UInt8, Op.bytesLess x x = false
  | [] => rfl
  | a :: t => by rw [Op.bytesLess, bless_irrefl t]; simp
theorem bless_trans : ∀ {x y z : List UInt8}, Op.bytesLess x y = true → Op.bytesLess y z = true → Op.bytesLess x z = true
  | _, [], _, h, _ => by simp [Op.bytesLess] at h
  | _, _ :: _, [], _, h => by simp [Op.bytesLess] at h
  | [], _ :: _, _ :: _, _, _ => rfl
  | a :: x, b :: y, c :: z, h, k => by
    rw [Op.bytesLess] at h k ⊢
    simp only [Bool.or_eq_true, decide_eq_true_eq, Bool.and_eq_true, beq_iff_eq] at h k ⊢
    rcases h with h | ⟨rfl, h⟩
    · rcases k with k | ⟨rfl, k⟩
      · exact .inl (UInt8.lt_trans h k)
      · exact .inl h
    · rcases k with k | ⟨rfl, k⟩
      · exact .inl k
      · exact .inr ⟨rfl, bless_trans h k⟩
theorem bless_total : ∀ {x y : List UInt8}, x ≠ y → Op.bytesLess x y = true ∨ Op.bytesLess y x = true
  | [], [], h => absurd rfl h
  | [], _ :: _, _ => .inl rfl
  | _ :: _, [], _ => .inr rfl
  | a :: x, b :: y, h => by
    rw [Op.bytesLess, Op.bytesLess]
    simp only [Bool.or_eq_true, decide_eq_true_eq, Bool.and_eq_true, beq_iff_eq]
    by_cases hab : a = b
    · subst hab
      have : x ≠ y := fun e => h (by rw [e])
      rcases bless_total this with h1 | h1
      · exact .inl (.inr ⟨rfl, h1⟩)
      · exact .inr (.inr ⟨rfl, h1⟩)
    · rcases Nat.lt_or_gt_of_ne (fun e => hab (UInt8.toNat_inj.1 e)) with h1 | h1
      · exact .inl (.inl h1)
      · exact .inr (.inl h1)
theorem ba_inj {x v : ByteArray} (e : x.toList = v.toList) : x = v := by
  rw [Lib.toList_data, Lib.toList_data] at e
  cases x
  cases v
  exact congrArg ByteArray.mk (Array.toList_inj.1 e)
/-- names in order, then places that are free -/
structure HSort (l : List ByteArray) (m : Nat) : Prop where
  le : m ≤ l.length
  used : ∀ (i : Nat) x, i < m → l[i]? = some x → x.toList ≠ []
  free : ∀ (i : Nat) x, m ≤ i → l[i]? = some x → x.toList = []
  sort : ∀ (i j : Nat) x y, i < j → j < m → l[i]? = some x → l[j]? = some y → lessB x y = true
/-- how many of the names in order are less -/
def posF (l : List ByteArray) (x : ByteArray) : Nat → Nat → Nat
  | 0, k => k
  | f + 1, k => if (strAt l k).toList ≠ [] ∧ lessB (strAt l k) x = true then posF l x f (k + 1) else k
def posN (l : List ByteArray) (x : ByteArray) : Nat := posF l x l.length 0
theorem posF_spec (l : List ByteArray) (x : ByteArray) : ∀ (f k : Nat), k ≤ posF l x f k ∧ posF l x f k ≤ k + f ∧ (∀ t, k ≤ t → t < posF l x f k → (strAt l t).toList ≠ [] ∧ lessB (strAt l t) x = true) ∧ (posF l x f k < k + f → ¬ ((strAt l (posF l x f k)).toList ≠ [] ∧ lessB (strAt l (posF l x f k)) x = true))
  | 0, k => ⟨Nat.le_refl _, Nat.le_refl _, fun t h1 h2 => by simp only [posF] at h2; omega, fun h => by simp only [posF] at h; omega⟩
  | f + 1, k => by
    by_cases hc : (strAt l k).toList ≠ [] ∧ lessB (strAt l k) x = true
    · obtain ⟨h1, h2, h3, h4⟩ := posF_spec l x f (k + 1)
      rw [posF, if_pos hc]
      refine ⟨by omega, by omega, fun t a b => ?_, fun h => h4 (by omega)⟩
      by_cases hk : t = k
      · subst hk; exact hc
      · exact h3 t (by omega) b
    · rw [posF, if_neg hc]
      exact ⟨Nat.le_refl _, by omega, fun t a b => by omega, fun _ => hc⟩
theorem prefix_ex (P : Nat → Prop) : ∀ n, ∃ m, m ≤ n ∧ (∀ i, i < m → P i) ∧ (m = n ∨ ¬ P m)
  | 0 => ⟨0, Nat.le_refl _, fun i h => by omega, .inl rfl⟩
  | n + 1 => by
    obtain ⟨m, h1, h2, h3⟩ := prefix_ex P n
    rcases h3 with rfl | h3
    · by_cases hp : P m
      · exact ⟨m + 1, Nat.le_refl _, fun i hi => by
          by_cases h : i = m
          · subst h; exact hp
          · exact h2 i (by omega), .inl rfl⟩
      · exact ⟨m, by omega, h2, .inr hp⟩
    · exact ⟨m, by omega, h2, .inr h3⟩
def insAt {α : Type} (l : List α) (k : Nat) (x : α) : List α := (l.take k ++ x :: l.drop k).dropLast
/-- what stays when one is taken from each count -/
def lessTo (names : List ByteArray) (counts : List Int) : Nat → List (ByteArray × Int)
  | 0 => []
  | k + 1 => lessTo names counts k ++ if 1 < counts.getD k 0 then [(strAt names k, counts.getD k 0 - 1)] else []
theorem lessTo_len (names : List ByteArray) (counts : List Int) : ∀ k, (lessTo names counts k).length ≤ k
  | 0 => by simp [lessTo]
  | k + 1 => by
    have := lessTo_len names counts k
    rw [lessTo, List.length_append]
    split <;> simp <;> omega
def hless (h : Heavy) : Heavy :=
  ⟨(lessTo h.Names h.Counts h.Names.length).map (·.1) ++ List.replicate (h.Names.length - (lessTo h.Names h.Counts h.Names.length).length) ⟨#[]⟩,
   (lessTo h.Names h.Counts h.Names.length).map (·.2) ++ List.replicate (h.Names.length - (lessTo h.Names h.Counts h.Names.length).length) 0, h.Gone + 1, h.Total + 1⟩
def hadd (h : Heavy) (x : ByteArray) : Heavy :=
  if 0 ≤ idx h.Names x then ⟨h.Names, h.Counts.set (idx h.Names x).toNat (h.Counts.getD (idx h.Names x).toNat 0 + 1), h.Gone, h.Total + 1⟩
  else if (strAt h.Names (h.Names.length - 1)).toList ≠ [] then hless h
  else ⟨insAt h.Names (posN h.Names x) x, insAt h.Counts (posN h.Names x) 1, h.Gone, h.Total + 1⟩
section
variable {l : List ByteArray} {m : Nat} {x : ByteArray}
theorem HSort.of_ok {h : Heavy} (hk : heavyOk h = true) : ∃ m, HSort h.Names m := by
  obtain ⟨⟨_, _⟩, hcl, _, _, hs, _⟩ := heavyOk_iff.1 hk
  -- a name that is not free has one that is not free, and less, ahead of it
  have hstep : ∀ (i : Nat) (x : ByteArray), h.Names[i + 1]? = some x → x.toList ≠ [] → ∃ z, h.Names[i]? = some z ∧ z.toList ≠ [] ∧ lessB z x = true := fun i x hx hn => by
    have hi := (List.getElem?_eq_some_iff.1 hx).1
    have hz := List.getElem?_eq_getElem (show i < h.Names.length by omega)
    have hy := List.getElem?_eq_getElem (show i + 1 < h.Counts.length by omega)
    have h1 := hs (i + 1) hi
    rw [slotOk_of hx hy (by rw [Nat.add_sub_cancel]; exact hz)] at h1
    unfold slotP at h1
    rw [if_neg hn] at h1
    simp only [Bool.and_eq_true, Bool.or_eq_true, decide_eq_true_eq] at h1
    rcases h1.2 with h2 | h2
    · omega
    · exact ⟨_, hz, by simpa using h2.2, h2.1⟩
  have hdown : ∀ (d i : Nat) (x : ByteArray), h.Names[i + d]? = some x → x.toList ≠ [] → ∃ z, h.Names[i]? = some z ∧ z.toList ≠ [] ∧ (0 < d → lessB z x = true) := by
    intro d
    induction d with
    | zero => intro i x hx hn; exact ⟨x, hx, hn, fun h => by omega⟩
    | succ d ih =>
      intro i x hx hn
      obtain ⟨y, hy, hyn, hyx⟩ := hstep (i + d) x (by rw [← hx]; rfl) hn
      obtain ⟨z, hz, hzn, hzy⟩ := ih i y hy hyn
      refine ⟨z, hz, hzn, fun _ => ?_⟩
      rcases Nat.eq_zero_or_pos d with hd | hd
      · subst hd
        rw [Nat.add_zero, hz] at hy
        injection hy with hy
        subst hy
        exact hyx
      · exact bless_trans (hzy hd) hyx
  obtain ⟨m, h1, h2, h3⟩ := prefix_ex (fun i => ∀ x, h.Names[i]? = some x → x.toList ≠ []) h.Names.length
  refine ⟨m, h1, fun i x hi hx => h2 i hi x hx, fun i x hi hx => ?_, fun i j x y hij hj hx hy => ?_⟩
  · apply Classical.byContradiction
    intro hn
    have hil := (List.getElem?_eq_some_iff.1 hx).1
    rcases h3 with rfl | h3
    · omega
    · apply h3
      intro z hz
      obtain ⟨z', hz', hzn, _⟩ := hdown (i - m) m x (by rw [show m + (i - m) = i by omega]; exact hx) hn
      rw [hz] at hz'
      injection hz' with hz'
      rw [hz']; exact hzn
  · obtain ⟨z, hz, _, hzy⟩ := hdown (j - i) i y (by rw [show i + (j - i) = j by omega]; exact hy) (h2 j hj y hy)
    rw [hx] at hz
    injection hz with hz
    rw [hz]; exact hzy (by omega)
theorem HSort.at_ (h : HSort l m) {i : Nat} (hi : i < m) : ∃ y, l[i]? = some y ∧ strAt l i = y ∧ y.toList ≠ [] := by
  have hy := List.getElem?_eq_getElem (show i < l.length by have := h.le; omega)
  exact ⟨_, hy, strAt_of hy, h.used i _ hi hy⟩
/-- where the name belongs, among the used places -/
theorem HSort.pos (h : HSort l m) (x : ByteArray) : posN l x ≤ m ∧ (∀ t, t < posN l x → lessB (strAt l t) x = true) ∧ (∀ t, posN l x ≤ t → t < m → lessB (strAt l t) x = false) := by
  obtain ⟨_, h2, h3, h4⟩ := posF_spec l x l.length 0
  have hle : posN l x ≤ m := by
    rcases Nat.lt_or_ge m (posN l x) with hlt | hge
    · have hc := h3 m (Nat.zero_le _) hlt
      have hm : m < l.length := by unfold posN at hlt; omega
      exact absurd (h.free m _ (Nat.le_refl _) (List.getElem?_eq_getElem hm)) (by rw [← strAt_of (List.getElem?_eq_getElem hm)]; exact hc.1)
    · exact hge
  refine ⟨hle, fun t ht => (h3 t (Nat.zero_le _) ht).2, fun t ht htm => ?_⟩
  have hlen := h.le
  have hp : posN l x < m := by omega
  obtain ⟨y, hy, hys, hyn⟩ := h.at_ hp
  have hnp : lessB (strAt l (posN l x)) x = false := by
    have := h4 (by show posN l x < 0 + l.length; omega)
    change ¬ ((strAt l (posN l x)).toList ≠ [] ∧ lessB (strAt l (posN l x)) x = true) at this
    cases hb : lessB (strAt l (posN l x)) x
    · rfl
    · exact absurd ⟨by rw [hys]; exact hyn, hb⟩ this
  rcases Nat.eq_or_lt_of_le ht with rfl | hlt
  · exact hnp
  · obtain ⟨z, hz, hzs, _⟩ := h.at_ htm
    have hs := h.sort _ t y z hlt htm hy hz
    cases hb : lessB (strAt l t) x
    · rfl
    · rw [hzs] at hb
      rw [hys] at hnp
      have := bless_trans hs hb
      unfold lessB at hnp
      rw [hnp] at this
      cases this
theorem idxFrom_eq {v : ByteArray} {i : Nat} (hi : strAt l i = v) : ∀ (f k : Nat), k ≤ i → i < k + f → (∀ t, k ≤ t → t < i → strAt l t ≠ v) → idxFrom l v f k = i
  | 0, k, h1, h2, _ => by omega
  | f + 1, k, h1, h2, h3 => by
    rw [idxFrom]
    by_cases hk : strAt l k = v
    · rw [if_pos hk]
      by_cases hki : k = i
      · rw [hki]
      · exact absurd hk (h3 k (Nat.le_refl _) (by omega))
    · rw [if_neg hk]
      have : k ≠ i := fun e => hk (e ▸ hi)
      exact idxFrom_eq hi f (k + 1) (by omega) (by omega) fun t a b => h3 t (by omega) b
theorem idxFrom_none {v : ByteArray} : ∀ (f k : Nat), (∀ t, k ≤ t → t < k + f → strAt l t ≠ v) → idxFrom l v f k = -1
  | 0, _, _ => rfl
  | f + 1, k, h => by
    rw [idxFrom, if_neg (h k (Nat.le_refl _) (by omega))]
    exact idxFrom_none f (k + 1) fun t a b => h t (by omega) (by omega)
/-- what binary search finds -/
theorem HSort.found (h : HSort l m) {x : ByteArray} (hx : x.toList ≠ []) : (posN l x < m ∧ strAt l (posN l x) = x ∧ idx l x = posN l x) ∨ ((posN l x < m → strAt l (posN l x) ≠ x) ∧ idx l x = -1) := by
  obtain ⟨hp, hlt, hge⟩ := h.pos x
  have hlen := h.le
  have hne : ∀ {y : ByteArray}, lessB y x = true → y ≠ x := fun hy e => by
    subst e
    unfold lessB at hy
    rw [bless_irrefl] at hy
    cases hy
  by_cases hA : ∃ i, i < m ∧ strAt l i = x
  · obtain ⟨i, him, hix⟩ := hA
    have h1 : posN l x ≤ i := by
      rcases Nat.lt_or_ge i (posN l x) with h1 | h1
      · exact absurd hix (hne (hlt i h1))
      · exact h1
    have h2 : posN l x = i := by
      rcases Nat.eq_or_lt_of_le h1 with h2 | h2
      · exact h2
      · exfalso
        obtain ⟨y, hy, hys, _⟩ := h.at_ (show posN l x < m by omega)
        obtain ⟨z, hz, hzs, _⟩ := h.at_ him
        have h3 := h.sort _ i y z h2 him hy hz
        have h4 := hge (posN l x) (Nat.le_refl _) (by omega)
        rw [hys] at h4
        rw [← hzs, hix] at h3
        rw [h3] at h4
        cases h4
    refine .inl ⟨by omega, by rw [h2]; exact hix, ?_⟩
    rw [h2]
    exact idxFrom_eq hix _ 0 (Nat.zero_le _) (by omega) fun t _ b => hne (hlt t (by omega))
  · refine .inr ⟨fun h1 e => hA ⟨_, h1, e⟩, idxFrom_none _ 0 fun t _ b e => ?_⟩
    rcases Nat.lt_or_ge t m with h1 | h1
    · exact hA ⟨t, h1, e⟩
    · apply hx
      have hy := List.getElem?_eq_getElem (show t < l.length by omega)
      rw [← e, strAt_of hy]
      exact h.free t _ h1 hy
theorem HSort.full (h : HSort l m) (h0 : 0 < l.length) : (strAt l (l.length - 1)).toList ≠ [] ↔ m = l.length := by
  have hy := List.getElem?_eq_getElem (show l.length - 1 < l.length by omega)
  have hlen := h.le
  rw [strAt_of hy]
  constructor
  · intro hn
    apply Classical.byContradiction
    intro hm
    exact hn (h.free _ _ (by omega) hy)
  · intro hm
    exact h.used _ _ (by omega) hy
/-- where the first free place is -/
theorem HSort.idx_free (h : HSort l m) : idx l ⟨#[]⟩ = if m < l.length then (m : Int) else -1 := by
  have hne : ∀ t, t < m → strAt l t ≠ ⟨#[]⟩ := fun t ht e => by
    obtain ⟨y, _, hys, hyn⟩ := h.at_ ht
    rw [hys] at e
    subst e
    exact hyn (by rw [Lib.toList_data])
  split
  · rename_i hm
    have hy := List.getElem?_eq_getElem hm
    have he : strAt l m = ⟨#[]⟩ := by
      rw [strAt_of hy]
      exact ba_inj (by rw [h.free m _ (Nat.le_refl _) hy, Lib.toList_data])
    exact idxFrom_eq he _ 0 (Nat.zero_le _) (by omega) fun t _ b => hne t b
  · rename_i hm
    have hlen := h.le
    exact idxFrom_none _ 0 fun t _ b => hne t (by omega)
theorem insAt_len {β : Type} (l : List β) (k : Nat) (x : β) (hk : k ≤ l.length) : (insAt l k x).length = l.length := by
  unfold insAt
  rw [List.length_dropLast, List.length_append, List.length_cons, List.length_take, List.length_drop]
  omega
theorem insAt_get {β : Type} (l : List β) (k : Nat) (x : β) (hk : k ≤ l.length) (j : Nat) : (insAt l k x)[j]? = if l.length ≤ j then none else if j < k then l[j]? else if j = k then some x else l[j - 1]? := by
  unfold insAt
  rw [List.getElem?_dropLast]
  have hl : (l.take k ++ x :: l.drop k).length - 1 = l.length := by
    rw [List.length_append, List.length_cons, List.length_take, List.length_drop]; omega
  rw [hl]
  by_cases h1 : l.length ≤ j
  · rw [if_pos h1, if_neg (by omega)]
  · rw [if_neg h1, if_pos (by omega)]
    by_cases h2 : j < k
    · rw [if_pos h2, List.getElem?_append_left (by rw [List.length_take]; omega), List.getElem?_take, if_pos h2]
    · rw [if_neg h2, List.getElem?_append_right (by rw [List.length_take]; omega), List.length_take]
      by_cases h3 : j = k
      · rw [if_pos h3, h3, show k - min k l.length = 0 by omega]; rfl
      · rw [if_neg h3, show j - min k l.length = (j - 1 - k) + 1 by omega, List.getElem?_cons_succ, List.getElem?_drop]
        congr 1; omega
theorem insAt_map {β γ : Type} (f : β → γ) (l : List β) (k : Nat) (x : β) : (insAt l k x).map f = insAt (l.map f) k (f x) := by
  unfold insAt
  rw [List.map_dropLast, List.map_append, List.map_cons, List.map_take, List.map_drop]
theorem insAt_mem {β : Type} {l : List β} {k : Nat} {x y : β} (h : y ∈ insAt l k x) : y ∈ l ∨ y = x := by
  unfold insAt at h
  have h := List.dropLast_subset _ h
  rcases List.mem_append.1 h with h | h
  · exact .inl (List.mem_of_mem_take h)
  · rcases List.mem_cons.1 h with h | h
    · exact .inr h
    · exact .inl (List.mem_of_mem_drop h)
/-- all behind place i moved on by one -/
def shf {β : Type} (l : List β) (i : Nat) : List β := l.take (i + 1) ++ (l.drop i).dropLast
theorem shf_get {β : Type} (l : List β) (i : Nat) (hi : i < l.length) (j : Nat) : (shf l i)[j]? = if l.length ≤ j then none else if j ≤ i then l[j]? else l[j - 1]? := by
  unfold shf
  by_cases h1 : j ≤ i
  · rw [if_neg (by omega), if_pos h1, List.getElem?_append_left (by rw [List.length_take]; omega), List.getElem?_take, if_pos (by omega)]
  · rw [List.getElem?_append_right (by rw [List.length_take]; omega), List.length_take, List.getElem?_dropLast, List.length_drop]
    by_cases h2 : l.length ≤ j
    · rw [if_pos h2, if_neg (by omega)]
    · rw [if_neg h2, if_neg h1, if_pos (by omega), List.getElem?_drop]
      congr 1; omega
theorem shf_len {β : Type} (l : List β) (i : Nat) (hi : i < l.length) : (shf l i).length = l.length := by
  unfold shf
  rw [List.length_append, List.length_dropLast, List.length_take, List.length_drop]; omega
theorem shf_start {β : Type} (l : List β) (h0 : 0 < l.length) : shf l (l.length - 1) = l := by
  apply List.ext_getElem?
  intro j
  rw [shf_get _ _ (by omega)]
  by_cases h1 : l.length ≤ j
  · rw [if_pos h1, List.getElem?_eq_none h1]
  · rw [if_neg h1, if_pos (by omega)]
theorem shf_prev {β : Type} {l : List β} {i : Nat} (hi : i < l.length) (h0 : 0 < i) : (shf l i)[i - 1]? = l[i - 1]? := by
  rw [shf_get _ _ hi, if_neg (by omega), if_pos (by omega)]
theorem shf_next {β : Type} {l : List β} {i : Nat} {y : β} (hi : i < l.length) (h0 : 0 < i) (hy : l[i - 1]? = some y) : (shf l i).set i y = shf l (i - 1) := by
  apply List.ext_getElem?
  intro j
  by_cases hj : i = j
  · subst hj
    rw [List.getElem?_set_self (by rw [shf_len _ _ hi]; exact hi), shf_get _ _ (by omega), if_neg (by omega), if_neg (by omega), hy]
  · rw [List.getElem?_set_ne hj, shf_get _ _ hi, shf_get _ _ (by omega)]
    by_cases h1 : l.length ≤ j
    · rw [if_pos h1, if_pos h1]
    · rw [if_neg h1, if_neg h1]
      by_cases h2 : j ≤ i - 1
      · rw [if_pos h2, if_pos (by omega)]
      · rw [if_neg h2, if_neg (by omega)]
theorem shf_done {β : Type} {l : List β} {k : Nat} {x : β} (hk : k < l.length) : (shf l k).set k x = insAt l k x := by
  apply List.ext_getElem?
  intro j
  rw [insAt_get _ _ _ (by omega)]
  by_cases hj : k = j
  · subst hj
    rw [List.getElem?_set_self (by rw [shf_len _ _ hk]; exact hk), if_neg (by omega), if_neg (by omega), if_pos rfl]
  · rw [List.getElem?_set_ne hj, shf_get _ _ hk]
    by_cases h1 : l.length ≤ j
    · rw [if_pos h1, if_pos h1]
    · rw [if_neg h1, if_neg h1]
      by_cases h2 : j < k
      · rw [if_pos h2, if_pos (by omega)]
      · rw [if_neg h2, if_neg (by omega), if_neg (by omega)]
/-- what holds of a summary while it is fed -/
structure HIn (h : Heavy) (b : Int) : Prop where
  pl : 1 ≤ h.Names.length ∧ h.Names.length ≤ 6
  cl : h.Counts.length = h.Names.length
  so : ∃ m, HSort h.Names m
  cb : ∀ (i : Nat) y, h.Counts[i]? = some y → 0 ≤ y ∧ y ≤ b
  gb : 0 ≤ h.Gone ∧ h.Gone ≤ b
  tb : 0 ≤ h.Total ∧ h.Total ≤ b
theorem HIn.of_ok {h : Heavy} (hk : heavyOk h = true) : HIn h 1000000 := by
  have hs := HSort.of_ok hk
  obtain ⟨h1, h2, h3, h4, h5, _⟩ := heavyOk_iff.1 hk
  refine ⟨by omega, h2, hs, fun i y hy => ?_, by omega, by omega⟩
  have hi := (List.getElem?_eq_some_iff.1 hy).1
  have := slotP_bd (h5 i (by omega))
  rw [getD_of hy] at this
  omega
theorem HSort.ins {l : List ByteArray} {m : Nat} {x : ByteArray} (h : HSort l m) (hm : m < l.length) (hx : x.toList ≠ []) (hn : posN l x < m → strAt l (posN l x) ≠ x) : HSort (insAt l (posN l x) x) (m + 1) := by
  obtain ⟨hp, hlt, hge⟩ := h.pos x
  have hg := insAt_get l (posN l x) x (by omega)
  refine ⟨by rw [insAt_len _ _ _ (by omega)]; omega, fun i y hi hy => ?_, fun i y hi hy => ?_, fun i j y z hij hj hy hz => ?_⟩
  · rw [hg] at hy
    split at hy
    · cases hy
    · split at hy
      · exact h.used i y (by omega) hy
      · split at hy
        · injection hy with hy; subst hy; exact hx
        · exact h.used (i - 1) y (by omega) hy
  · rw [hg] at hy
    split at hy
    · cases hy
    · rw [if_neg (by omega), if_neg (by omega)] at hy
      exact h.free (i - 1) y (by omega) hy
  · rw [hg] at hy hz
    rw [if_neg (by omega)] at hy hz
    by_cases h1 : j < posN l x
    · rw [if_pos (by omega)] at hy
      rw [if_pos h1] at hz
      exact h.sort i j y z hij (by omega) hy hz
    · rw [if_neg h1] at hz
      by_cases h2 : j = posN l x
      · rw [if_pos h2] at hz
        injection hz with hz
        rw [if_pos (by omega)] at hy
        have := hlt i (by omega)
        rw [strAt_of hy] at this
        rw [← hz]; exact this
      · rw [if_neg h2] at hz
        by_cases h3 : i < posN l x
        · rw [if_pos h3] at hy
          exact h.sort i (j - 1) y z (by omega) (by omega) hy hz
        · rw [if_neg h3] at hy
          by_cases h4 : i = posN l x
          · rw [if_pos h4] at hy
            injection hy with hy
            subst hy
            have h5 := hge (j - 1) (by omega) (by omega)
            rw [strAt_of hz] at h5
            have h6 : z ≠ x := fun e => by
              rcases Nat.eq_or_lt_of_le (show posN l x ≤ j - 1 by omega) with h7 | h7
              · exact hn (by omega) (by rw [h7, strAt_of hz]; exact e)
              · obtain ⟨u, hu, hus, _⟩ := h.at_ (show posN l x < m by omega)
                have h8 := h.sort _ (j - 1) u z h7 (by omega) hu hz
                have h9 := hge (posN l x) (Nat.le_refl _) (by omega)
                rw [hus] at h9
                rw [e, h9] at h8
                cases h8
            rcases bless_total (fun e => h6 (ba_inj e)) with h7 | h7
            · unfold lessB at h5; rw [h7] at h5; cases h5
            · exact h7
          · rw [if_neg h4] at hy
            exact h.sort (i - 1) (j - 1) y z (by omega) (by omega) hy hz
theorem lessTo_sub (names : List ByteArray) (counts : List Int) : ∀ k, k ≤ names.length → ((lessTo names counts k).map (·.1)).Sublist (names.take k)
  | 0, _ => by simp [lessTo]
  | k + 1, hk => by
    have ih := lessTo_sub names counts k (by omega)
    rw [lessTo, List.map_append, List.take_succ_eq_append_getElem (by omega)]
    refine ih.append ?_
    split
    · rw [List.map_cons, List.map_nil, strAt_of (List.getElem?_eq_getElem (show k < names.length by omega))]
      exact List.Sublist.refl _
    · exact List.nil_sublist _
theorem lessTo_bd {names : List ByteArray} {counts : List Int} {b : Int} (hb : ∀ (i : Nat) y, counts[i]? = some y → 0 ≤ y ∧ y ≤ b) : ∀ k, ∀ p, p ∈ lessTo names counts k → 0 ≤ p.2 ∧ p.2 ≤ b
  | 0, p, hp => by simp [lessTo] at hp
  | k + 1, p, hp => by
    rw [lessTo] at hp
    rcases List.mem_append.1 hp with hp | hp
    · exact lessTo_bd hb k p hp
    · split at hp
      · rename_i h1
        rw [List.mem_singleton.1 hp]
        show 0 ≤ counts.getD k 0 - 1 ∧ counts.getD k 0 - 1 ≤ b
        cases hc : counts[k]? with
        | none => rw [List.getD_eq_getElem?_getD, hc] at h1; simp at h1
        | some y => rw [getD_of hc] at h1 ⊢; have := hb k y hc; omega
      · cases hp
theorem hless_len (h : Heavy) : (hless h).Names.length = h.Names.length ∧ (hless h).Counts.length = h.Names.length := by
  have := lessTo_len h.Names h.Counts h.Names.length
  unfold hless
  simp only [List.length_append, List.length_map, List.length_replicate]
  omega
theorem hless_in {h : Heavy} {b : Int} (hi : HIn h b) (hf : HSort h.Names h.Names.length) : HIn (hless h) (b + 1) := by
  have hl := lessTo_len h.Names h.Counts h.Names.length
  have hlen := hless_len h
  have h1 := hi.pl; have h2 := hi.gb; have h3 := hi.tb
  refine ⟨by rw [hlen.1]; exact hi.pl, by rw [hlen.1]; exact hlen.2, ⟨(lessTo h.Names h.Counts h.Names.length).length, ?_⟩, fun i y hy => ?_, ?_, ?_⟩
  · have hsub := lessTo_sub h.Names h.Counts h.Names.length (Nat.le_refl _)
    rw [List.take_length] at hsub
    have hpw : h.Names.Pairwise (fun x y => lessB x y = true) := by
      rw [List.pairwise_iff_getElem]
      intro i j hi' hj hij
      exact hf.sort i j _ _ hij hj (List.getElem?_eq_getElem hi') (List.getElem?_eq_getElem hj)
    have hpl := hpw.sublist hsub
    have hne : ∀ y ∈ (lessTo h.Names h.Counts h.Names.length).map (·.1), y.toList ≠ [] := fun y hy => by
      have hy := hsub.subset hy
      obtain ⟨i, hi', rfl⟩ := List.mem_iff_getElem.1 hy
      exact hf.used i _ hi' (List.getElem?_eq_getElem hi')
    have hml : ((lessTo h.Names h.Counts h.Names.length).map (·.1)).length = (lessTo h.Names h.Counts h.Names.length).length := by simp
    refine ⟨by rw [hlen.1]; exact hl, fun i y hi' hy => ?_, fun i y hi' hy => ?_, fun i j y z hij hj hy hz => ?_⟩
    · unfold hless at hy
      dsimp only at hy
      rw [List.getElem?_append_left (by rw [hml]; exact hi')] at hy
      exact hne y (List.mem_of_getElem? hy)
    · unfold hless at hy
      dsimp only at hy
      rw [List.getElem?_append_right (by rw [hml]; exact hi'), List.getElem?_replicate] at hy
      split at hy
      · injection hy with hy
        rw [← hy, Lib.toList_data]
      · cases hy
    · unfold hless at hy hz
      dsimp only at hy hz
      rw [List.getElem?_append_left (by rw [hml]; omega)] at hy hz
      obtain ⟨a1, a2⟩ := List.getElem?_eq_some_iff.1 hy
      obtain ⟨b1, b2⟩ := List.getElem?_eq_some_iff.1 hz
      rw [← a2, ← b2]
      exact List.pairwise_iff_getElem.1 hpl i j a1 b1 hij
  · unfold hless at hy
    dsimp only at hy
    have hm := List.mem_of_getElem? hy
    rcases List.mem_append.1 hm with hm | hm
    · obtain ⟨p, hp, rfl⟩ := List.mem_map.1 hm
      have := lessTo_bd hi.cb _ p hp
      omega
    · rw [(List.mem_replicate.1 hm).2]; omega
  · show 0 ≤ h.Gone + 1 ∧ h.Gone + 1 ≤ b + 1; omega
  · show 0 ≤ h.Total + 1 ∧ h.Total + 1 ≤ b + 1; omega
theorem hadd_in {h : Heavy} {b : Int} {x : ByteArray} (hi : HIn h b) (hx : x.toList ≠ []) : HIn (hadd h x) (b + 1) := by
  obtain ⟨m, hs⟩ := hi.so
  have h1 := hi.pl; have h2 := hi.gb; have h3 := hi.tb
  have hlen := hs.le
  unfold hadd
  by_cases hf : 0 ≤ idx h.Names x
  · rw [if_pos hf]
    refine ⟨hi.pl, by rw [List.length_set]; exact hi.cl, ⟨m, hs⟩, fun i y hy => ?_, by show 0 ≤ h.Gone ∧ h.Gone ≤ b + 1; omega, by show 0 ≤ h.Total + 1 ∧ h.Total + 1 ≤ b + 1; omega⟩
    dsimp only at hy
    have hbd := idx_bd (l := h.Names) (v := x)
    by_cases he : (idx h.Names x).toNat = i
    · subst he
      rw [List.getElem?_set_self (by rw [hi.cl]; omega)] at hy
      injection hy with hy
      obtain ⟨z, hz⟩ : ∃ z, h.Counts[(idx h.Names x).toNat]? = some z := ⟨_, List.getElem?_eq_getElem (by rw [hi.cl]; omega)⟩
      rw [getD_of hz] at hy
      have := hi.cb _ z hz
      omega
    · rw [List.getElem?_set_ne he] at hy
      have := hi.cb _ y hy
      omega
  · rw [if_neg hf]
    by_cases hu : (strAt h.Names (h.Names.length - 1)).toList ≠ []
    · rw [if_pos hu]
      have hm := (hs.full (by omega)).1 hu
      subst hm
      exact hless_in hi hs
    · rw [if_neg hu]
      have hm : m < h.Names.length := by
        rcases Nat.lt_or_ge m h.Names.length with h4 | h4
        · exact h4
        · exact absurd ((hs.full (by omega)).2 (by omega)) hu
      have hp := (hs.pos x).1
      have hn : posN h.Names x < m → strAt h.Names (posN h.Names x) ≠ x := by
        rcases hs.found hx with h4 | h4
        · exact absurd (by rw [h4.2.2]; omega) hf
        · exact h4.1
      refine ⟨by show 1 ≤ (insAt _ _ _).length ∧ _; rw [insAt_len _ _ _ (by omega)]; exact hi.pl, by show (insAt _ _ _).length = (insAt _ _ _).length; rw [insAt_len _ _ _ (by rw [hi.cl]; omega), insAt_len _ _ _ (by omega)]; exact hi.cl, ⟨m + 1, hs.ins hm hx hn⟩, fun i y hy => ?_, by show 0 ≤ h.Gone ∧ h.Gone ≤ b + 1; omega, by show 0 ≤ h.Total + 1 ∧ h.Total + 1 ≤ b + 1; omega⟩
      rcases insAt_mem (List.mem_of_getElem? hy) with h4 | h4
      · obtain ⟨j, hj⟩ := List.mem_iff_getElem?.1 h4
        have := hi.cb j y hj
        omega
      · omega
def addHeavy (h : Heavy) (x : ByteArray) : Heavy × Bool :=
  if (heavyOk h && word false x.data.toList) = true then (if heavyOk (hadd h x) = true then (hadd h x, true) else (⟨[], [], 0, 0⟩, false)) else (⟨[], [], 0, 0⟩, false)
/-- names fed one after the other; false where one is none -/
def feedFrom : Heavy → List ByteArray → Heavy × Bool
  | h, [] => (h, true)
  | h, x :: l => if word false x.data.toList = true then feedFrom (hadd h x) l else (⟨[], [], 0, 0⟩, false)
def hv0 (n : Nat) : Heavy := ⟨List.replicate n ⟨#[]⟩, List.replicate n 0, 0, 0⟩
def feedHeavy (n : Int) (l : List ByteArray) : Heavy × Bool :=
  if isIn n 1 6 = true ∧ l.length ≤ 200 then feedFrom (hv0 n.toNat) l else (⟨[], [], 0, 0⟩, false)
theorem hv0_in {n : Nat} (h1 : 1 ≤ n) (h6 : n ≤ 6) : HIn (hv0 n) 0 := by
  refine ⟨by unfold hv0; simp; omega, by unfold hv0; simp, ⟨0, ⟨Nat.zero_le _, fun i x h => by omega, fun i x _ hx => ?_, fun i j x y _ h => by omega⟩⟩, fun i y hy => ?_, by unfold hv0; simp, by unfold hv0; simp⟩
  · unfold hv0 at hx
    dsimp only at hx
    rw [List.getElem?_replicate] at hx
    split at hx
    · injection hx with hx; rw [← hx, Lib.toList_data]
    · cases hx
  · unfold hv0 at hy
    dsimp only at hy
    rw [List.getElem?_replicate] at hy
    split at hy
    · injection hy with hy; omega
    · cases hy
end
end Pl
end Go.Proofs.Ytaepohocabealaa
