/-
  Plain law: what a summary of names says of the names that it was fed (Misra and Gries). No program in sight. No conditions.
-/
import Derived.Test.YtjmcbggdckfefaaPh
namespace Go.Proofs.Ytjmcbggdckfefaa
namespace Pl
def isum : List Int → Int
  | [] => 0
  | x :: t => x + isum t
theorem isum_append : ∀ a b : List Int, isum (a ++ b) = isum a + isum b
  | [], b => by simp [isum]
  | x :: a, b => by rw [List.cons_append, isum, isum, isum_append a b]; omega
theorem isum_rep0 : ∀ n : Nat, isum (List.replicate n 0) = 0
  | 0 => rfl
  | n + 1 => by rw [List.replicate_succ, isum, isum_rep0 n]; rfl
theorem sumTo_take (l : List Int) : ∀ k, sumTo l k = isum (l.take k)
  | 0 => by simp [sumTo, isum]
  | k + 1 => by
    rw [sumTo, sumTo_take l k]
    rcases Nat.lt_or_ge k l.length with h | h
    · rw [List.take_succ_eq_append_getElem h, isum_append, List.getD_eq_getElem?_getD, List.getElem?_eq_getElem h]
      simp [isum]
    · rw [List.take_of_length_le h, List.take_of_length_le (by omega), List.getD_eq_getElem?_getD, List.getElem?_eq_none h]
      simp
theorem sum_isum (l : List Int) : sum l = isum l := by unfold sum; rw [sumTo_take, List.take_length]
theorem isum_set : ∀ {l : List Int} {i : Nat} {y z : Int}, l[i]? = some y → isum (l.set i z) = isum l - y + z
  | [], i, y, z, h => by simp at h
  | x :: t, 0, y, z, h => by simp at h; subst h; rw [List.set_cons_zero, isum, isum]; omega
  | x :: t, i + 1, y, z, h => by rw [List.set_cons_succ, isum, isum, isum_set (l := t) (by simpa using h)]; omega
theorem insAt_last {α : Type} {l : List α} {k : Nat} {x : α} (hk : k < l.length) : insAt l k x = l.dropLast.take k ++ x :: l.dropLast.drop k := by
  have hne : l ≠ [] := fun e => by subst e; simp at hk
  have hlen : l.dropLast.length = l.length - 1 := List.length_dropLast
  obtain ⟨z, hz⟩ : ∃ z, l = l.dropLast ++ [z] := ⟨l.getLast hne, (List.dropLast_concat_getLast hne).symm⟩
  unfold insAt
  conv => lhs; rw [hz]
  rw [List.take_append_of_le_length (by omega), List.drop_append_of_le_length (by omega), ← List.cons_append, ← List.append_assoc, List.dropLast_concat]
theorem isum_ins {l : List Int} {k : Nat} {x : Int} (hk : k < l.length) (hz : l[l.length - 1]? = some 0) : isum (insAt l k x) = isum l + x := by
  have hne : l ≠ [] := fun e => by subst e; simp at hk
  have hl : l.getLast hne = 0 := by
    rw [List.getLast_eq_getElem]
    rw [List.getElem?_eq_getElem (by omega)] at hz
    injection hz
  have h1 : isum l = isum l.dropLast := by
    conv => lhs; rw [← List.dropLast_concat_getLast hne]
    rw [isum_append, hl]; simp [isum]
  have h2 : isum l.dropLast = isum (l.dropLast.take k) + isum (l.dropLast.drop k) := by rw [← isum_append, List.take_append_drop]
  rw [insAt_last hk, isum_append, isum, h1, h2]; omega
theorem lessTo_sum {names : List ByteArray} {counts : List Int} : ∀ k, (∀ i, i < k → ∃ y, counts[i]? = some y ∧ 1 ≤ y) → isum ((lessTo names counts k).map (·.2)) = sumTo counts k - k
  | 0, _ => by simp [lessTo, sumTo, isum]
  | k + 1, h => by
    obtain ⟨y, hy, h1⟩ := h k (by omega)
    rw [lessTo, List.map_append, isum_append, lessTo_sum k (fun i hi => h i (by omega)), sumTo, getD_of hy]
    split
    · simp [isum]; omega
    · simp [isum]; omega
theorem lessTo_mem {names : List ByteArray} {counts : List Int} : ∀ {k : Nat} {p : ByteArray × Int}, p ∈ lessTo names counts k ↔ ∃ i, i < k ∧ 1 < counts.getD i 0 ∧ p = (strAt names i, counts.getD i 0 - 1)
  | 0, p => by simp [lessTo]
  | k + 1, p => by
    rw [lessTo, List.mem_append, lessTo_mem]
    constructor
    · rintro (⟨i, h1, h2, h3⟩ | h)
      · exact ⟨i, by omega, h2, h3⟩
      · split at h
        · rename_i h1
          exact ⟨k, by omega, h1, List.mem_singleton.1 h⟩
        · cases h
    · rintro ⟨i, h1, h2, h3⟩
      by_cases hik : i = k
      · subst hik
        rw [if_pos h2]
        exact .inr (by rw [h3]; exact List.mem_singleton.2 rfl)
      · exact .inl ⟨i, by omega, h2, h3⟩
/-- how often a name was told -/
def occ (x : ByteArray) : List ByteArray → Nat
  | [] => 0
  | y :: t => occ x t + if y = x then 1 else 0
theorem occ_append (x : ByteArray) : ∀ a b, occ x (a ++ b) = occ x a + occ x b
  | [], b => by simp [occ]
  | y :: a, b => by rw [List.cons_append, occ, occ, occ_append x a b]; omega
theorem occ_one (x y : ByteArray) : occ x [y] = if y = x then 1 else 0 := by simp [occ]
def HHas (h : Heavy) (x : ByteArray) (y : Int) : Prop := ∃ i : Nat, h.Names[i]? = some x ∧ h.Counts[i]? = some y
/-- what holds of a summary that was fed l -/
structure HFed (p : Nat) (l : List ByteArray) (h : Heavy) : Prop where
  hin : HIn h l.length
  pl : h.Names.length = p
  wd : ∀ (i : Nat) (x : ByteArray), h.Names[i]? = some x → x.toList ≠ [] → word false x.data.toList = true
  cp : ∀ (i : Nat) (x : ByteArray) (y : Int), h.Names[i]? = some x → h.Counts[i]? = some y → (x.toList = [] → y = 0) ∧ (x.toList ≠ [] → 1 ≤ y)
  tot : h.Total = l.length
  sm : isum h.Counts + h.Gone * ((p : Int) + 1) = h.Total
  A : ∀ x y, x.toList ≠ [] → HHas h x y → y ≤ occ x l ∧ (occ x l : Int) ≤ y + h.Gone
  B : ∀ x, x.toList ≠ [] → (∀ y, ¬ HHas h x y) → (occ x l : Int) ≤ h.Gone
theorem HFed.start {p : Nat} (h1 : 1 ≤ p) (h6 : p ≤ 6) : HFed p [] (hv0 p) := by
  have hn : ∀ (i : Nat) (x : ByteArray), (hv0 p).Names[i]? = some x → x.toList = [] := fun i x hx => by
    unfold hv0 at hx
    dsimp only at hx
    rw [List.getElem?_replicate] at hx
    split at hx
    · injection hx with hx; rw [← hx, Lib.toList_data]
    · cases hx
  refine ⟨hv0_in h1 h6, by unfold hv0; simp, fun i x hx hne => absurd (hn i x hx) hne, fun i x y hx hy => ⟨fun _ => ?_, fun hne => absurd (hn i x hx) hne⟩, rfl, ?_, fun x y hne hh => (by obtain ⟨i, hx, _⟩ := hh; exact absurd (hn i x hx) hne), fun x _ _ => by unfold hv0; simp [occ]⟩
  · unfold hv0 at hy
    dsimp only at hy
    rw [List.getElem?_replicate] at hy
    split at hy
    · injection hy with hy; omega
    · cases hy
  · unfold hv0
    dsimp only
    rw [isum_rep0]; simp
theorem HSort.inj {l : List ByteArray} {m i j : Nat} {x : ByteArray} (h : HSort l m) (hi : l[i]? = some x) (hj : l[j]? = some x) (hne : x.toList ≠ []) : i = j := by
  have him : i < m := by
    rcases Nat.lt_or_ge i m with h1 | h1
    · exact h1
    · exact absurd (h.free i x h1 hi) hne
  have hjm : j < m := by
    rcases Nat.lt_or_ge j m with h1 | h1
    · exact h1
    · exact absurd (h.free j x h1 hj) hne
  rcases Nat.lt_trichotomy i j with h1 | h1 | h1
  · have := h.sort i j x x h1 hjm hi hj
    unfold lessB at this
    rw [bless_irrefl] at this; cases this
  · exact h1
  · have := h.sort j i x x h1 him hj hi
    unfold lessB at this
    rw [bless_irrefl] at this; cases this
theorem idxFrom_at {l : List ByteArray} {v : ByteArray} : ∀ {f k : Nat}, 0 ≤ idxFrom l v f k → ∃ i : Nat, idxFrom l v f k = i ∧ k ≤ i ∧ i < k + f ∧ strAt l i = v
  | 0, k, h => by simp [idxFrom] at h
  | f + 1, k, h => by
    rw [idxFrom] at h ⊢
    split
    · rename_i he; exact ⟨k, rfl, Nat.le_refl _, by omega, he⟩
    · rename_i he
      rw [if_neg he] at h
      obtain ⟨i, h1, h2, h3, h4⟩ := idxFrom_at h
      exact ⟨i, h1, by omega, by omega, h4⟩
theorem idx_at {l : List ByteArray} {v : ByteArray} (h : 0 ≤ idx l v) : ∃ i : Nat, idx l v = i ∧ i < l.length ∧ l[i]? = some v := by
  obtain ⟨i, h1, _, h3, h4⟩ := idxFrom_at h
  have hi : i < l.length := by omega
  refine ⟨i, h1, hi, ?_⟩
  rw [← h4, strAt_of (List.getElem?_eq_getElem hi)]
  exact List.getElem?_eq_getElem hi
theorem idxFrom_neg {l : List ByteArray} {v : ByteArray} : ∀ {f k : Nat}, ¬ 0 ≤ idxFrom l v f k → ∀ i, k ≤ i → i < k + f → strAt l i ≠ v
  | 0, k, _, i, h1, h2 => by omega
  | f + 1, k, h, i, h1, h2 => by
    rw [idxFrom] at h
    split at h
    · omega
    · rename_i he
      by_cases hik : i = k
      · subst hik; exact he
      · exact idxFrom_neg h i (by omega) (by omega)
theorem idx_neg {l : List ByteArray} {v : ByteArray} (h : ¬ 0 ≤ idx l v) : ∀ i : Nat, l[i]? ≠ some v := fun i hi => by
  have hl := (List.getElem?_eq_some_iff.1 hi).1
  exact idxFrom_neg h i (Nat.zero_le _) (by omega) (strAt_of hi)
section
variable {p : Nat} {l : List ByteArray} {h : Heavy} {x : ByteArray}
theorem occ_snoc (z : ByteArray) : occ z (l ++ [x]) = occ z l + if x = z then 1 else 0 := by rw [occ_append, occ_one]
theorem HFed.step (hf : HFed p l h) (hx : x.toList ≠ []) (hw : word false x.data.toList = true) : HFed p (l ++ [x]) (hadd h x) := by
  have hin' : HIn (hadd h x) ((l ++ [x]).length : Nat) := by
    have := hadd_in hf.hin hx
    rwa [show (((l ++ [x]).length : Nat) : Int) = (l.length : Int) + 1 by simp]
  obtain ⟨m, hs⟩ := hf.hin.so
  have hcl := hf.hin.cl
  have hpl := hf.hin.pl
  have hm := hs.le
  have ht : (h.Total + 1 : Int) = ((l ++ [x]).length : Nat) := by rw [hf.tot]; simp
  have hgo := hf.hin.gb
  revert hin'
  unfold hadd
  by_cases hi : 0 ≤ idx h.Names x
  · rw [if_pos hi]
    obtain ⟨i, e1, e2, e3⟩ := idx_at hi
    rw [e1, Int.toNat_natCast]
    obtain ⟨y, hy⟩ : ∃ y, h.Counts[i]? = some y := ⟨_, List.getElem?_eq_getElem (by omega)⟩
    rw [getD_of hy]
    intro hin'
    have hsub : ∀ z u, z.toList ≠ [] → HHas ⟨h.Names, h.Counts.set i (y + 1), h.Gone, h.Total + 1⟩ z u → (z = x ∧ u = y + 1) ∨ (z ≠ x ∧ HHas h z u) := fun z u hz ⟨j, h1, h2⟩ => by
      dsimp only at h1 h2
      by_cases hji : i = j
      · subst hji
        rw [e3] at h1
        rw [List.getElem?_set_self (by omega)] at h2
        injection h1 with h1; injection h2 with h2
        exact .inl ⟨h1.symm, h2.symm⟩
      · rw [List.getElem?_set_ne hji] at h2
        refine .inr ⟨fun e => hji ?_, j, h1, h2⟩
        subst e
        exact hs.inj e3 h1 hz
    refine ⟨hin', hf.pl, hf.wd, fun j z u h1 h2 => ?_, ht, ?_, fun z u hz hh => ?_, fun z hz hh => ?_⟩
    · dsimp only at h1 h2
      by_cases hji : i = j
      · subst hji
        rw [e3] at h1
        rw [List.getElem?_set_self (by omega)] at h2
        injection h1 with h1; injection h2 with h2
        subst h1; subst h2
        have := (hf.cp i x y e3 hy).2 hx
        exact ⟨fun h => absurd h hx, fun _ => by omega⟩
      · rw [List.getElem?_set_ne hji] at h2
        exact hf.cp j z u h1 h2
    · show isum (h.Counts.set i (y + 1)) + h.Gone * ((p : Int) + 1) = h.Total + 1
      have := hf.sm
      rw [isum_set hy]; omega
    · show u ≤ (occ z (l ++ [x]) : Int) ∧ (occ z (l ++ [x]) : Int) ≤ u + h.Gone
      rw [occ_snoc]
      rcases hsub z u hz hh with ⟨rfl, rfl⟩ | ⟨hne, hh⟩
      · have := hf.A z y hz ⟨i, e3, hy⟩
        rw [if_pos rfl]; omega
      · have := hf.A z u hz hh
        rw [if_neg (Ne.symm hne)]; omega
    · show (occ z (l ++ [x]) : Int) ≤ h.Gone
      rw [occ_snoc]
      by_cases hne : x = z
      · subst hne
        exact absurd ⟨i, e3, by show (h.Counts.set i (y + 1))[i]? = _; rw [List.getElem?_set_self (by omega)]⟩ (hh (y + 1))
      · have := hf.B z hz (fun u ⟨j, h1, h2⟩ => by
          by_cases hji : i = j
          · subst hji
            rw [e3] at h1
            injection h1 with h1
            exact hne h1
          · exact hh u ⟨j, h1, by show (h.Counts.set i (y + 1))[j]? = _; rw [List.getElem?_set_ne hji]; exact h2⟩)
        rw [if_neg hne]; omega
  · rw [if_neg hi]
    have hno := idx_neg hi
    by_cases hu : (strAt h.Names (h.Names.length - 1)).toList ≠ []
    · rw [if_pos hu]
      intro hin'
      have hmm := (hs.full (by omega)).1 hu
      have hall : ∀ i, i < h.Names.length → ∃ z y, h.Names[i]? = some z ∧ h.Counts[i]? = some y ∧ z.toList ≠ [] ∧ 1 ≤ y := fun i hi' => by
        have h1 := List.getElem?_eq_getElem hi'
        have h2 := List.getElem?_eq_getElem (show i < h.Counts.length by omega)
        have h3 := hs.used i _ (by omega) h1
        exact ⟨_, _, h1, h2, h3, (hf.cp i _ _ h1 h2).2 h3⟩
      have hL : (lessTo h.Names h.Counts h.Names.length).length ≤ h.Names.length := lessTo_len _ _ _
      -- what a place of the new one holds
      have hpl' : ∀ (j : Nat) z u, (hless h).Names[j]? = some z → (hless h).Counts[j]? = some u → (z, u) ∈ lessTo h.Names h.Counts h.Names.length ∨ (z.toList = [] ∧ u = 0) := fun j z u h1 h2 => by
        unfold hless at h1 h2
        dsimp only at h1 h2
        by_cases hj : j < (lessTo h.Names h.Counts h.Names.length).length
        · rw [List.getElem?_append_left (by simpa using hj)] at h1 h2
          rw [List.getElem?_map, List.getElem?_eq_getElem hj] at h1 h2
          simp only [Option.map_some, Option.some.injEq] at h1 h2
          left
          rw [← h1, ← h2]
          exact List.getElem_mem hj
        · rw [List.getElem?_append_right (by simpa using hj), List.getElem?_replicate] at h1 h2
          split at h1
          · rename_i hlt
            rw [if_pos (by simpa using hlt)] at h2
            injection h1 with h1; injection h2 with h2
            exact .inr ⟨by rw [← h1, Lib.toList_data], h2.symm⟩
          · cases h1
      have hmem : ∀ z u, (z, u) ∈ lessTo h.Names h.Counts h.Names.length ↔ ∃ i, h.Names[i]? = some z ∧ h.Counts[i]? = some (u + 1) ∧ 1 ≤ u := fun z u => by
        rw [lessTo_mem]
        constructor
        · rintro ⟨i, h1, h2, h3⟩
          obtain ⟨z', y', a1, a2, _, _⟩ := hall i h1
          rw [getD_of a2, strAt_of a1] at h3
          rw [getD_of a2] at h2
          injection h3 with h3 h4
          subst h3
          exact ⟨i, a1, by rw [a2]; congr 1; omega, by omega⟩
        · rintro ⟨i, h1, h2, h3⟩
          have hi' := (List.getElem?_eq_some_iff.1 h1).1
          exact ⟨i, hi', by rw [getD_of h2]; omega, by rw [strAt_of h1, getD_of h2]; congr 1; omega⟩
      have hback : ∀ z u, (z, u) ∈ lessTo h.Names h.Counts h.Names.length → HHas (hless h) z u := fun z u hzu => by
        obtain ⟨j, hj, e⟩ := List.mem_iff_getElem.1 hzu
        refine ⟨j, ?_, ?_⟩
        · show ((lessTo h.Names h.Counts h.Names.length).map (·.1) ++ _)[j]? = _
          rw [List.getElem?_append_left (by simpa using hj), List.getElem?_map, List.getElem?_eq_getElem hj, e]; rfl
        · show ((lessTo h.Names h.Counts h.Names.length).map (·.2) ++ _)[j]? = _
          rw [List.getElem?_append_left (by simpa using hj), List.getElem?_map, List.getElem?_eq_getElem hj, e]; rfl
      refine ⟨hin', (hless_len h).1.trans hf.pl, fun j z h1 hz => ?_, fun j z u h1 h2 => ?_, ht, ?_, fun z u hz hh => ?_, fun z hz hh => ?_⟩
      · obtain ⟨u, hu'⟩ : ∃ u, (hless h).Counts[j]? = some u := ⟨_, List.getElem?_eq_getElem (by
          have := (List.getElem?_eq_some_iff.1 h1).1
          have := hless_len h
          omega)⟩
        rcases hpl' j z u h1 hu' with h3 | h3
        · obtain ⟨i, a1, _⟩ := (hmem z u).1 h3
          exact hf.wd i z a1 hz
        · exact absurd h3.1 hz
      · rcases hpl' j z u h1 h2 with h3 | h3
        · obtain ⟨i, a1, _, a3⟩ := (hmem z u).1 h3
          exact ⟨fun e => absurd e (hs.used i z (by have := (List.getElem?_eq_some_iff.1 a1).1; omega) a1), fun _ => a3⟩
        · exact ⟨fun _ => h3.2, fun hz => absurd h3.1 hz⟩
      · show isum ((lessTo h.Names h.Counts h.Names.length).map (·.2) ++ List.replicate _ 0) + (h.Gone + 1) * ((p : Int) + 1) = h.Total + 1
        rw [isum_append, isum_rep0, lessTo_sum _ (fun i hi' => by obtain ⟨z, y, _, a2, _, a4⟩ := hall i hi'; exact ⟨y, a2, a4⟩), sumTo_take, List.take_of_length_le (by omega)]
        have h1 := hf.sm
        have h2 := hf.pl
        have h3 : (h.Gone + 1) * ((p : Int) + 1) = h.Gone * ((p : Int) + 1) + ((p : Int) + 1) := by rw [Int.add_mul, Int.one_mul]
        omega
      · show u ≤ (occ z (l ++ [x]) : Int) ∧ (occ z (l ++ [x]) : Int) ≤ u + (h.Gone + 1)
        obtain ⟨j, h1, h2⟩ := hh
        rcases hpl' j z u h1 h2 with h3 | h3
        · obtain ⟨i, a1, a2, a3⟩ := (hmem z u).1 h3
          have := hf.A z (u + 1) hz ⟨i, a1, a2⟩
          rw [occ_snoc, if_neg (fun e => by subst e; exact hno i a1)]
          omega
        · exact absurd h3.1 hz
      · show (occ z (l ++ [x]) : Int) ≤ h.Gone + 1
        rw [occ_snoc]
        by_cases hex : ∃ y, HHas h z y
        · obtain ⟨y, i, a1, a2⟩ := hex
          have h1 := hf.A z y hz ⟨i, a1, a2⟩
          have h2 : ¬ 1 < y := fun hy => hh (y - 1) (hback z (y - 1) ((hmem z (y - 1)).2 ⟨i, a1, by rw [a2]; congr 1; omega, by omega⟩))
          rw [if_neg (fun e => by subst e; exact hno i a1)]
          omega
        · have h1 := hf.B z hz (fun y hy => hex ⟨y, hy⟩)
          split <;> omega
    · rw [if_neg hu]
      intro hin'
      have hmm : m < h.Names.length := by
        rcases Nat.lt_or_ge m h.Names.length with h4 | h4
        · exact h4
        · exact absurd ((hs.full (by omega)).2 (by omega)) hu
      obtain ⟨k, hk⟩ : ∃ k, posN h.Names x = k := ⟨_, rfl⟩
      have hkm : k ≤ m := hk ▸ (hs.pos x).1
      rw [hk] at hin' ⊢
      have g1 := fun j => insAt_get h.Names k x (by omega) j
      have g2 := fun j => insAt_get h.Counts k 1 (by omega) j
      have hlast : h.Counts[h.Counts.length - 1]? = some 0 := by
        have h1 := List.getElem?_eq_getElem (show h.Names.length - 1 < h.Names.length by omega)
        have h2 := List.getElem?_eq_getElem (show h.Counts.length - 1 < h.Counts.length by omega)
        have h3 := hs.free _ _ (by omega) h1
        rw [h2]
        congr 1
        exact (hf.cp (h.Names.length - 1) _ _ h1 (by rw [← hcl]; exact h2)).1 h3
      -- what a place of the new one holds
      have hpl' : ∀ (j : Nat) z u, (insAt h.Names k x)[j]? = some z → (insAt h.Counts k 1)[j]? = some u → (z = x ∧ u = 1) ∨ ∃ i, h.Names[i]? = some z ∧ h.Counts[i]? = some u := fun j z u h1 h2 => by
        rw [g1] at h1
        rw [g2] at h2
        by_cases a1 : h.Names.length ≤ j
        · rw [if_pos a1] at h1; cases h1
        · rw [if_neg a1] at h1
          rw [if_neg (by omega)] at h2
          by_cases a2 : j < k
          · rw [if_pos a2] at h1 h2; exact .inr ⟨j, h1, h2⟩
          · rw [if_neg a2] at h1 h2
            by_cases a3 : j = k
            · rw [if_pos a3] at h1 h2
              injection h1 with h1; injection h2 with h2
              exact .inl ⟨h1.symm, h2.symm⟩
            · rw [if_neg a3] at h1 h2; exact .inr ⟨_, h1, h2⟩
      have hback : ∀ z u, z.toList ≠ [] → HHas h z u → HHas ⟨insAt h.Names k x, insAt h.Counts k 1, h.Gone, h.Total + 1⟩ z u := fun z u hz ⟨i, h1, h2⟩ => by
        have him : i < m := by
          rcases Nat.lt_or_ge i m with h4 | h4
          · exact h4
          · exact absurd (hs.free i z h4 h1) hz
        by_cases a2 : i < k
        · refine ⟨i, ?_, ?_⟩
          · show (insAt h.Names k x)[i]? = _
            rw [g1, if_neg (by omega), if_pos a2, h1]
          · show (insAt h.Counts k 1)[i]? = _
            rw [g2, if_neg (by omega), if_pos a2, h2]
        · refine ⟨i + 1, ?_, ?_⟩
          · show (insAt h.Names k x)[i + 1]? = _
            rw [g1, if_neg (by omega), if_neg (by omega), if_neg (by omega)]; exact h1
          · show (insAt h.Counts k 1)[i + 1]? = _
            rw [g2, if_neg (by omega), if_neg (by omega), if_neg (by omega)]; exact h2
      have hnew : HHas ⟨insAt h.Names k x, insAt h.Counts k 1, h.Gone, h.Total + 1⟩ x 1 := ⟨k, by show (insAt h.Names k x)[k]? = _; rw [g1, if_neg (by omega), if_neg (by omega), if_pos rfl], by show (insAt h.Counts k 1)[k]? = _; rw [g2, if_neg (by omega), if_neg (by omega), if_pos rfl]⟩
      refine ⟨hin', by show (insAt h.Names k x).length = p; rw [insAt_len _ _ _ (by omega)]; exact hf.pl, fun j z h1 hz => ?_, fun j z u h1 h2 => ?_, ht, ?_, fun z u hz hh => ?_, fun z hz hh => ?_⟩
      · have h1' : (insAt h.Names k x)[j]? = some z := h1
        rw [g1] at h1'
        split at h1'
        · cases h1'
        · split at h1'
          · exact hf.wd _ z h1' hz
          · split at h1'
            · injection h1' with h3; subst h3; exact hw
            · exact hf.wd _ z h1' hz
      · rcases hpl' j z u h1 h2 with ⟨rfl, rfl⟩ | ⟨i, a1, a2⟩
        · exact ⟨fun e => absurd e hx, fun _ => by omega⟩
        · exact hf.cp i z u a1 a2
      · show isum (insAt h.Counts k 1) + h.Gone * ((p : Int) + 1) = h.Total + 1
        have := hf.sm
        rw [isum_ins (by omega) hlast]; omega
      · show u ≤ (occ z (l ++ [x]) : Int) ∧ (occ z (l ++ [x]) : Int) ≤ u + h.Gone
        obtain ⟨j, h1, h2⟩ := hh
        rw [occ_snoc]
        rcases hpl' j z u h1 h2 with ⟨rfl, rfl⟩ | ⟨i, a1, a2⟩
        · have := hf.B z hz (fun y ⟨i, a1, _⟩ => hno i a1)
          rw [if_pos rfl]; omega
        · have := hf.A z u hz ⟨i, a1, a2⟩
          rw [if_neg (fun e => by subst e; exact hno i a1)]; omega
      · show (occ z (l ++ [x]) : Int) ≤ h.Gone
        rw [occ_snoc]
        by_cases hne : x = z
        · subst hne; exact absurd hnew (hh 1)
        · have := hf.B z hz (fun u hu' => hh u (hback z u hz hu'))
          rw [if_neg hne]; omega
theorem HFed.feed : ∀ (m : List ByteArray) {l : List ByteArray} {h : Heavy}, HFed p l h → (feedFrom h m).2 = true → HFed p (l ++ m) (feedFrom h m).1
  | [], l, h, hf, _ => by rw [List.append_nil]; exact hf
  | x :: m, l, h, hf, ho => by
    rw [feedFrom] at ho ⊢
    by_cases hw : word false x.data.toList = true
    · rw [if_pos hw] at ho ⊢
      have hx : x.toList ≠ [] := fun e => by
        rw [Lib.toList_data] at e
        rw [e] at hw
        revert hw; decide
      have := HFed.feed m (hf.step hx hw) ho
      rwa [List.append_assoc] at this
    · rw [if_neg hw] at ho; cases ho
theorem HFed.ok (hf : HFed p l h) (hl : l.length ≤ 200) : heavyOk h = true := by
  have h1 := hf.hin.pl
  have h2 := hf.hin.gb
  have h3 := hf.hin.tb
  obtain ⟨m, hs⟩ := hf.hin.so
  refine heavyOk_iff.2 ⟨by omega, hf.hin.cl, by omega, by omega, fun i hi => ?_, by rw [sum_isum, hf.pl]; exact hf.sm⟩
  have hx := List.getElem?_eq_getElem hi
  have hy := List.getElem?_eq_getElem (show i < h.Counts.length by rw [hf.hin.cl]; exact hi)
  have hz := List.getElem?_eq_getElem (show i - 1 < h.Names.length by omega)
  rw [slotOk_of hx hy hz]
  unfold slotP
  split
  · rename_i he
    exact decide_eq_true ((hf.cp i _ _ hx hy).1 he)
  · rename_i he
    have hw := hf.wd i _ hx he
    have hp := (hf.cp i _ _ hx hy).2 he
    have hb := hf.hin.cb i _ hy
    have him : i < m := by
      rcases Nat.lt_or_ge i m with h4 | h4
      · exact h4
      · exact absurd (hs.free i _ h4 hx) he
    rw [hw, isIn_mk hp (by omega)]
    by_cases hi0 : i = 0
    · simp [hi0]
    · have h5 := hs.sort (i - 1) i _ _ (by omega) him hz hx
      have h6 := hs.used (i - 1) _ (by omega) hz
      unfold lessB at h5
      rw [h5]
      cases hc : (h.Names[i - 1]).toList with
      | nil => exact absurd hc h6
      | cons => simp
theorem isum_nn : ∀ {l : List Int}, (∀ (i : Nat) y, l[i]? = some y → 0 ≤ y) → 0 ≤ isum l
  | [], _ => Int.le_refl _
  | x :: t, h => by
    have h1 := h 0 x rfl
    have h2 := isum_nn (l := t) fun i y hy => h (i + 1) y (by simpa using hy)
    rw [isum]; omega
theorem HFed.gone (hf : HFed p l h) : h.Gone * ((p : Int) + 1) ≤ l.length := by
  have h1 := hf.sm
  have h2 := isum_nn fun i y hy => (hf.hin.cb i y hy).1
  have h3 := hf.tot
  omega
/-- what is told of a name -/
theorem HFed.least (hf : HFed p l h) (hl : l.length ≤ 200) (hw : word false x.data.toList = true) : ∃ lo : Int, leastOf h x = (lo, lo + h.Gone, true) ∧ lo ≤ occ x l ∧ (occ x l : Int) ≤ lo + h.Gone ∧ 0 ≤ lo := by
  have hx : x.toList ≠ [] := fun e => by
    rw [Lib.toList_data] at e
    rw [e] at hw
    revert hw; decide
  unfold leastOf
  rw [if_pos (by rw [hf.ok hl, hw]; rfl)]
  have hg := hf.hin.gb
  by_cases hi : 0 ≤ idx h.Names x
  · rw [if_pos hi]
    obtain ⟨i, e1, e2, e3⟩ := idx_at hi
    obtain ⟨y, hy⟩ : ∃ y, h.Counts[i]? = some y := ⟨_, List.getElem?_eq_getElem (by rw [hf.hin.cl]; exact e2)⟩
    have hA := hf.A x y hx ⟨i, e3, hy⟩
    have hB := hf.hin.cb i y hy
    refine ⟨y, ?_, hA.1, hA.2, hB.1⟩
    rw [e1, Int.toNat_natCast, getD_of hy]
  · rw [if_neg hi]
    have := hf.B x hx (fun y ⟨i, h1, _⟩ => idx_neg hi i h1)
    refine ⟨0, by rw [Int.zero_add], by omega, by omega, Int.le_refl _⟩
end
/-- a summary that is handed back whole -/
theorem feedHeavy_fed {n : Int} {l : List ByteArray} (h : (feedHeavy n l).2 = true) : 1 ≤ n ∧ n ≤ 6 ∧ l.length ≤ 200 ∧ HFed n.toNat l (feedHeavy n l).1 ∧ ∀ x, x ∈ l → word false x.data.toList = true := by
  unfold feedHeavy at h ⊢
  split at h
  · rename_i hc
    rw [if_pos hc]
    have h1 := isIn_iff.1 hc.1
    have h2 := HFed.feed l (HFed.start (p := n.toNat) (by omega) (by omega)) h
    rw [List.nil_append] at h2
    refine ⟨h1.1, h1.2, hc.2, h2, ?_⟩
    clear h2
    generalize hv0 n.toNat = h0 at h
    have : ∀ (l : List ByteArray) (h0 : Heavy), (feedFrom h0 l).2 = true → ∀ x, x ∈ l → word false x.data.toList = true := by
      intro l
      induction l with
      | nil => intro h0 _ x hx; cases hx
      | cons y t ih =>
        intro h0 ho x hx
        rw [feedFrom] at ho
        by_cases hw : word false y.data.toList = true
        · rw [if_pos hw] at ho
          rcases List.mem_cons.1 hx with rfl | hx
          · exact hw
          · exact ih _ ho x hx
        · rw [if_neg hw] at ho; cases ho
    exact this l h0 h
  · cases h
end Pl
end Go.Proofs.Ytjmcbggdckfefaa
