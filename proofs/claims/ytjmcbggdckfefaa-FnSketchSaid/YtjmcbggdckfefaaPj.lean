/-
  Plain functions: two sketches joined. No program in sight. No conditions.
-/
import Derived.Test.YtjmcbggdckfefaaPk
namespace Go.Proofs.Ytjmcbggdckfefaa
namespace Pl
def joinRow (r q : List Int) : List Int := List.zipWith (· + ·) r q
def joinTo (a b : List (List Int)) : Nat → List (List Int)
  | 0 => []
  | k + 1 => joinTo a b k ++ [joinRow (a.getD k []) (b.getD k [])]
theorem joinTo_len (a b : List (List Int)) : ∀ k, (joinTo a b k).length = k
  | 0 => rfl
  | k + 1 => by rw [joinTo, List.length_append, joinTo_len a b k]; rfl
theorem joinTo_next {a b : List (List Int)} {k : Nat} {r q : List Int} (hr : a[k]? = some r) (hq : b[k]? = some q) : joinTo a b (k + 1) = joinTo a b k ++ [joinRow r q] := by
  rw [joinTo, List.getD_eq_getElem?_getD, List.getD_eq_getElem?_getD, hr, hq]; rfl
def joined (a b : Sketch) : Sketch := ⟨joinTo a.Rows b.Rows a.Rows.length, a.Total + b.Total⟩
def joinSketches (a b : Sketch) : Sketch × Bool :=
  if (sketchOk a && sketchOk b && decide (a.Rows.length = b.Rows.length)) = true then (if sketchOk (joined a b) = true then (joined a b, true) else (sk0, false)) else (sk0, false)
def halfJoin (r q : List Int) (k : Nat) : List Int := (joinRow r q).take k ++ r.drop k
theorem halfJoin_zero (r q : List Int) : halfJoin r q 0 = r := rfl
theorem joinRow_get {r q : List Int} {k : Nat} {x y : Int} (hx : r[k]? = some x) (hy : q[k]? = some y) : (joinRow r q)[k]? = some (x + y) := by
  unfold joinRow; rw [List.getElem?_zipWith, hx, hy]
theorem joinRow_len {r q : List Int} (h : r.length = q.length) : (joinRow r q).length = r.length := by
  unfold joinRow; rw [List.length_zipWith, h]; omega
theorem halfJoin_get {r q : List Int} {k : Nat} {x : Int} (hl : r.length = q.length) (hx : r[k]? = some x) : (halfJoin r q k)[k]? = some x := by
  have hk := (List.getElem?_eq_some_iff.1 hx).1
  have h1 : ((joinRow r q).take k).length = k := by rw [List.length_take, joinRow_len hl]; omega
  unfold halfJoin
  rw [List.getElem?_append_right (by omega), h1, Nat.sub_self, List.getElem?_drop, Nat.add_zero]; exact hx
theorem halfJoin_set {r q : List Int} {k : Nat} {x y : Int} (hl : r.length = q.length) (hx : r[k]? = some x) (hy : q[k]? = some y) : (halfJoin r q k).set k (x + y) = halfJoin r q (k + 1) := by
  obtain ⟨hk, rfl⟩ := List.getElem?_eq_some_iff.1 hx
  have h1 : ((joinRow r q).take k).length = k := by rw [List.length_take, joinRow_len hl]; omega
  have h2 := joinRow_get hx hy
  obtain ⟨h3, h4⟩ := List.getElem?_eq_some_iff.1 h2
  unfold halfJoin
  rw [List.set_append_right _ _ (by omega), h1, Nat.sub_self, List.drop_eq_getElem_cons hk, List.set_cons_zero, List.take_succ_eq_append_getElem h3, h4, List.append_assoc]
  rfl
theorem halfJoin_end {r q : List Int} {k : Nat} (hl : r.length = q.length) (hk : r.length ≤ k) : halfJoin r q k = joinRow r q := by
  unfold halfJoin
  rw [List.drop_eq_nil_of_le hk, List.append_nil, List.take_of_length_le (by rw [joinRow_len hl]; exact hk)]
def halfRows (a b : List (List Int)) (k : Nat) : List (List Int) := joinTo a b k ++ a.drop k
theorem halfRows_zero (a b : List (List Int)) : halfRows a b 0 = a := rfl
theorem halfRows_get {a b : List (List Int)} {k : Nat} {r : List Int} (h : a[k]? = some r) : (halfRows a b k)[k]? = some r := by
  unfold halfRows
  rw [List.getElem?_append_right (by rw [joinTo_len]; exact Nat.le_refl _), joinTo_len, Nat.sub_self, List.getElem?_drop, Nat.add_zero]
  exact h
theorem halfRows_set {a b : List (List Int)} {k : Nat} {r q : List Int} (h : a[k]? = some r) (hq : b[k]? = some q) : (halfRows a b k).set k (joinRow r q) = halfRows a b (k + 1) := by
  have hk := (List.getElem?_eq_some_iff.1 h).1
  unfold halfRows
  rw [List.set_append_right _ _ (by rw [joinTo_len]; exact Nat.le_refl _), joinTo_len, Nat.sub_self, joinTo_next h hq, List.drop_eq_getElem_cons hk, List.set_cons_zero, List.append_assoc]
  rfl
theorem halfRows_end {a b : List (List Int)} {k : Nat} (h : a.length ≤ k) : halfRows a b k = joinTo a b k := by
  unfold halfRows; rw [List.drop_eq_nil_of_le h, List.append_nil]
theorem set_get {α : Type} {l : List α} {k : Nat} {x y : α} (h : l[k]? = some x) : (l.set k y)[k]? = some y := List.getElem?_set_self (List.getElem?_eq_some_iff.1 h).1
theorem set_same {α : Type} {l : List α} {k : Nat} {x : α} (h : l[k]? = some x) : l.set k x = l := by
  obtain ⟨hk, rfl⟩ := List.getElem?_eq_some_iff.1 h
  exact List.set_getElem_self hk
theorem tot_bd {s : Sketch} (h : sketchOk s = true) : 0 ≤ s.Total ∧ s.Total ≤ 1100000 := by
  have h0 := h
  unfold sketchOk at h0
  rw [Bool.and_eq_true, isIn_iff] at h0
  obtain ⟨r, hr⟩ : ∃ r, s.Rows[0]? = some r := ⟨_, List.getElem?_eq_getElem (by omega)⟩
  have h1 := rows_bd h hr
  have h2 := sum_bd h1.2.1 (by omega) (by omega)
  rw [h1.1] at h2
  omega
end Pl
end Go.Proofs.Ytjmcbggdckfefaa
