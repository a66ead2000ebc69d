/-
  Plain functions on lists of bytes: a word, a hash, a column. No program in sight. No conditions.
-/
namespace Go.Proofs.Ytaepohocabealaa
namespace Pl

/-- a byte that may stand in a word -/
def wbyte (d : Bool) (c : UInt8) : Bool := (decide (97 ≤ (c.toNat : Int)) && decide ((c.toNat : Int) ≤ 122)) || (d && (decide (48 ≤ (c.toNat : Int)) && decide ((c.toNat : Int) ≤ 57)))
def word (d : Bool) (l : List UInt8) : Bool := l.all (wbyte d) && (decide (1 ≤ (l.length : Int)) && decide ((l.length : Int) ≤ 8))
def isIn (n a b : Int) : Bool := decide (a ≤ n) && decide (n ≤ b)
def hash (l : List UInt8) : Int := l.foldl (fun h c => (31 * h + (c.toNat : Int)) % 1009) 7
def place0 (r : Int) (l : List UInt8) : Int := l.foldl (fun h c => ((2 * r + 29) * h + (c.toNat : Int)) % 10007) (r + 3)
def place (r : Int) (l : List UInt8) : Int := place0 r l % 11

theorem take_snoc (l : List UInt8) (k : Nat) (h : k < l.length) : l.take (k + 1) = l.take k ++ [l[k]] := by
  rw [List.take_succ_eq_append_getElem h]
theorem hash_bd (l : List UInt8) : 0 ≤ hash l ∧ hash l < 1009 := by
  unfold hash
  rw [← List.reverse_reverse l, List.foldl_reverse]
  cases l.reverse with
  | nil => simp
  | cons c t => simp only [List.foldr_cons]; omega
theorem hash_snoc (l : List UInt8) (c : UInt8) : hash (l ++ [c]) = (31 * hash l + (c.toNat : Int)) % 1009 := by
  unfold hash; rw [List.foldl_append]; rfl
theorem place0_bd (r : Int) (l : List UInt8) (h0 : 0 ≤ r) (h1 : r ≤ 2) : 0 ≤ place0 r l ∧ place0 r l < 10007 := by
  unfold place0
  rw [← List.reverse_reverse l, List.foldl_reverse]
  cases l.reverse with
  | nil => simp; omega
  | cons c t => simp only [List.foldr_cons]; omega
theorem place0_snoc (r : Int) (l : List UInt8) (c : UInt8) : place0 r (l ++ [c]) = ((2 * r + 29) * place0 r l + (c.toNat : Int)) % 10007 := by
  unfold place0; rw [List.foldl_append]; rfl
theorem place_mul (r h : Int) (h0 : 0 ≤ r) (h1 : r ≤ 2) (a : 0 ≤ h) (b : h < 10007) : 0 ≤ (2 * r + 29) * h ∧ (2 * r + 29) * h ≤ 350000 := by
  obtain rfl | rfl | rfl : r = 0 ∨ r = 1 ∨ r = 2 := by omega
  all_goals omega
theorem place_bd (r : Int) (l : List UInt8) : 0 ≤ place r l ∧ place r l < 11 := by
  unfold place; omega
theorem word_of_all (d : Bool) (l : List UInt8) (h : ∀ c ∈ l, wbyte d c = true) : word d l = isIn (l.length : Int) 1 8 := by
  unfold word isIn; rw [List.all_eq_true.2 h]; rfl
theorem word_of_bad (d : Bool) (l : List UInt8) (k : Nat) (hk : k < l.length) (h : wbyte d l[k] = false) : word d l = false := by
  unfold word
  rw [List.all_eq_false.2 ⟨l[k], List.getElem_mem hk, by rw [h]; simp⟩]; rfl
theorem word_bad {d : Bool} {s : ByteArray} {k : Nat} (hk : k < s.size) (h : wbyte d s[k] = false) : word d s.data.toList = false :=
  word_of_bad d s.data.toList k (by simpa using hk) h
theorem all_snoc {d : Bool} {l m : List UInt8} {c : UInt8} (he : m = l ++ [c]) (h : ∀ x ∈ l, wbyte d x = true) (hc : wbyte d c = true) : ∀ x ∈ m, wbyte d x = true := by
  subst he
  intro x hx
  rcases List.mem_append.1 hx with h1 | h1
  · exact h x h1
  · rw [List.mem_singleton.1 h1]; exact hc
theorem wb_no {d : Bool} {c : UInt8} (h : ¬ (97 ≤ (c.toNat : Int) ∧ (c.toNat : Int) ≤ 122)) (h2 : d = false ∨ ¬ (48 ≤ (c.toNat : Int) ∧ (c.toNat : Int) ≤ 57)) : wbyte d c = false := by
  unfold wbyte
  rcases h2 with rfl | h2
  · simp; omega
  · cases d <;> simp <;> omega
theorem wb_letter {d : Bool} {c : UInt8} (h : 97 ≤ (c.toNat : Int) ∧ (c.toNat : Int) ≤ 122) : wbyte d c = true := by
  unfold wbyte
  simp; omega
theorem wb_digit {c : UInt8} (h : 48 ≤ (c.toNat : Int) ∧ (c.toNat : Int) ≤ 57) : wbyte true c = true := by
  unfold wbyte
  simp; omega
theorem word_end {d : Bool} {l : List UInt8} {k : Nat} (hk : l.length ≤ k) (h : ∀ c ∈ l.take k, wbyte d c = true) : word d l = isIn (l.length : Int) 1 8 :=
  word_of_all d l (by rwa [List.take_of_length_le hk] at h)
theorem word_len {d : Bool} {l : List UInt8} (h : word d l = true) : 1 ≤ l.length ∧ l.length ≤ 8 := by
  unfold word at h; simp at h; omega
end Pl
end Go.Proofs.Ytaepohocabealaa
