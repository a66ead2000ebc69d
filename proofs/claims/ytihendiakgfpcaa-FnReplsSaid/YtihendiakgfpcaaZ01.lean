/-
  Joined texts, in build order: P1, Wa, Mm, Qu, Ow, Bk, Ox, Dt, Mk, Ty, Pc. Each part says what it proves; no conditions beyond those that a part names.
-/
import Derived.Test.YtihendiakgfpcaaRows
import Derived.WalkKit
import Derived.WalkLawsBesides
import Derived.WalkSpells
import Derived.Outline
import Derived.IntWalk
import Derived.Lib.Hide
import Derived.Below
import Derived.Laws.OwnMore
import Derived.Deep.AppendLies
import Derived.Maps.AppendAt
import Derived.Deep.Draws
import Derived.BigQuiet
import Derived.Deep.QuietTactic
import Derived.Deep.RegionHeld3
import Derived.Laws.CopyOwn
/-
  Plain functions on lists of bytes: a word, a hash, a column. No program in sight. No conditions.
-/
namespace Go.Proofs.Ytihendiakgfpcaa
namespace Pl

/-- a byte that may stand in a word -/
def wbyte (d : Bool) (c : UInt8) : Bool := (decide (97 ≤ (c.toNat : Int)) && decide ((c.toNat : Int) ≤ 122)) || (d && (decide (48 ≤ (c.toNat : Int)) && decide ((c.toNat : Int) ≤ 57)))
def word (d : Bool) (l : List UInt8) : Bool := l.all (wbyte d) && (decide (1 ≤ (l.length : Int)) && decide ((l.length : Int) ≤ 8))
def isIn (n a b : Int) : Bool := decide (a ≤ n) && decide (n ≤ b)
def hash (l : List UInt8) : Int := l.foldl (fun h c => (31 * h + (c.toNat : Int)) % 1009) 7
def place0 (r : Int) (l : List UInt8) : Int := l.foldl (fun h c => ((2 * r + 29) * h + (c.toNat : Int)) % 10007) (r + 3)
def place (r : Int) (l : List UInt8) : Int := place0 r l % 11

theorem take_snoc (l : List UInt8) (k : Nat) (h : k < l.length) : l.take (k + 1) = l.take k ++ [l[k]] := by
  rw [List.take_succ_eq_append_getElem h]
theorem hash_bd (l : List UInt8) : 0 ≤ hash l ∧ hash l < 1009 := by
  unfold hash
  rw [← List.reverse_reverse l, List.foldl_reverse]
  cases l.reverse with
  | nil => simp
  | cons c t => simp only [List.foldr_cons]; omega
theorem hash_snoc (l : List UInt8) (c : UInt8) : hash (l ++ [c]) = (31 * hash l + (c.toNat : Int)) % 1009 := by
  unfold hash; rw [List.foldl_append]; rfl
theorem place0_bd (r : Int) (l : List UInt8) (h0 : 0 ≤ r) (h1 : r ≤ 2) : 0 ≤ place0 r l ∧ place0 r l < 10007 := by
  unfold place0
  rw [← List.reverse_reverse l, List.foldl_reverse]
  cases l.reverse with
  | nil => simp; omega
  | cons c t => simp only [List.foldr_cons]; omega
theorem place0_snoc (r : Int) (l : List UInt8) (c : UInt8) : place0 r (l ++ [c]) = ((2 * r + 29) * place0 r l + (c.toNat : Int)) % 10007 := by
  unfold place0; rw [List.foldl_append]; rfl
theorem place_mul (r h : Int) (h0 : 0 ≤ r) (h1 : r ≤ 2) (a : 0 ≤ h) (b : h < 10007) : 0 ≤ (2 * r + 29) * h ∧ (2 * r + 29) * h ≤ 350000 := by
  obtain rfl | rfl | rfl : r = 0 ∨ r = 1 ∨ r = 2 := by omega
  all_goals omega
theorem place_bd (r : Int) (l : List UInt8) : 0 ≤ place r l ∧ place r l < 11 := by
  unfold place; omega
theorem word_of_all (d : Bool) (l : List UInt8) (h : ∀ c ∈ l, wbyte d c = true) : word d l = isIn (l.length : Int) 1 8 := by
  unfold word isIn; rw [List.all_eq_true.2 h]; rfl
theorem word_of_bad (d : Bool) (l : List UInt8) (k : Nat) (hk : k < l.length) (h : wbyte d l[k] = false) : word d l = false := by
  unfold word
  rw [List.all_eq_false.2 ⟨l[k], List.getElem_mem hk, by rw [h]; simp⟩]; rfl
theorem word_bad {d : Bool} {s : ByteArray} {k : Nat} (hk : k < s.size) (h : wbyte d s[k] = false) : word d s.data.toList = false :=
  word_of_bad d s.data.toList k (by simpa using hk) h
theorem all_snoc {d : Bool} {l m : List UInt8} {c : UInt8} (he : m = l ++ [c]) (h : ∀ x ∈ l, wbyte d x = true) (hc : wbyte d c = true) : ∀ x ∈ m, wbyte d x = true := by
  subst he
  intro x hx
  rcases List.mem_append.1 hx with h1 | h1
  · exact h x h1
  · rw [List.mem_singleton.1 h1]; exact hc
theorem wb_no {d : Bool} {c : UInt8} (h : ¬ (97 ≤ (c.toNat : Int) ∧ (c.toNat : Int) ≤ 122)) (h2 : d = false ∨ ¬ (48 ≤ (c.toNat : Int) ∧ (c.toNat : Int) ≤ 57)) : wbyte d c = false := by
  unfold wbyte
  rcases h2 with rfl | h2
  · simp; omega
  · cases d <;> simp <;> omega
theorem wb_letter {d : Bool} {c : UInt8} (h : 97 ≤ (c.toNat : Int) ∧ (c.toNat : Int) ≤ 122) : wbyte d c = true := by
  unfold wbyte
  simp; omega
theorem wb_digit {c : UInt8} (h : 48 ≤ (c.toNat : Int) ∧ (c.toNat : Int) ≤ 57) : wbyte true c = true := by
  unfold wbyte
  simp; omega
theorem word_end {d : Bool} {l : List UInt8} {k : Nat} (hk : l.length ≤ k) (h : ∀ c ∈ l.take k, wbyte d c = true) : word d l = isIn (l.length : Int) 1 8 :=
  word_of_all d l (by rwa [List.take_of_length_le hk] at h)
theorem word_len {d : Bool} {l : List UInt8} (h : word d l = true) : 1 ≤ l.length ∧ l.length ≤ 8 := by
  unfold word at h; simp at h; omega
end Pl
end Go.Proofs.Ytihendiakgfpcaa

/-
  Contracts of the program's and the reference's functions on words and hashes. No conditions.
-/

namespace Go.Proofs.Ytihendiakgfpcaa
open Go.RowKit

def Pl.ret2 (x : Int × Bool) : Ending := .returned (.tuple #[.int .i64 x.1, .bool x.2])
theorem ret_int {k : IntKind} {a b : Int} (h : a = b) : Ending.returned (.int k a) = .returned (.int k b) := by rw [h]
theorem ret_bool {a b : Bool} (h : a = b) : Ending.returned (.bool a) = .returned (.bool b) := by rw [h]

theorem within_c (n a b : Int) (w : World) :
    Calls Try.prog 43 #[.int .i64 n, .int .i64 a, .int .i64 b] w fun e w' => e = .returned (.bool (Pl.isIn n a b)) ∧ w = w' := by
  unfold Pl.isIn
  by_cases h1 : a ≤ n
  · by_cases h2 : n ≤ b
    · go_enter Try.func43, Try.ntmps43
      go_wp2
      go_ret
      exact ⟨ret_bool (by simp [*]), rfl⟩
    · go_enter Try.func43, Try.ntmps43
      go_wp2
      go_ret
      exact ⟨ret_bool (by simp [*]), rfl⟩
  · go_enter Try.func43, Try.ntmps43
    go_wp2
    go_ret
    exact ⟨ret_bool (by simp; omega), rfl⟩
theorem l1In_c (n a b : Int) (w : World) :
    Calls Try.prog 71 #[.int .i64 n, .int .i64 a, .int .i64 b] w fun e w' => e = .returned (.bool (Pl.isIn n a b)) ∧ w = w' := by
  unfold Pl.isIn
  by_cases h1 : a ≤ n
  · by_cases h2 : n ≤ b
    · go_enter Try.func71, Try.ntmps71
      go_wp2
      go_ret
      exact ⟨ret_bool (by simp [*]), rfl⟩
    · go_enter Try.func71, Try.ntmps71
      go_wp2
      go_ret
      exact ⟨ret_bool (by simp [*]), rfl⟩
  · go_enter Try.func71, Try.ntmps71
    go_wp2
    go_ret
    exact ⟨ret_bool (by simp; omega), rfl⟩
end Go.Proofs.Ytihendiakgfpcaa

/-
  How data lies in memory: readings (weak: 'at_', all below a block number) and ownership (with the list of the blocks), for numbers, strings, structs and slices of whatever depth. No program in sight. No conditions.
-/
namespace Go.Proofs.Ytihendiakgfpcaa
open Go.RowKit
namespace Mm

def I64 (n : Int) : Prop := -9223372036854775808 ≤ n ∧ n ≤ 9223372036854775807

structure Rep (α : Type) where
  size : Nat
  at_ : World → Nat → α → List Value → Prop
  own : World → α → List Value → List Nat → Prop
  len : ∀ {w B x cs}, at_ w B x cs → cs.length = size
  olen : ∀ {w x cs fp}, own w x cs fp → cs.length = size
  one : ∀ {w x cs fp}, own w x cs fp → ∀ u ∈ cs, u.oneCell' = true
  keep : ∀ {w w' B x cs}, at_ w B x cs → (∀ b, b < B → w'.heap[b]? = w.heap[b]?) → at_ w' B x cs
  more : ∀ {w B B' x cs}, at_ w B x cs → B ≤ B' → at_ w B' x cs
  okeep : ∀ {w w' x cs fp}, own w x cs fp → (∀ b, b ∈ fp → w'.heap[b]? = w.heap[b]?) → own w' x cs fp
  olt : ∀ {w x cs fp}, own w x cs fp → ∀ b, b ∈ fp → b < w.heap.size
  weak : ∀ {w B x cs fp}, own w x cs fp → (∀ b, b ∈ fp → b < B) → at_ w B x cs

/-- what leads nowhere -/
def flat {α : Type} (size : Nat) (enc : α → List Value) (ok : α → Prop) (hl : ∀ x, (enc x).length = size) (h1 : ∀ x, ∀ u ∈ enc x, u.oneCell' = true) : Rep α where
  size := size
  at_ := fun _ _ x cs => cs = enc x ∧ ok x
  own := fun _ x cs fp => cs = enc x ∧ ok x ∧ fp = []
  len := fun h => by rw [h.1]; exact hl _
  olen := fun h => by rw [h.1]; exact hl _
  one := fun h => by rw [h.1]; exact h1 _
  keep := fun h _ => h
  more := fun h _ => h
  okeep := fun h _ => h
  olt := fun h b hb => by rw [h.2.2] at hb; cases hb
  weak := fun h _ => ⟨h.1, h.2.1⟩

def int : Rep Int := flat 1 (fun n => [.int .i64 n]) I64 (fun _ => rfl) (fun _ u hu => by rw [List.mem_singleton.1 hu]; rfl)
def bool : Rep Bool := flat 1 (fun n => [.bool n]) (fun _ => True) (fun _ => rfl) (fun _ u hu => by rw [List.mem_singleton.1 hu]; rfl)
def str : Rep ByteArray := flat 1 (fun n => [.string n]) (fun s => s.size ≤ maxLen) (fun _ => rfl) (fun _ u hu => by rw [List.mem_singleton.1 hu]; rfl)

def pair {α β : Type} (E : Rep α) (F : Rep β) : Rep (α × β) where
  size := E.size + F.size
  at_ := fun w B x cs => ∃ c d, cs = c ++ d ∧ E.at_ w B x.1 c ∧ F.at_ w B x.2 d
  own := fun w x cs fp => ∃ c d f g, cs = c ++ d ∧ fp = f ++ g ∧ E.own w x.1 c f ∧ F.own w x.2 d g
  len := fun h => by obtain ⟨c, d, rfl, h1, h2⟩ := h; rw [List.length_append, E.len h1, F.len h2]
  olen := fun h => by obtain ⟨c, d, f, g, rfl, _, h1, h2⟩ := h; rw [List.length_append, E.olen h1, F.olen h2]
  one := fun h u hu => by
    obtain ⟨c, d, f, g, rfl, _, h1, h2⟩ := h
    rcases List.mem_append.1 hu with hu | hu
    · exact E.one h1 u hu
    · exact F.one h2 u hu
  keep := fun h k => by obtain ⟨c, d, e, h1, h2⟩ := h; exact ⟨c, d, e, E.keep h1 k, F.keep h2 k⟩
  more := fun h k => by obtain ⟨c, d, e, h1, h2⟩ := h; exact ⟨c, d, e, E.more h1 k, F.more h2 k⟩
  okeep := fun h k => by
    obtain ⟨c, d, f, g, e, rfl, h1, h2⟩ := h
    exact ⟨c, d, f, g, e, rfl, E.okeep h1 (fun b hb => k b (List.mem_append_left _ hb)), F.okeep h2 (fun b hb => k b (List.mem_append_right _ hb))⟩
  olt := fun h b hb => by
    obtain ⟨c, d, f, g, e, rfl, h1, h2⟩ := h
    rcases List.mem_append.1 hb with hb | hb
    · exact E.olt h1 b hb
    · exact F.olt h2 b hb
  weak := fun h k => by
    obtain ⟨c, d, f, g, e, rfl, h1, h2⟩ := h
    exact ⟨c, d, e, E.weak h1 (fun b hb => k b (List.mem_append_left _ hb)), F.weak h2 (fun b hb => k b (List.mem_append_right _ hb))⟩

def iso {α β : Type} (f : β → α) (E : Rep α) : Rep β where
  size := E.size
  at_ := fun w B x cs => E.at_ w B (f x) cs
  own := fun w x cs fp => E.own w (f x) cs fp
  len := E.len
  olen := E.olen
  one := E.one
  keep := E.keep
  more := E.more
  okeep := E.okeep
  olt := E.olt
  weak := E.weak

/-- a slice value reads as the list, all below B -/
def SlAt {α : Type} (E : Rep α) (w : World) (B : Nat) (xs : List α) (A : Option Addr) (n c : Nat) : Prop :=
  xs.length = n ∧ n ≤ c ∧ c ≤ maxLen ∧ (A = none → c = 0) ∧
  ∀ i x, xs[i]? = some x → ∃ b off cs, A = some ⟨b, off, none⟩ ∧ b < B ∧ E.at_ w B x cs ∧ ∀ j u, cs[j]? = some u → w.cell? ⟨b, off + i * E.size + j, none⟩ = some u

theorem add0 (g m : Nat) : (⟨g, 0, none⟩ : Addr).add m = ⟨g, m, none⟩ := by unfold Addr.add; split <;> simp_all
theorem flatMap_get {β : Type} {γ : Type} (f : β → List γ) (s : Nat) : ∀ (l : List β), (∀ y ∈ l, (f y).length = s) → ∀ (i : Nat) (y : β) (j : Nat) (u : γ), l[i]? = some y → (f y)[j]? = some u → (l.flatMap f)[i * s + j]? = some u
  | [], _, i, y, j, u, h, _ => by simp at h
  | z :: t, hl, 0, y, j, u, h, hu => by
    simp only [List.getElem?_cons_zero, Option.some.injEq] at h
    subst h
    have hj : j < (f z).length := (List.getElem?_eq_some_iff.1 hu).1
    rw [List.flatMap_cons, Nat.zero_mul, Nat.zero_add, List.getElem?_append_left hj]
    exact hu
  | z :: t, hl, i + 1, y, j, u, h, hu => by
    rw [List.getElem?_cons_succ] at h
    have hz := hl z (by simp)
    rw [List.flatMap_cons, List.getElem?_append_right (by rw [hz, Nat.add_mul]; omega), hz]
    have := flatMap_get f s t (fun y hy => hl y (by simp [hy])) i y j u h hu
    rw [← this]
    congr 1
    rw [Nat.add_mul]; omega

def Elems {α : Type} (E : Rep α) (w : World) (xs : List α) (es : List (List Value × List Nat)) : Prop :=
  es.length = xs.length ∧ ∀ (i : Nat) (x : α) (y : List Value × List Nat), xs[i]? = some x → es[i]? = some y → E.own w x y.1 y.2

def SlOwn {α : Type} (E : Rep α) (e : TypeId) (w : World) (xs : List α) (v : Value) (fp : List Nat) : Prop :=
  ∃ es : List (List Value × List Nat), Elems E w xs es ∧ w.ownsRow 0 e E.size v xs.length (es.flatMap (·.1)) ∧ fp = v.ownBlock.toList ++ es.flatMap (·.2)

section
variable {α : Type} {E : Rep α} {e : TypeId} {w w' : World} {B B' : Nat} {xs : List α} {A : Option Addr} {n c : Nat} {v : Value} {fp : List Nat}

theorem Elems.mem {es : List (List Value × List Nat)} (h : Elems E w xs es) {y : List Value × List Nat} (hy : y ∈ es) : ∃ x ∈ xs, E.own w x y.1 y.2 := by
  obtain ⟨i, hi, rfl⟩ := List.mem_iff_getElem.1 hy
  have hx : i < xs.length := by rw [← h.1]; exact hi
  exact ⟨xs[i], List.getElem_mem hx, h.2 i _ _ (List.getElem?_eq_getElem hx) (List.getElem?_eq_getElem hi)⟩
theorem Elems.len {es : List (List Value × List Nat)} (h : Elems E w xs es) : ∀ y ∈ es, y.1.length = E.size := fun y hy => by
  obtain ⟨x, _, ho⟩ := h.mem hy
  exact E.olen ho
theorem Elems.okeep {es : List (List Value × List Nat)} (h : Elems E w xs es) (k : ∀ b, b ∈ es.flatMap (·.2) → w'.heap[b]? = w.heap[b]?) : Elems E w' xs es :=
  ⟨h.1, fun i x y hx hy => E.okeep (h.2 i x y hx hy) fun b hb => k b (List.mem_flatMap.2 ⟨y, List.mem_of_getElem? hy, hb⟩)⟩

theorem SlAt.keep (h : SlAt E w B xs A n c) (k : ∀ b, b < B → w'.heap[b]? = w.heap[b]?) : SlAt E w' B xs A n c := by
  obtain ⟨h1, h2, h3, h4, h5⟩ := h
  refine ⟨h1, h2, h3, h4, fun i x hx => ?_⟩
  obtain ⟨b, off, cs, hA, hb, ha, hc⟩ := h5 i x hx
  exact ⟨b, off, cs, hA, hb, E.keep ha k, fun j u hu => (World.cell?_of_block (k b hb)).trans (hc j u hu)⟩
theorem SlAt.more (h : SlAt E w B xs A n c) (k : B ≤ B') : SlAt E w B' xs A n c := by
  obtain ⟨h1, h2, h3, h4, h5⟩ := h
  refine ⟨h1, h2, h3, h4, fun i x hx => ?_⟩
  obtain ⟨b, off, cs, hA, hb, ha, hc⟩ := h5 i x hx
  exact ⟨b, off, cs, hA, by omega, E.more ha k, hc⟩
theorem SlAt.below (h : SlAt E w B xs A n c) (hb : Below B w w') : SlAt E w' B xs A n c := h.keep hb.block
/-- element k: its cells, in the walk's spelling for E.size cells -/
theorem SlAt.get (h : SlAt E w B xs A n c) {k : Nat} (hk : k < n) : ∃ x b off cs, xs[k]? = some x ∧ A = some ⟨b, off, none⟩ ∧ b < B ∧ E.at_ w B x cs ∧ ∀ j u, cs[j]? = some u → w.cell? ⟨b, off + k * E.size + j, none⟩ = some u := by
  obtain ⟨h1, h2, h3, h4, h5⟩ := h
  have hk' : k < xs.length := by omega
  obtain ⟨b, off, cs, r⟩ := h5 k xs[k] (List.getElem?_eq_getElem hk')
  exact ⟨_, b, off, cs, List.getElem?_eq_getElem hk', r⟩
/-- the same, where the address is known -/
theorem SlAt.get' {b off : Nat} (h : SlAt E w B xs (some ⟨b, off, none⟩) n c) {k : Nat} (hk : k < n) : ∃ x cs, xs[k]? = some x ∧ b < B ∧ E.at_ w B x cs ∧ ∀ j u, cs[j]? = some u → w.cell? ⟨b, off + k * E.size + j, none⟩ = some u := by
  obtain ⟨x, b', off', cs, hx, hA, r⟩ := h.get hk
  injection hA with hA
  injection hA with h1 h2
  subst h1; subst h2
  exact ⟨x, cs, hx, r⟩
theorem SlAt.nil (hc : c ≤ maxLen) (hA : A = none → c = 0) : SlAt E w B [] A 0 c := ⟨rfl, Nat.zero_le _, hc, hA, fun i x hx => by simp at hx⟩
/-- the head of a slice: s[:k] -/
theorem SlAt.take (h : SlAt E w B xs A n c) {k : Nat} (hk : k ≤ n) : SlAt E w B (xs.take k) A k c := by
  obtain ⟨h1, h2, h3, h4, h5⟩ := h
  refine ⟨by rw [List.length_take]; omega, by omega, h3, h4, fun i x hx => h5 i x ?_⟩
  rw [List.getElem?_take] at hx
  split at hx
  · exact hx
  · cases hx
/-- a shorter capacity -/
theorem SlAt.recap (h : SlAt E w B xs A n c) {c' : Nat} (h1 : n ≤ c') (h2 : c' ≤ c) : SlAt E w B xs A n c' :=
  ⟨h.1, h1, by have := h.2.2.1; omega, fun hA => by have := h.2.2.2.1 hA; omega, h.2.2.2.2⟩

theorem SlOwn.olt (h : SlOwn E e w xs v fp) : ∀ b, b ∈ fp → b < w.heap.size := by
  obtain ⟨es, he, ho, rfl⟩ := h
  intro b hb
  rcases List.mem_append.1 hb with hb | hb
  · exact (ho.lt b (by simpa using hb)).2
  · obtain ⟨y, hy, hb⟩ := List.mem_flatMap.1 hb
    obtain ⟨x, _, hx⟩ := he.mem hy
    exact E.olt hx b hb
theorem SlOwn.okeep (h : SlOwn E e w xs v fp) (k : ∀ b, b ∈ fp → w'.heap[b]? = w.heap[b]?) : SlOwn E e w' xs v fp := by
  obtain ⟨es, he, ho, rfl⟩ := h
  refine ⟨es, he.okeep (fun b hb => k b (List.mem_append_right _ hb)), ⟨ho.1, ?_⟩, rfl⟩
  rcases ho.2 with h | ⟨g, cap, cur, rfl, h1, h2, h3⟩
  · exact .inl h
  · exact .inr ⟨g, cap, cur, rfl, h1, (k g (by simp [Value.ownBlock])).trans h2, h3⟩
theorem SlOwn.form (h : SlOwn E e w xs v fp) : ∃ A n c, v = .slice A n c ∧ n = xs.length ∧ n ≤ c ∧ c ≤ maxLen ∧ (A = none → c = 0) := by
  obtain ⟨es, he, ho, rfl⟩ := h
  rcases ho.2 with ⟨rfl, h⟩ | ⟨g, cap, cur, rfl, h1, h2, h3, h4, h5⟩
  · exact ⟨none, 0, 0, rfl, h.symm, Nat.le_refl _, Nat.zero_le _, fun _ => rfl⟩
  · exact ⟨_, _, cap, rfl, rfl, h3, h4, fun h => by cases h⟩
theorem SlOwn.weak (h : SlOwn E e w xs (.slice A n c) fp) (k : ∀ b, b ∈ fp → b < B) : SlAt E w B xs A n c := by
  obtain ⟨A', n', c', hv, h1, h2, h3, h4⟩ := h.form
  injection hv with e1 e2 e3
  subst e1; subst e2; subst e3
  obtain ⟨es, he, ho, rfl⟩ := h
  refine ⟨h1.symm, h2, h3, h4, fun i x hx => ?_⟩
  have hi : i < xs.length := (List.getElem?_eq_some_iff.1 hx).1
  have hie : i < es.length := by rw [he.1]; exact hi
  have hy := List.getElem?_eq_getElem hie
  have hown := he.2 i x _ hx hy
  obtain ⟨g, cap, hf, _⟩ := ho.form (by omega)
  injection hf with hA
  subst hA
  refine ⟨g, 0, es[i].1, rfl, k g (by simp [Value.ownBlock]), E.weak hown (fun b hb => k b ?_), fun j u hu => ?_⟩
  · exact List.mem_append_right _ (List.mem_flatMap.2 ⟨_, List.getElem_mem hie, hb⟩)
  · have hc := ho.cells (g := g) rfl (i * E.size + j) u (flatMap_get _ _ es he.len i _ j u hy hu)
    rw [add0] at hc
    simpa using hc
end

/-- a slice of things -/
def slice {α : Type} (E : Rep α) (e : TypeId) : Rep (List α) where
  size := 1
  at_ := fun w B xs cs => ∃ A n c, cs = [.slice A n c] ∧ SlAt E w B xs A n c
  own := fun w xs cs fp => ∃ v, cs = [v] ∧ SlOwn E e w xs v fp
  len := fun h => by obtain ⟨A, n, c, rfl, _⟩ := h; rfl
  olen := fun h => by obtain ⟨v, rfl, _⟩ := h; rfl
  one := fun h u hu => by
    obtain ⟨v, rfl, h⟩ := h
    rw [List.mem_singleton.1 hu]
    obtain ⟨A, n, c, rfl, _⟩ := h.form
    rfl
  keep := fun h k => by obtain ⟨A, n, c, rfl, h⟩ := h; exact ⟨A, n, c, rfl, h.keep k⟩
  more := fun h k => by obtain ⟨A, n, c, rfl, h⟩ := h; exact ⟨A, n, c, rfl, h.more k⟩
  okeep := fun h k => by obtain ⟨v, rfl, h⟩ := h; exact ⟨v, rfl, h.okeep k⟩
  olt := fun h => by obtain ⟨v, rfl, h⟩ := h; exact h.olt
  weak := fun h k => by
    obtain ⟨v, rfl, h⟩ := h
    obtain ⟨A, n, c, rfl, _⟩ := h.form
    exact ⟨A, n, c, rfl, h.weak k⟩

end Mm
end Go.Proofs.Ytihendiakgfpcaa

/-
  A region that draws its order, walked once in the order of the text, where its calls may make memory: the class of the worlds in which nothing that was there has turned. No program in sight. No conditions.
-/
namespace Go.Proofs.Ytihendiakgfpcaa
open Go.RowKit

/-- a world in which nothing that was there in w has turned -/
structure Und (w : World) where
  X : World
  h : Below w.heap.size w X
def und (w : World) (x : Und w) : World := x.X
instance (w : World) : Nonempty (Und w) := ⟨⟨w, Below.refl _ _⟩⟩
theorem und_cell {w : World} (x : Und w) (a : Addr) (h : (w.cell? a).isSome = true) : (und w x).cell? a = w.cell? a := by
  obtain ⟨u, hu⟩ := Option.isSome_iff_exists.1 h
  exact x.h.cell (World.block_lt_of_cell? w a hu)

theorem below_some {w w' : World} (h : Below w.heap.size w w') {a : Addr} {v : Value} (hc : w.cell? a = some v) : w'.cell? a = some v :=
  (h.cell (World.block_lt_of_cell? w a hc)).trans hc
theorem below_is {w w' : World} (h : Below w.heap.size w w') {a : Addr} (hs : (w.cell? a).isSome = true) : (w'.cell? a).isSome = true := by
  obtain ⟨u, hu⟩ := Option.isSome_iff_exists.1 hs
  rw [below_some h hu]; rfl
theorem below_fz {w w' : World} (h : Below w.heap.size w w') {a : Addr} (hs : (w.cell? a).isSome = true) (hf : w.frozen? a = false) : w'.frozen? a = false := by
  obtain ⟨u, hu⟩ := Option.isSome_iff_exists.1 hs
  rw [World.frozen?_of_block (h.block _ (World.block_lt_of_cell? w a hu))]; exact hf
theorem below_step {a b c : World} (h : Below a.heap.size a b) (k : Below b.heap.size b c) : Below a.heap.size a c := h.trans (k.mono h.size)
theorem below_step' {B : Nat} {a b c : World} (h : Below B a b) (k : Below b.heap.size b c) (hB : B ≤ b.heap.size) : Below B a c := h.trans (k.mono hB)
theorem below_new {a b : World} (h : Below a.heap.size a b) (o : Obj) : Below a.heap.size a (b.alloc o) := h.alloc h.size o

section
variable {P : Program} {f : FuncId} {args : Array Value} {w : World} {v : Value}
theorem und_call (x : Und w) (h : Calls P f args (und w x) fun e w' => e = .returned v ∧ Below (und w x).heap.size (und w x) w') :
    Calls P f args (und w x) fun e w'' => e = .returned v ∧ ∃ y : Und w, w'' = und w y :=
  h.mono fun _ w' ⟨he, hb⟩ => ⟨he, ⟨w', below_step x.h hb⟩, rfl⟩
theorem und_same (x : Und w) (h : Calls P f args (und w x) fun e w' => e = .returned v ∧ und w x = w') :
    Calls P f args (und w x) fun e w'' => e = .returned v ∧ ∃ y : Und w, w'' = und w y :=
  h.mono fun _ _ ⟨he, hb⟩ => ⟨he, x, hb.symm⟩
theorem Mm.SlAt.und {α : Type} {E : Mm.Rep α} {w : World} {B : Nat} {xs : List α} {A : Option Addr} {n c : Nat} (h : Mm.SlAt E w B xs A n c) (hB : B ≤ w.heap.size) (x : Und w) : Mm.SlAt E (und w x) B xs A n c :=
  h.keep fun b hb => x.h.block b (by omega)
theorem und_size (x : Und w) : w.heap.size ≤ (und w x).heap.size := x.h.size
end

theorem wp_region_und {P : Program} {id : Nat} {Q : Exit → Act → World → Prop} {a : Act} {w : World} {l : List Oper} (hm : P.follows .mixedOrders = true) (hB : Region.lexB .any l.toArray = true)
    (h : wpQuiet P l.toArray (fun w' => ∃ x : Und w, w' = und w x) (fun a' => ∀ X, Below w.heap.size w X → Q .normal a' X) l a) : (Code.region id l.toArray true).wp P Q a w := by
  refine wp_region_quiet (C := fun w' => ∃ x : Und w, w' = und w x) hm hB ⟨⟨w.drew, (Below.refl _ _).drew⟩, rfl⟩ ?_
  have hm' : ∀ (l' : List Oper) (a : Act) (Q Q' : Act → Prop), (∀ a, Q a → Q' a) → wpQuiet P l.toArray (fun w' => ∃ x : Und w, w' = und w x) Q l' a → wpQuiet P l.toArray (fun w' => ∃ x : Und w, w' = und w x) Q' l' a := by
    intro l'
    induction l' with
    | nil => intro a Q Q' hq h; exact hq a h
    | cons o rest ih =>
      intro a Q Q' hq h
      unfold wpQuiet at h ⊢
      split
      · rename_i hw
        rw [if_pos hw] at h
        exact Oper.quiet_mono (fun a h => ih a Q Q' hq h) h
      · rename_i hw
        rw [if_neg hw] at h
        exact ih _ Q Q' hq h
  have e : l.toArray.toList = l := rfl
  rw [e]
  exact hm' l a _ _ (fun a' hq w' ⟨x, hx⟩ => by subst hx; exact hq _ x.h) h
end Go.Proofs.Ytihendiakgfpcaa

/-
  Owned slices: made, set at an index, appended to. No program in sight. No conditions.
-/
namespace Go.Proofs.Ytihendiakgfpcaa
open Go.RowKit
namespace Mm

theorem madeCells_rep (z : Array Value) (n : Nat) (hz : 0 < z.size) : (madeCells z (n * z.size)).toList = (List.replicate n z.toList).flatten := by
  induction n with
  | zero => simp [madeCells]
  | succ n ih =>
    rw [List.replicate_succ', List.flatten_append, ← ih]
    apply List.ext_getElem?
    intro i
    have hm : ∀ N j, (madeCells z N).toList[j]? = if j < N then some z[j % z.size]! else none := by
      intro N j
      by_cases h : j < N <;> simp [madeCells, h]
    by_cases h1 : i < n * z.size
    · rw [List.getElem?_append_left (by rw [Array.length_toList, size_madeCells]; exact h1), hm, hm, if_pos h1, if_pos (by rw [Nat.add_mul]; omega)]
    · rw [List.getElem?_append_right (by rw [Array.length_toList, size_madeCells]; omega), Array.length_toList, size_madeCells, hm]
      by_cases h2 : i < (n + 1) * z.size
      · obtain ⟨d, hd⟩ : ∃ d, i = d + n * z.size := ⟨i - n * z.size, by omega⟩
        have h3 : d < z.size := by rw [Nat.add_mul] at h2; omega
        rw [if_pos h2, hd, Nat.add_mul_mod_self_right, Nat.mod_eq_of_lt h3, Nat.add_sub_cancel]
        simp [h3]
      · rw [if_neg h2]
        have h3 : ¬ i - n * z.size < z.size := by rw [Nat.add_mul] at h2; omega
        simp
        omega

section
variable {α : Type} {E : Rep α} {e : TypeId} {w w' : World} {xs : List α} {v : Value} {fp : List Nat}

theorem SlOwn.nil : SlOwn E e w [] (.slice none 0 0) [] := ⟨[], ⟨rfl, fun i x y h => by simp at h⟩, World.ownsRow_nil _ _ _ _, rfl⟩

theorem flatMap_rep {β γ : Type} (f : β → List γ) (y : β) (n : Nat) : (List.replicate n y).flatMap f = (List.replicate n (f y)).flatten := by
  rw [List.flatMap_def, List.map_replicate]

/-- make([]T, n) -/
theorem SlOwn.made {n : Nat} {z : Value} {z0 : α} (hown : w.ownsRow 0 e E.size v n (madeCells z.cells (n * E.size)).toList) (hz : E.own w z0 z.cells.toList []) (h0 : 0 < E.size) :
    SlOwn E e w (List.replicate n z0) v v.ownBlock.toList := by
  have hs : z.cells.size = E.size := by have := E.olen hz; simpa using this
  refine ⟨List.replicate n (z.cells.toList, []), ⟨by simp, fun i x y hx hy => ?_⟩, ?_, ?_⟩
  · rw [List.getElem?_replicate] at hx hy
    by_cases hi : i < n
    · rw [if_pos hi] at hx hy
      injection hx with hx; injection hy with hy
      subst hx; subst hy
      exact hz
    · rw [if_neg hi] at hx
      cases hx
  · rw [List.length_replicate, flatMap_rep, ← madeCells_rep z.cells n (by omega), hs]
    exact hown
  · rw [flatMap_rep]
    have : ∀ m : Nat, (List.replicate m ([] : List Nat)).flatten = [] := fun m => by induction m with
      | zero => rfl
      | succ m ih => rw [List.replicate_succ, List.flatten_cons, ih]; rfl
    simp [this]

/-- several cells in a row are stored -/
def setCells (w : World) (g : Nat) : Nat → List Value → World
  | _, [] => w
  | o, c :: cs => setCells (w.setCell ⟨g, o, none⟩ c) g (o + 1) cs
def setList : List Value → Nat → List Value → List Value
  | l, _, [] => l
  | l, o, c :: cs => setList (l.set o c) (o + 1) cs
theorem setList_len : ∀ (cs l : List Value) (o : Nat), (setList l o cs).length = l.length
  | [], _, _ => rfl
  | c :: cs, l, o => by unfold setList; rw [setList_len cs]; simp
theorem setList_get : ∀ (cs l : List Value) (o i : Nat), o + cs.length ≤ l.length → (setList l o cs)[i]? = if o ≤ i ∧ i < o + cs.length then cs[i - o]? else l[i]?
  | [], l, o, i, _ => by
    unfold setList
    rw [if_neg (by simp only [List.length_nil]; omega)]
  | c :: cs, l, o, i, h => by
    unfold setList
    simp only [List.length_cons] at h ⊢
    rw [setList_get cs (l.set o c) (o + 1) i (by rw [List.length_set]; omega)]
    by_cases h1 : o + 1 ≤ i ∧ i < o + 1 + cs.length
    · rw [if_pos h1, if_pos (by omega), show i - o = (i - (o + 1)) + 1 by omega, List.getElem?_cons_succ]
    · rw [if_neg h1]
      by_cases h2 : i = o
      · subst h2
        rw [if_pos (by omega), List.getElem?_set_self (by omega), Nat.sub_self]
        rfl
      · rw [if_neg (by omega), List.getElem?_set_ne (by omega)]
theorem setCells_heap (g : Nat) : ∀ (cs : List Value) (w : World) (o k : Nat), k ≠ g → (setCells w g o cs).heap[k]? = w.heap[k]?
  | [], _, _, _, _ => rfl
  | c :: cs, w, o, k, h => by unfold setCells; rw [setCells_heap g cs _ _ k h]; exact Below.heap_setCell _ _ _ _ h
theorem setCells_grown (g : Nat) : ∀ (cs : List Value) (w : World) (o : Nat), w.grownBy (setCells w g o cs) (some g)
  | [], w, _ => ⟨rfl, rfl, rfl, Nat.le_refl _, fun _ _ _ => rfl⟩
  | c :: cs, w, o => by
    unfold setCells
    have h1 := setCells_grown g cs (w.setCell ⟨g, o, none⟩ c) (o + 1)
    exact ⟨h1.os, h1.tape, h1.output, by have := h1.size; simpa [World.setCell] using this, fun k _ hk => by
      have hkg : k ≠ g := fun e => hk (by rw [e])
      rw [setCells_heap g cs _ _ k hkg]; exact Below.heap_setCell _ _ _ _ hkg⟩
theorem setCells_own {base n cap : Nat} {size : Nat} (g : Nat) : ∀ (cs : List Value) (w : World) (o : Nat) (l : List Value), w.ownsRow base e size (.slice (some ⟨g, 0, none⟩) n cap) n l →
    (setCells w g o cs).ownsRow base e size (.slice (some ⟨g, 0, none⟩) n cap) n (setList l o cs)
  | [], _, _, _, h => h
  | c :: cs, _, o, _, h => setCells_own g cs _ (o + 1) _ (h.stored o c).1

theorem setList_elems (s : Nat) : ∀ (es : List (List Value × List Nat)) (i : Nat) (cs : List Value) (fx : List Nat), (∀ y ∈ es, y.1.length = s) → cs.length = s → i < es.length →
    setList (es.flatMap (·.1)) (i * s) cs = (es.set i (cs, fx)).flatMap (·.1) := by
  intro es i cs fx hs hc hi
  have hlen : ∀ l : List (List Value × List Nat), (∀ y ∈ l, y.1.length = s) → (l.flatMap (·.1)).length = l.length * s := by
    intro l
    induction l with
    | nil => intro _; simp
    | cons z t ih =>
      intro h
      rw [List.flatMap_cons, List.length_append, ih (fun y hy => h y (by simp [hy])), h z (by simp), List.length_cons, Nat.add_mul]
      omega
  have hs' : ∀ y ∈ es.set i (cs, fx), y.1.length = s := by
    intro y hy
    rcases List.mem_or_eq_of_mem_set hy with h | rfl
    · exact hs y h
    · exact hc
  have hb : i * s + s ≤ es.length * s := by
    have := Nat.mul_le_mul_right s (show i + 1 ≤ es.length by omega)
    rw [Nat.add_mul] at this; omega
  apply List.ext_getElem?
  intro j
  rw [setList_get _ _ _ _ (by rw [hlen es hs, hc]; exact hb), hc]
  by_cases hj : j < es.length * s
  · have hs0 : 0 < s := Nat.pos_of_ne_zero (fun h => by rw [h] at hj; omega)
    have hq : j / s < es.length := (Nat.div_lt_iff_lt_mul hs0).2 hj
    have hr : j % s < s := Nat.mod_lt _ hs0
    have hjj : j = (j / s) * s + j % s := by rw [Nat.mul_comm]; exact (Nat.div_add_mod j s).symm
    by_cases hji : j / s = i
    · rw [if_pos (by rw [hji] at hjj; omega)]
      have hu := List.getElem?_eq_getElem (show j % s < cs.length by omega)
      have h1 := flatMap_get (·.1) s (es.set i (cs, fx)) hs' i (cs, fx) (j % s) _ (List.getElem?_set_self hi) hu
      rw [hji] at hjj
      rw [← hjj] at h1
      rw [h1, show j - i * s = j % s by omega, hu]
    · rw [if_neg (by
        intro h
        apply hji
        have h3 : j < (i + 1) * s := by rw [Nat.add_mul]; omega
        have h1 := (Nat.div_lt_iff_lt_mul hs0).2 h3
        have h2 := (Nat.le_div_iff_mul_le hs0).2 h.1
        omega)]
      have hy := List.getElem?_eq_getElem hq
      have hyl := hs _ (List.getElem_mem hq)
      have hu := List.getElem?_eq_getElem (show j % s < es[j / s].1.length by omega)
      have h1 := flatMap_get (·.1) s es hs (j / s) _ (j % s) _ hy hu
      have h2 := flatMap_get (·.1) s (es.set i (cs, fx)) hs' (j / s) _ (j % s) _ (by rw [List.getElem?_set_ne (Ne.symm hji)]; exact hy) hu
      rw [← hjj] at h1 h2
      rw [h1, h2]
  · rw [if_neg (by omega), List.getElem?_eq_none (by rw [hlen es hs]; omega), List.getElem?_eq_none (by rw [hlen _ hs', List.length_set]; omega)]

/-- out[i] = x, x's own blocks new -/
theorem SlOwn.set {g n c : Nat} (h : SlOwn E e w xs (.slice (some ⟨g, 0, none⟩) n c) fp) {i : Nat} (hi : i < xs.length) {x : α} {cs : List Value} {fx : List Nat} (hx : E.own w x cs fx)
    (hnd : fp.Nodup) (hxd : fx.Nodup) (hdis : ∀ b, b ∈ fx → b ∉ fp) :
    ∃ fp', SlOwn E e (setCells w g (i * E.size) cs) (xs.set i x) (.slice (some ⟨g, 0, none⟩) n c) fp' ∧ fp'.Nodup ∧ ∀ b, b ∈ fp' → b ∈ fp ∨ b ∈ fx := by
  obtain ⟨es, he, ho, rfl⟩ := h
  have hn : n = xs.length := by
    rcases ho.2 with ⟨h, _⟩ | ⟨g', cap, cur, h, _⟩
    · cases h
    · injection h
  subst hn
  have hie : i < es.length := by rw [he.1]; exact hi
  have hgx : g ∉ fx := fun hg => hdis g hg (by simp [Value.ownBlock])
  have hgn : ∀ y ∈ es, g ∉ y.2 := fun y hy hg => by
    simp only [Value.ownBlock, Option.toList_some, List.singleton_append, List.nodup_cons] at hnd
    exact hnd.1 (List.mem_flatMap.2 ⟨y, hy, hg⟩)
  have hsub : ∀ b, b ∈ (es.set i (cs, fx)).flatMap (·.2) → b ∈ es.flatMap (·.2) ∨ b ∈ fx := by
    intro b hb
    obtain ⟨y, hy, hb⟩ := List.mem_flatMap.1 hb
    rcases List.mem_or_eq_of_mem_set hy with h | rfl
    · exact .inl (List.mem_flatMap.2 ⟨y, h, hb⟩)
    · exact .inr hb
  refine ⟨_, ⟨es.set i (cs, fx), ⟨by rw [List.length_set, List.length_set, he.1], fun k y z hy hz => ?_⟩, ?_, rfl⟩, ?_, ?_⟩
  · by_cases hk : i = k
    · subst hk
      rw [List.getElem?_set_self hie] at hz
      rw [List.getElem?_set_self hi] at hy
      injection hy with hy; injection hz with hz
      subst hy; subst hz
      exact E.okeep hx fun b hb => setCells_heap g _ _ _ _ (fun e => hgx (e ▸ hb))
    · rw [List.getElem?_set_ne hk] at hz hy
      exact E.okeep (he.2 k y z hy hz) fun b hb => setCells_heap g _ _ _ _ (fun e => hgn z (List.mem_of_getElem? hz) (e ▸ hb))
  · rw [List.length_set, ← setList_elems E.size es i cs fx he.len (E.olen hx) hie]
    exact setCells_own g cs w _ _ ho
  · simp only [Value.ownBlock, Option.toList_some, List.singleton_append, List.nodup_cons] at hnd ⊢
    refine ⟨fun hg => (hsub g hg).elim hnd.1 hgx, ?_⟩
    have hd := hnd.2
    have e1 : es = es.take i ++ es[i] :: es.drop (i + 1) := by rw [← List.drop_eq_getElem_cons hie, List.take_append_drop]
    have e2 : es.set i (cs, fx) = es.take i ++ (cs, fx) :: es.drop (i + 1) := List.set_eq_take_append_cons_drop.trans (by rw [if_pos hie])
    rw [e1] at hd
    rw [e2]
    simp only [List.flatMap_append, List.flatMap_cons] at hd ⊢
    simp only [List.nodup_append] at hd ⊢
    have dis : ∀ b, b ∈ fx → b ∉ es.flatMap (·.2) := fun b hb hm => hdis b hb (List.mem_append_right _ hm)
    have m1 : ∀ b, b ∈ (es.take i).flatMap (·.2) → b ∈ es.flatMap (·.2) := fun b hb => by
      obtain ⟨y, hy, hb⟩ := List.mem_flatMap.1 hb
      exact List.mem_flatMap.2 ⟨y, List.mem_of_mem_take hy, hb⟩
    have m2 : ∀ b, b ∈ (es.drop (i + 1)).flatMap (·.2) → b ∈ es.flatMap (·.2) := fun b hb => by
      obtain ⟨y, hy, hb⟩ := List.mem_flatMap.1 hb
      exact List.mem_flatMap.2 ⟨y, List.mem_of_mem_drop hy, hb⟩
    refine ⟨hd.1, ⟨hxd, hd.2.1.2.1, fun a ha b hb hab => ?_⟩, fun a ha b hb hab => ?_⟩
    · subst hab; exact dis a ha (m2 a hb)
    · subst hab
      rcases List.mem_append.1 hb with hb | hb
      · exact dis a hb (m1 a ha)
      · exact hd.2.2 a ha a (List.mem_append_right _ hb) rfl
  · intro b hb
    rcases List.mem_append.1 hb with hb | hb
    · exact .inl (List.mem_append_left _ hb)
    · rcases hsub b hb with h | h
      · exact .inl (List.mem_append_right _ h)
      · exact .inr h

theorem SlOwn.frozen {g n c : Nat} (h : SlOwn E e w xs (.slice (some ⟨g, 0, none⟩) n c) fp) (j : Nat) : w.frozen? ⟨g, j, none⟩ = false := by
  obtain ⟨es, he, ho, _⟩ := h
  have hn : n = xs.length := by
    rcases ho.2 with ⟨h, _⟩ | ⟨g', cap, cur, h, _⟩
    · cases h
    · injection h
  subst hn
  exact ho.frozenAt j
theorem SlOwn.mem_block {g n c : Nat} (h : SlOwn E e w xs (.slice (some ⟨g, 0, none⟩) n c) fp) : g ∈ fp := by
  obtain ⟨es, he, ho, rfl⟩ := h
  simp [Value.ownBlock]
/-- append(out, x): what the law on append asks, and what its answer is worth -/
theorem SlOwn.push (h : SlOwn E e w xs v fp) {x : α} {cs : List Value} {fx : List Nat} (hx : E.own w x cs fx) (hnd : fp.Nodup) (hxd : fx.Nodup) (hdis : ∀ b, b ∈ fx → b ∉ fp) :
    ∃ l, w.ownsRow 0 e E.size v xs.length l ∧ ∀ v' w', w'.ownsRow 0 e E.size v' (xs.length + 1) (l ++ cs) → w.grownBy w' v.ownBlock → (v'.ownBlock = v.ownBlock ∨ v'.ownBlock = some w.heap.size) →
      ∃ fp', SlOwn E e w' (xs ++ [x]) v' fp' ∧ fp'.Nodup ∧ ∀ b, b ∈ fp' → b ∈ fp ∨ b ∈ fx ∨ b = w.heap.size := by
  have hlt := h.olt
  have hxlt := E.olt hx
  obtain ⟨es, he, ho, rfl⟩ := h
  refine ⟨_, ho, fun v' w' ho' hg hat => ?_⟩
  have hkeep : ∀ b, b ∈ es.flatMap (·.2) → w'.heap[b]? = w.heap[b]? := fun b hb => hg.block b (hlt b (List.mem_append_right _ hb)) (fun hv => by
    rw [List.nodup_append] at hnd
    exact hnd.2.2 b (by rw [← hv]; simp) b hb rfl)
  have hkx : ∀ b, b ∈ fx → w'.heap[b]? = w.heap[b]? := fun b hb => hg.block b (hxlt b hb) (fun hv => hdis b hb (List.mem_append_left _ (by rw [← hv]; simp)))
  refine ⟨_, ⟨es ++ [(cs, fx)], ⟨by simp [he.1], fun i y z hy hz => ?_⟩, ?_, rfl⟩, ?_, ?_⟩
  · by_cases hi : i < xs.length
    · rw [List.getElem?_append_left hi] at hy
      rw [List.getElem?_append_left (by rw [he.1]; exact hi)] at hz
      exact E.okeep (he.2 i y z hy hz) fun b hb => hkeep b (List.mem_flatMap.2 ⟨z, List.mem_of_getElem? hz, hb⟩)
    · rw [List.getElem?_append_right (by omega)] at hy
      rw [List.getElem?_append_right (by rw [he.1]; omega), he.1] at hz
      obtain rfl : i = xs.length := by
        have := (List.getElem?_eq_some_iff.1 hy).1
        simp at this; omega
      simp at hy hz
      subst hy; subst hz
      exact E.okeep hx hkx
  · simpa [List.flatMap_append] using ho'
  · have hvn : ∀ b, b ∈ v'.ownBlock.toList → b ∉ es.flatMap (·.2) ∧ b ∉ fx := fun b hb => by
      rcases hat with hat | hat
      · rw [hat] at hb
        rw [List.nodup_append] at hnd
        exact ⟨fun hm => hnd.2.2 b hb b hm rfl, fun hm => hdis b hm (List.mem_append_left _ hb)⟩
      · rw [hat] at hb
        simp at hb
        subst hb
        exact ⟨fun hm => by have := hlt _ (List.mem_append_right _ hm); omega, fun hm => by have := hxlt _ hm; omega⟩
    have h1 : v'.ownBlock.toList.Nodup := by cases v'.ownBlock <;> simp
    rw [List.nodup_append] at hnd ⊢
    refine ⟨h1, ?_, fun a ha b hb hab => ?_⟩
    · rw [List.flatMap_append, List.nodup_append]
      exact ⟨hnd.2.1, by simpa using hxd, fun a ha b hb hab => by
        subst hab
        simp at hb
        exact hdis a hb (List.mem_append_right _ ha)⟩
    · subst hab
      rw [List.flatMap_append] at hb
      rcases List.mem_append.1 hb with hb | hb
      · exact (hvn a ha).1 hb
      · simp at hb; exact (hvn a ha).2 hb
  · intro b hb
    rcases List.mem_append.1 hb with hb | hb
    · rcases hat with hat | hat
      · rw [hat] at hb
        exact .inl (List.mem_append_left _ hb)
      · rw [hat] at hb
        simp at hb
        exact .inr (.inr hb)
    · rw [List.flatMap_append] at hb
      rcases List.mem_append.1 hb with hb | hb
      · exact .inl (List.mem_append_right _ hb)
      · simp at hb; exact .inr (.inl hb)
end
/-- l's first k, the rest zero -/
theorem takeRep_set {α : Type} {l : List α} {n k : Nat} {x z : α} (hn : l.length = n) (hk : k < n) (hx : l[k]? = some x) :
    (l.take k ++ List.replicate (n - k) z).set k x = l.take (k + 1) ++ List.replicate (n - (k + 1)) z := by
  have hl : (l.take k).length = k := by rw [List.length_take]; omega
  have hkl : k < l.length := by omega
  rw [List.set_append, if_neg (by omega), hl, Nat.sub_self, show n - k = (n - (k + 1)) + 1 by omega, List.replicate_succ, List.set_cons_zero, List.take_succ_eq_append_getElem hkl, List.append_assoc]
  rw [List.getElem?_eq_getElem hkl] at hx
  injection hx with hx
  rw [hx]
  rfl
theorem takeRep_end {α : Type} {l : List α} {n k : Nat} {z : α} (hn : l.length = n) (hk : n ≤ k) : l.take k ++ List.replicate (n - k) z = l := by
  rw [List.take_of_length_le (by omega), show n - k = 0 by omega]; simp
theorem takeRep_len {α : Type} {l : List α} {n k : Nat} {z : α} (hn : l.length = n) (hk : k ≤ n) : (l.take k ++ List.replicate (n - k) z).length = n := by
  rw [List.length_append, List.length_take, List.length_replicate]; omega
/-- a call hands back a new slice that reads as l -/
def NewSl {α : Type} (E : Rep α) (t : TypeId) (w : World) (l : List α) (e : Ending) (w' : World) : Prop :=
  ∃ A n c fp, e = .returned (.slice A n c) ∧ SlOwn E t w' l (.slice A n c) fp ∧ fp.Nodup ∧ (∀ b, b ∈ fp → w.heap.size ≤ b) ∧ Below w.heap.size w w'
/-- in the middle of 'out := make([]T, n); for i := .. { out[i] = .. }': k are filled -/
def Filled {α : Type} (E : Rep α) (t : TypeId) (w : World) (l : List α) (z : α) (n k : Nat) (wr : World) : Prop :=
  Below w.heap.size w wr ∧ l.length = n ∧ ∃ fp, SlOwn E t wr (l.take k ++ List.replicate (n - k) z) (.slice (some ⟨w.heap.size, 0, none⟩) n n) fp ∧ fp.Nodup ∧ ∀ b, b ∈ fp → w.heap.size ≤ b
section
variable {α : Type} {E : Rep α} {t : TypeId} {w wr w1 : World} {l : List α} {z : α} {n k : Nat}
theorem Filled.start {zv : Value} (hl : l.length = n) (hown : w1.ownsRow 0 t E.size (.slice (some ⟨w.heap.size, 0, none⟩) n n) n (madeCells zv.cells (n * E.size)).toList) (hg : w.grownBy w1 none) (hz : E.own w1 z zv.cells.toList []) (h0 : 0 < E.size) : Filled E t w l z n 0 w1 := by
  refine ⟨(Below.refl _ _).grown hg (Nat.le_refl _) (fun k h => by cases h), hl, [w.heap.size], ?_, ?_, ?_⟩
  · have := SlOwn.made hown hz h0
    simpa [Value.ownBlock] using this
  · simp
  · simp
theorem Filled.below (h : Filled E t w l z n k wr) : Below w.heap.size w wr := h.1
theorem Filled.lt (h : Filled E t w l z n k wr) : w.heap.size < wr.heap.size := by
  obtain ⟨_, _, fp, hs, _⟩ := h
  exact hs.olt _ hs.mem_block
theorem Filled.keep (h : Filled E t w l z n k wr) (hb : Below wr.heap.size wr w1) : Filled E t w l z n k w1 := by
  obtain ⟨h1, h2, fp, hs, hr⟩ := h
  exact ⟨h1.trans (hb.mono h1.size), h2, fp, hs.okeep fun b hb' => hb.block b (hs.olt b hb'), hr⟩
/-- the cells that are about to be stored into -/
theorem Filled.cell (h : Filled E t w l z n k wr) (hk : k < n) {j : Nat} (hj : j < E.size) : ∃ u, wr.cell? ⟨w.heap.size, k * E.size + j, none⟩ = some u := by
  obtain ⟨h1, h2, fp, hs, _⟩ := h
  have hw := hs.weak (B := wr.heap.size) (fun b hb => hs.olt b hb)
  obtain ⟨x, cs, _, _, ha, hc⟩ := hw.get' hk
  have hl := E.len ha
  have := hc j _ (List.getElem?_eq_getElem (by omega))
  rw [Nat.zero_add] at this
  exact ⟨_, this⟩
theorem Filled.frozen (h : Filled E t w l z n k wr) (j : Nat) : wr.frozen? ⟨w.heap.size, j, none⟩ = false := by
  obtain ⟨h1, h2, fp, hs, _⟩ := h
  exact hs.frozen j
theorem Filled.step (h : Filled E t w l z n k wr) (hk : k < n) {x : α} {cs : List Value} {fx : List Nat} (hlx : l[k]? = some x) (hb : Below wr.heap.size wr w1) (hx : E.own w1 x cs fx) (hxd : fx.Nodup) (hxf : ∀ b, b ∈ fx → wr.heap.size ≤ b) :
    Filled E t w l z n (k + 1) (setCells w1 w.heap.size (k * E.size) cs) := by
  have hlt := h.lt
  obtain ⟨h1, h2, fp, hs, hnd, hfr⟩ := h
  have hs1 := hs.okeep (w' := w1) fun b hb' => hb.block b (hs.olt b hb')
  have hln := takeRep_len (z := z) h2 (Nat.le_of_lt hk)
  obtain ⟨fp', hs', hnd', hsub⟩ := hs1.set (i := k) (by rw [hln]; exact hk) hx hnd hxd (fun b hb hm => by have := hxf b hb; have := hs.olt b hm; omega)
  rw [takeRep_set h2 hk hlx] at hs'
  refine ⟨?_, h2, fp', hs', hnd', fun b hb => ?_⟩
  · exact (h1.trans (hb.mono h1.size)).grown (setCells_grown _ _ _ _) (Nat.le_trans h1.size hb.size) (fun k hk => by injection hk with hk; omega)
  · rcases hsub b hb with h | h
    · exact hfr b h
    · have := hxf b h; omega
theorem Filled.done (h : Filled E t w l z n k wr) (hk : n ≤ k) : NewSl E t w l (.returned (.slice (some ⟨w.heap.size, 0, none⟩) n n)) wr := by
  obtain ⟨h1, h2, fp, hs, hnd, hfr⟩ := h
  rw [takeRep_end h2 hk] at hs
  exact ⟨_, _, _, fp, rfl, hs, hnd, hfr, h1⟩
end
end Mm
end Go.Proofs.Ytihendiakgfpcaa

/-
  A block that is known whole: a local struct, a variable that a closure holds. No program in sight. No conditions.
-/
namespace Go.Proofs.Ytihendiakgfpcaa
open Go.RowKit
namespace Mm
/-- block g holds just the cells cs, of element type t, none of them frozen -/
def Blk (w : World) (g : Nat) (t : TypeId) (cs : List Value) : Prop := w.heap[g]? = some (.cells cs.toArray t (0, 0))
section
variable {w w' : World} {g : Nat} {t : TypeId} {cs : List Value}
theorem Blk.lt (h : Blk w g t cs) : g < w.heap.size := by
  rcases Nat.lt_or_ge g w.heap.size with hlt | hge
  · exact hlt
  · unfold Blk at h; rw [Array.getElem?_eq_none hge] at h; cases h
theorem Blk.cell (h : Blk w g t cs) {i : Nat} {u : Value} (hu : cs[i]? = some u) : w.cell? ⟨g, i, none⟩ = some u := by
  rw [cell_of_row w g i _ t (0, 0) h]; simpa using hu
theorem Blk.frozen (h : Blk w g t cs) (i : Nat) : w.frozen? ⟨g, i, none⟩ = false := frozen_of_row w g i _ t h
theorem Blk.new (w : World) (t : TypeId) (cs : List Value) : Blk (w.alloc (.cells cs.toArray t)) w.heap.size t cs := heap_alloc_new w _
theorem sz1 (w : World) (o : Obj) : (w.alloc o).heap.size = w.heap.size + 1 := by simp
theorem sz2 (w : World) (o p : Obj) : ((w.alloc o).alloc p).heap.size = w.heap.size + 2 := by simp
theorem heap_new (w : World) {g : Nat} (h : w.heap.size = g) (o : Obj) : (w.alloc o).heap[g]? = some o := by subst h; exact heap_alloc_new w o
theorem Blk.new' (w : World) (t : TypeId) (cs : List Value) {g : Nat} (h : w.heap.size = g) : Blk (w.alloc (.cells cs.toArray t)) g t cs := heap_new w h _
theorem Blk.keep (h : Blk w g t cs) (k : w'.heap[g]? = w.heap[g]?) : Blk w' g t cs := k.trans h
theorem Blk.alloc (h : Blk w g t cs) (o : Obj) : Blk (w.alloc o) g t cs := h.keep (Below.heap_alloc w o g h.lt)
theorem Blk.below {B : Nat} (h : Blk w g t cs) (hb : Below B w w') (hg : g < B) : Blk w' g t cs := h.keep (hb.block g hg)
theorem Blk.bel (h : Blk w g t cs) (hb : Below w.heap.size w w') : Blk w' g t cs := h.keep (hb.block g h.lt)
theorem Blk.set_ (h : Blk w g t cs) (i : Nat) (u : Value) : Blk (w.setCell ⟨g, i, none⟩ u) g t (cs.set i u) := by
  unfold Blk at h ⊢
  have := heap_setCell_same w g i _ t u h
  rw [this]; simp
theorem Blk.far (h : Blk w g t cs) {p : Addr} (hp : g ≠ p.block) (u : Value) : Blk (w.setCell p u) g t cs := h.keep (Below.heap_setCell w p u g hp)
theorem Blk.grown {row : Option Nat} (h : Blk w g t cs) (hb : w.grownBy w' row) (hg : some g ≠ row) : Blk w' g t cs := h.keep (hb.block g h.lt hg)
end
/-- only the blocks of fp, and what is new, have turned -/
structure Chg (fp : List Nat) (w w' : World) : Prop where
  os : w'.os = w.os
  tape : w'.tape = w.tape
  output : w'.output = w.output
  size : w.heap.size ≤ w'.heap.size
  block : ∀ k, k < w.heap.size → k ∉ fp → w'.heap[k]? = w.heap[k]?
section
variable {fp : List Nat} {a b c : World} {B : Nat}
theorem Chg.refl (fp : List Nat) (w : World) : Chg fp w w := ⟨rfl, rfl, rfl, Nat.le_refl _, fun _ _ _ => rfl⟩
theorem Chg.trans (h : Chg fp a b) (k : Chg fp b c) : Chg fp a c := ⟨k.os.trans h.os, k.tape.trans h.tape, k.output.trans h.output, Nat.le_trans h.size k.size, fun i hi hn => (k.block i (Nat.lt_of_lt_of_le hi h.size) hn).trans (h.block i hi hn)⟩
theorem Chg.of_below (h : Below a.heap.size a b) : Chg fp a b := ⟨h.os, h.tape, h.output, h.size, fun i hi _ => h.block i hi⟩
theorem Chg.more {fp' : List Nat} (h : Chg fp a b) (k : ∀ x, x ∈ fp → x ∈ fp') : Chg fp' a b := ⟨h.os, h.tape, h.output, h.size, fun i hi hn => h.block i hi (fun hx => hn (k i hx))⟩
theorem Chg.setCell (h : Chg fp a b) {p : Addr} (hp : p.block ∈ fp) (u : Value) : Chg fp a (b.setCell p u) :=
  h.trans ⟨rfl, rfl, rfl, by simp [World.setCell], fun i _ hn => Below.heap_setCell _ _ _ _ (fun e => hn (e ▸ hp))⟩
/-- what was changed was new: below B nothing has turned -/
theorem Below.chg (h : Below B a b) (k : Chg fp b c) (hB : B ≤ b.heap.size) (hf : ∀ x, x ∈ fp → B ≤ x) : Below B a c :=
  h.trans ⟨k.os, k.tape, k.output, k.size, fun i hi => k.block i (by omega) (fun hx => by have := hf i hx; omega)⟩
end
/-- a block that is known whole is an owned slice of what leads nowhere -/
theorem SlOwn.of_blk {α : Type} {E : Rep α} {e : TypeId} {w : World} {g : Nat} {xs : List α} {n : Nat} (enc : α → List Value) (h : Blk w g e (xs.flatMap enc)) (hE : ∀ x, x ∈ xs → E.own w x (enc x) []) (hl : xs.length = n) (hn : n ≤ maxLen) :
    SlOwn E e w xs (.slice (some ⟨g, 0, none⟩) n n) [g] := by
  subst hl
  have h1 : ∀ l : List α, (l.map fun x => (enc x, ([] : List Nat))).flatMap (·.1) = l.flatMap enc := fun l => by simp [List.flatMap_map]
  have h2 : ∀ l : List α, (l.map fun x => (enc x, ([] : List Nat))).flatMap (·.2) = [] := fun l => by simp [List.flatMap_map]
  have h3 : ∀ l : List α, (∀ x, x ∈ l → E.own w x (enc x) []) → (l.flatMap enc).length = l.length * E.size := fun l => by
    induction l with
    | nil => intro _; simp
    | cons a t ih =>
      intro hh
      rw [List.flatMap_cons, List.length_append, ih (fun x hx => hh x (by simp [hx])), E.olen (hh a (by simp)), List.length_cons, Nat.add_mul]; omega
  refine ⟨xs.map fun x => (enc x, []), ⟨by simp, fun i x y hx hy => ?_⟩, ?_, by rw [h2]; simp [Value.ownBlock]⟩
  · rw [List.getElem?_map, hx] at hy
    simp at hy
    subst hy
    exact hE x (List.mem_of_getElem? hx)
  · rw [h1]
    refine ⟨h3 xs hE, .inr ⟨g, xs.length, _, rfl, Nat.zero_le _, h, Nat.le_refl _, hn, by simpa using h3 xs hE, ?_⟩⟩
    rw [List.take_of_length_le (by simp [h3 xs hE])]
/-- 'p.F = append(p.F, x)', p's block known whole: what the law on append asks; what its answer and the store are worth -/
theorem field_push {α : Type} {E : Rep α} {e : TypeId} {wr W2 : World} {gs i : Nat} {t : TypeId} {cs : List Value} {xs : List α} {v : Value} {fp : List Nat} {x : α} {cx : List Value} {fx : List Nat}
    (hblk : Blk wr gs t cs) (hown : SlOwn E e wr xs v fp) (hnd : fp.Nodup) (hgs : gs ∉ fp) (hb2 : Below wr.heap.size wr W2) (hx : E.own W2 x cx fx) (hxd : fx.Nodup) (hxf : ∀ b, b ∈ fx → wr.heap.size ≤ b) :
    ∃ l, W2.ownsRow 0 e E.size v xs.length l ∧ ∀ gg cap w1, w1.ownsRow 0 e E.size (.slice (some ⟨gg, 0, none⟩) (xs.length + 1) cap) (xs.length + 1) (l ++ cx) → W2.grownBy w1 v.ownBlock → (v.ownBlock = some gg ∨ gg = W2.heap.size) →
      Blk w1 gs t cs ∧ ∃ fp', Blk (w1.setCell ⟨gs, i, none⟩ (.slice (some ⟨gg, 0, none⟩) (xs.length + 1) cap)) gs t (cs.set i (.slice (some ⟨gg, 0, none⟩) (xs.length + 1) cap)) ∧
        SlOwn E e (w1.setCell ⟨gs, i, none⟩ (.slice (some ⟨gg, 0, none⟩) (xs.length + 1) cap)) (xs ++ [x]) (.slice (some ⟨gg, 0, none⟩) (xs.length + 1) cap) fp' ∧ fp'.Nodup ∧ (∀ b, b ∈ fp' → b ∈ fp ∨ wr.heap.size ≤ b) ∧
        (∀ (B : Nat) (w : World), Below B w wr → B ≤ wr.heap.size → B ≤ gs → (∀ b, b ∈ fp → B ≤ b) → Below B w (w1.setCell ⟨gs, i, none⟩ (.slice (some ⟨gg, 0, none⟩) (xs.length + 1) cap))) ∧
        (∀ b, b < wr.heap.size → b ≠ gs → b ∉ fp → (w1.setCell ⟨gs, i, none⟩ (.slice (some ⟨gg, 0, none⟩) (xs.length + 1) cap)).heap[b]? = wr.heap[b]?) := by
  have hown2 := hown.okeep (w' := W2) fun b hb => hb2.block b (hown.olt b hb)
  obtain ⟨l, ho2, hnext⟩ := hown2.push hx hnd hxd (fun b hb hm => by have := hxf b hb; have := hown.olt b hm; omega)
  refine ⟨l, ho2, fun gg cap w1 h1 h2 h3 => ?_⟩
  obtain ⟨fp', h4, h5, h6⟩ := hnext _ w1 h1 h2 (h3.elim (fun h => .inl h.symm) (fun h => .inr (by rw [h]; rfl)))
  have hfg : some gs ≠ v.ownBlock := fun h => hgs (by
    obtain ⟨es, _, _, rfl⟩ := hown
    exact List.mem_append_left _ (by rw [← h]; simp))
  have hb1 : Blk w1 gs t cs := (hblk.bel hb2).grown h2 hfg
  have hsub : ∀ b, b ∈ fp' → b ∈ fp ∨ wr.heap.size ≤ b := fun b hb => by
    rcases h6 b hb with h | h | h
    · exact .inl h
    · exact .inr (hxf b h)
    · exact .inr (by have := hb2.size; omega)
  refine ⟨hb1, fp', hb1.set_ _ _, h4.okeep fun b hb => ?_, h5, hsub, fun B w hw hB hg hf => ?_, fun b hb hg hn => ?_⟩
  · refine Below.heap_setCell _ _ _ _ ?_
    intro e'
    have e2 : b = gs := e'
    rw [e2] at hb
    rcases hsub gs hb with h | h
    · exact hgs h
    · have := hblk.lt; omega
  · have hlt := hblk.lt
    refine ((hw.trans (hb2.mono hB)).grown h2 (by have := hb2.size; omega) (fun k hk => ?_)).setCell (by show B ≤ gs; exact hg) _
    have hk' : k ∈ fp := by
      obtain ⟨es, _, _, rfl⟩ := hown
      exact List.mem_append_left _ (by rw [hk]; simp)
    exact hf k hk'
  · refine (Below.heap_setCell _ _ _ _ hg).trans ((h2.block b (by have := hb2.size; omega) (fun hk => hn ?_)).trans (hb2.block b hb))
    obtain ⟨es, _, _, rfl⟩ := hown
    exact List.mem_append_left _ (by rw [← hk]; simp)
/-- a call hands back a new thing, beside a bool -/
def Ret2 {α : Type} (R : Rep α) (w : World) (x : α) (b : Bool) (e : Ending) (w' : World) : Prop :=
  ∃ cs fp, e = .returned (.tuple #[.agg cs.toArray, .bool b]) ∧ R.own w' x cs fp ∧ fp.Nodup ∧ (∀ k, k ∈ fp → w.heap.size ≤ k) ∧ Below w.heap.size w w'
/-- a call hands back a new struct -/
def NewAg {α : Type} (R : Rep α) (w : World) (x : α) (e : Ending) (w' : World) : Prop :=
  ∃ cs fp, e = .returned (.agg cs.toArray) ∧ R.own w' x cs fp ∧ fp.Nodup ∧ (∀ k, k ∈ fp → w.heap.size ≤ k) ∧ Below w.heap.size w w'
/-- a call hands back a new slice, beside a bool -/
def RetS2 {α : Type} (E : Rep α) (t : TypeId) (w : World) (l : List α) (b : Bool) (e : Ending) (w' : World) : Prop :=
  ∃ A n c fp, e = .returned (.tuple #[.slice A n c, .bool b]) ∧ SlOwn E t w' l (.slice A n c) fp ∧ fp.Nodup ∧ (∀ k, k ∈ fp → w.heap.size ≤ k) ∧ Below w.heap.size w w'
end Mm
end Go.Proofs.Ytihendiakgfpcaa

/-
  Owned slices, marked element by element: a cell of an element stored, the inside of an element changed. No program in sight. No conditions.
-/
namespace Go.Proofs.Ytihendiakgfpcaa
open Go.RowKit
namespace Mm

def mkL {α : Type} (mk : α → Int → α) (cnt : α → Int) : List α → Int → List α
  | [], _ => []
  | x :: t, k => mk x k :: mkL mk cnt t (k + cnt x)
def cntL {α : Type} (cnt : α → Int) : List α → Int
  | [] => 0
  | x :: t => cnt x + cntL cnt t
section
variable {α : Type} {mk : α → Int → α} {cnt : α → Int}
theorem mkL_cons (x : α) (t : List α) (k : Int) : mkL mk cnt (x :: t) k = mk x k :: mkL mk cnt t (k + cnt x) := rfl
theorem cntL_cons (x : α) (t : List α) : cntL cnt (x :: t) = cnt x + cntL cnt t := rfl
theorem mkL_len : ∀ (l : List α) (k : Int), (mkL mk cnt l k).length = l.length
  | [], _ => rfl
  | x :: t, k => by rw [mkL_cons, List.length_cons, mkL_len t, List.length_cons]
theorem cntL_app : ∀ (l m : List α), cntL cnt (l ++ m) = cntL cnt l + cntL cnt m
  | [], m => by simp [cntL]
  | x :: t, m => by rw [List.cons_append, cntL_cons, cntL_cons, cntL_app t m]; omega
theorem cntL_nn (h : ∀ x, 0 ≤ cnt x) : ∀ l : List α, 0 ≤ cntL cnt l
  | [] => by simp [cntL]
  | x :: t => by have := cntL_nn h t; have := h x; rw [cntL_cons]; omega
theorem mkL_app : ∀ (l m : List α) (k : Int), mkL mk cnt (l ++ m) k = mkL mk cnt l k ++ mkL mk cnt m (k + cntL cnt l)
  | [], m, k => by simp [mkL, cntL]
  | x :: t, m, k => by
    rw [List.cons_append, mkL_cons, mkL_cons, mkL_app t m, List.cons_append, cntL_cons]
    rw [show k + (cnt x + cntL cnt t) = k + cnt x + cntL cnt t by omega]
theorem take_succ_some {l : List α} {i : Nat} {x : α} (h : l[i]? = some x) : l.take (i + 1) = l.take i ++ [x] := by
  have hi : i < l.length := (List.getElem?_eq_some_iff.1 h).1
  rw [List.take_succ_eq_append_getElem hi]
  rw [List.getElem?_eq_getElem hi] at h
  injection h with h
  rw [h]
theorem cntL_succ {l : List α} {i : Nat} {x : α} (h : l[i]? = some x) : cntL cnt (l.take (i + 1)) = cntL cnt (l.take i) + cnt x := by
  rw [take_succ_some h, cntL_app]; simp [cntL]
theorem cntL_take_le (hn : ∀ x, 0 ≤ cnt x) (l : List α) (i : Nat) : cntL cnt (l.take i) ≤ cntL cnt l := by
  have h : cntL cnt l = cntL cnt (l.take i) + cntL cnt (l.drop i) := by rw [← cntL_app, List.take_append_drop]
  have := cntL_nn hn (l.drop i)
  omega
theorem mkL_get : ∀ {l : List α} {i : Nat} {x : α} {k : Int}, l[i]? = some x → (mkL mk cnt l k)[i]? = some (mk x (k + cntL cnt (l.take i)))
  | [], i, x, k, h => by simp at h
  | y :: t, 0, x, k, h => by
    simp at h
    subst h
    simp [mkL, cntL]
  | y :: t, i + 1, x, k, h => by
    have := mkL_get (l := t) (i := i) (x := x) (k := k + cnt y) (by simpa using h)
    rw [mkL_cons, List.getElem?_cons_succ, this, List.take_succ_cons, cntL_cons]
    rw [show k + (cnt y + cntL cnt (t.take i)) = k + cnt y + cntL cnt (t.take i) by omega]
/-- the first i are marked -/
def half (mk : α → Int → α) (cnt : α → Int) (l : List α) (k : Int) (i : Nat) : List α := mkL mk cnt (l.take i) k ++ l.drop i
theorem half_zero (l : List α) (k : Int) : half mk cnt l k 0 = l := by simp [half, mkL]
theorem half_end {l : List α} {k : Int} {i : Nat} (h : l.length ≤ i) : half mk cnt l k i = mkL mk cnt l k := by
  unfold half; rw [List.take_of_length_le h, List.drop_eq_nil_of_le h, List.append_nil]
theorem half_len (l : List α) (k : Int) (i : Nat) : (half mk cnt l k i).length = l.length := by
  unfold half; rw [List.length_append, mkL_len, List.length_take, List.length_drop]; omega
theorem half_get {l : List α} {k : Int} {i : Nat} {x : α} (h : l[i]? = some x) : (half mk cnt l k i)[i]? = some x := by
  have hi : i < l.length := (List.getElem?_eq_some_iff.1 h).1
  have hl : (mkL mk cnt (l.take i) k).length = i := by rw [mkL_len, List.length_take]; omega
  unfold half
  rw [List.getElem?_append_right (by omega), hl, Nat.sub_self, List.getElem?_drop, Nat.add_zero, h]
theorem half_set {l : List α} {k : Int} {i : Nat} {x : α} (h : l[i]? = some x) : (half mk cnt l k i).set i (mk x (k + cntL cnt (l.take i))) = half mk cnt l k (i + 1) := by
  have hi : i < l.length := (List.getElem?_eq_some_iff.1 h).1
  have hl : (mkL mk cnt (l.take i) k).length = i := by rw [mkL_len, List.length_take]; omega
  have hd : l.drop i = x :: l.drop (i + 1) := by
    rw [List.drop_eq_getElem_cons hi]
    rw [List.getElem?_eq_getElem hi] at h
    injection h with h
    rw [h]
  unfold half
  rw [List.set_append, if_neg (by omega), hl, Nat.sub_self, hd, List.set_cons_zero, take_succ_some h, mkL_app, List.append_assoc]
  simp [mkL]
end

section
variable {α : Type} {E : Rep α} {e : TypeId} {w w' : World} {xs : List α} {fp : List Nat}

theorem cell_sp {w : World} {g a a' : Nat} {u : Option Value} (h : w.cell? ⟨g, a, none⟩ = u) (e : a = a') : w.cell? ⟨g, a', none⟩ = u := e ▸ h
theorem setList_one (l : List Value) (o : Nat) (u : Value) : setList l o [u] = l.set o u := rfl
/-- one cell of element i is stored into -/
theorem SlOwn.store {g n c : Nat} (h : SlOwn E e w xs (.slice (some ⟨g, 0, none⟩) n c) fp) (hnd : fp.Nodup) {i j : Nat} {x x' : α} {u : Value} (hi : xs[i]? = some x) (hj : j < E.size)
    (hx : ∀ cs fx, E.own w x cs fx → E.own w x' (cs.set j u) fx) : SlOwn E e (w.setCell ⟨g, i * E.size + j, none⟩ u) (xs.set i x') (.slice (some ⟨g, 0, none⟩) n c) fp := by
  obtain ⟨es, he, ho, rfl⟩ := h
  have hn : n = xs.length := by
    rcases ho.2 with ⟨h, _⟩ | ⟨g', cap, cur, h, _⟩
    · cases h
    · injection h
  subst hn
  have hil : i < xs.length := (List.getElem?_eq_some_iff.1 hi).1
  have hie : i < es.length := by rw [he.1]; exact hil
  have hy := List.getElem?_eq_getElem hie
  have hown := he.2 i x _ hi hy
  have hgn : ∀ y ∈ es, g ∉ y.2 := fun y hy hg => by
    simp only [Value.ownBlock, Option.toList_some, List.singleton_append, List.nodup_cons] at hnd
    exact hnd.1 (List.mem_flatMap.2 ⟨y, hy, hg⟩)
  have hk : ∀ b, b ≠ g → (w.setCell ⟨g, i * E.size + j, none⟩ u).heap[b]? = w.heap[b]? := fun b hb => Below.heap_setCell _ _ _ _ hb
  have hnew : E.own w x' (es[i].1.set j u) es[i].2 := hx _ _ hown
  have hes2 : (es.set i (es[i].1.set j u, es[i].2)).flatMap (·.2) = es.flatMap (·.2) := by
    have e2 : es.set i (es[i].1.set j u, es[i].2) = es.take i ++ (es[i].1.set j u, es[i].2) :: es.drop (i + 1) := List.set_eq_take_append_cons_drop.trans (by rw [if_pos hie])
    have e1 : es = es.take i ++ es[i] :: es.drop (i + 1) := by rw [← List.drop_eq_getElem_cons hie, List.take_append_drop]
    have e3 := congrArg (List.flatMap (·.2)) e1
    rw [List.flatMap_append, List.flatMap_cons] at e3
    rw [e2, List.flatMap_append, List.flatMap_cons]
    exact e3.symm
  refine ⟨es.set i (es[i].1.set j u, es[i].2), ⟨by rw [List.length_set, List.length_set, he.1], fun k y z hy hz => ?_⟩, ?_, by rw [hes2]⟩
  · by_cases hki : i = k
    · subst hki
      rw [List.getElem?_set_self hie] at hz
      rw [List.getElem?_set_self hil] at hy
      injection hy with hy; injection hz with hz
      subst hy; subst hz
      exact E.okeep hnew fun b hb => hk b (fun e => hgn _ (List.getElem_mem hie) (e ▸ hb))
    · rw [List.getElem?_set_ne hki] at hz hy
      exact E.okeep (he.2 k y z hy hz) fun b hb => hk b (fun e => hgn z (List.mem_of_getElem? hz) (e ▸ hb))
  · rw [List.length_set]
    have h1 := (ho.stored (i * E.size + j) u).1
    have hll := setList_elems E.size es i (es[i].1.set j u) es[i].2 he.len (by rw [List.length_set]; exact E.olen hown) hie
    rw [← hll]
    -- the whole element's cells, but for j, are what they were
    have hs : setList (es.flatMap (·.1)) (i * E.size) (es[i].1.set j u) = (es.flatMap (·.1)).set (i * E.size + j) u := by
      have hlen : (es.flatMap (·.1)).length = xs.length * E.size := ho.1
      have hle : i * E.size + E.size ≤ xs.length * E.size := by
        have := Nat.mul_le_mul_right E.size (show i + 1 ≤ xs.length by omega)
        rw [Nat.add_mul] at this; omega
      have hol := E.olen hown
      apply List.ext_getElem?
      intro k
      rw [setList_get _ _ _ _ (by rw [List.length_set, hol, hlen]; exact hle), List.length_set, hol]
      by_cases hkk : i * E.size ≤ k ∧ k < i * E.size + E.size
      · rw [if_pos hkk]
        by_cases hkj : k = i * E.size + j
        · subst hkj
          rw [show i * E.size + j - i * E.size = j by omega, List.getElem?_set_self (by omega), List.getElem?_set_self (by omega)]
        · rw [List.getElem?_set_ne (by omega), List.getElem?_set_ne (by omega)]
          have hu := List.getElem?_eq_getElem (show k - i * E.size < es[i].1.length by omega)
          have := flatMap_get (·.1) E.size es he.len i _ (k - i * E.size) _ hy hu
          rw [show i * E.size + (k - i * E.size) = k by omega] at this
          rw [this, hu]
      · rw [if_neg hkk, List.getElem?_set_ne (by omega)]
    rw [hs]
    exact h1
/-- the inside of element i: what it owns; and the whole, once that has changed -/
theorem SlOwn.inner {g n c : Nat} (h : SlOwn E e w xs (.slice (some ⟨g, 0, none⟩) n c) fp) (hnd : fp.Nodup) {i : Nat} {x : α} (hi : xs[i]? = some x) :
    ∃ cs fx, E.own w x cs fx ∧ fx.Nodup ∧ (∀ b, b ∈ fx → b ∈ fp ∧ b ≠ g) ∧ (∀ j u, cs[j]? = some u → w.cell? ⟨g, i * E.size + j, none⟩ = some u) ∧
      ∀ w' x' fx', Chg fx w w' → E.own w' x' cs fx' → fx'.Nodup → (∀ b, b ∈ fx' → b ∈ fx) → ∃ fp', SlOwn E e w' (xs.set i x') (.slice (some ⟨g, 0, none⟩) n c) fp' ∧ fp'.Nodup ∧ ∀ b, b ∈ fp' → b ∈ fp := by
  obtain ⟨es, he, ho, rfl⟩ := h
  have hn : n = xs.length := by
    rcases ho.2 with ⟨h, _⟩ | ⟨g', cap, cur, h, _⟩
    · cases h
    · injection h
  subst hn
  have hil : i < xs.length := (List.getElem?_eq_some_iff.1 hi).1
  have hie : i < es.length := by rw [he.1]; exact hil
  have hy := List.getElem?_eq_getElem hie
  have hown := he.2 i x _ hi hy
  simp only [Value.ownBlock, Option.toList_some, List.singleton_append, List.nodup_cons] at hnd
  have hgn : ∀ y ∈ es, g ∉ y.2 := fun y hy hg => hnd.1 (List.mem_flatMap.2 ⟨y, hy, hg⟩)
  have e1 : es = es.take i ++ es[i] :: es.drop (i + 1) := by rw [← List.drop_eq_getElem_cons hie, List.take_append_drop]
  have hd := hnd.2
  rw [e1] at hd
  simp only [List.flatMap_append, List.flatMap_cons, List.nodup_append] at hd
  have hmem : ∀ b, b ∈ es[i].2 → b ∈ es.flatMap (·.2) := fun b hb => List.mem_flatMap.2 ⟨_, List.getElem_mem hie, hb⟩
  refine ⟨es[i].1, es[i].2, hown, hd.2.1.1, fun b hb => ⟨List.mem_append_right _ (hmem b hb), fun e => hgn _ (List.getElem_mem hie) (e ▸ hb)⟩, fun j u hu => ?_, fun w' x' fx' hc hx' hxn hxs => ?_⟩
  · have := ho.cells (g := g) rfl (i * E.size + j) u (flatMap_get (·.1) E.size es he.len i _ j u hy hu)
    rw [add0] at this
    exact this
  · have m1 : ∀ y, y ∈ es.take i → ∀ b, b ∈ y.2 → b ∉ es[i].2 := fun y hy b hb hm => hd.2.2 b (List.mem_flatMap.2 ⟨y, hy, hb⟩) b (List.mem_append_left _ hm) rfl
    have m2 : ∀ y, y ∈ es.drop (i + 1) → ∀ b, b ∈ y.2 → b ∉ es[i].2 := fun y hy b hb hm => hd.2.1.2.2 b hm b (List.mem_flatMap.2 ⟨y, hy, hb⟩) rfl
    have e2 : es.set i (es[i].1, fx') = es.take i ++ (es[i].1, fx') :: es.drop (i + 1) := List.set_eq_take_append_cons_drop.trans (by rw [if_pos hie])
    have hfl : (es.set i (es[i].1, fx')).flatMap (·.1) = es.flatMap (·.1) := by
      have e3 := congrArg (List.flatMap (·.1)) e1
      rw [List.flatMap_append, List.flatMap_cons] at e3
      rw [e2, List.flatMap_append, List.flatMap_cons]
      exact e3.symm
    have hsub : ∀ b, b ∈ (es.set i (es[i].1, fx')).flatMap (·.2) → b ∈ es.flatMap (·.2) := by
      intro b hb
      obtain ⟨y, hy, hb⟩ := List.mem_flatMap.1 hb
      rcases List.mem_or_eq_of_mem_set hy with h | rfl
      · exact List.mem_flatMap.2 ⟨y, h, hb⟩
      · exact hmem b (hxs b hb)
    have hlt : g < w.heap.size := by
      have := ho.lt g (by simp [Value.ownBlock])
      exact this.2
    refine ⟨_, ⟨es.set i (es[i].1, fx'), ⟨by rw [List.length_set, List.length_set, he.1], fun k y z hy hz => ?_⟩, ⟨?_, ?_⟩, rfl⟩, ?_, ?_⟩
    · by_cases hki : i = k
      · subst hki
        rw [List.getElem?_set_self hie] at hz
        rw [List.getElem?_set_self hil] at hy
        injection hy with hy; injection hz with hz
        subst hy; subst hz
        exact hx'
      · rw [List.getElem?_set_ne hki] at hz hy
        have hk := he.2 k y z hy hz
        refine E.okeep hk fun b hb => hc.block b (E.olt hk b hb) ?_
        have hkl : k < es.length := (List.getElem?_eq_some_iff.1 hz).1
        rcases Nat.lt_or_gt_of_ne hki with h | h
        · refine m2 z (List.mem_of_getElem? (i := k - (i + 1)) ?_) b hb
          rw [List.getElem?_drop, show i + 1 + (k - (i + 1)) = k by omega]
          exact hz
        · refine m1 z (List.mem_of_getElem? (i := k) ?_) b hb
          rw [List.getElem?_take, if_pos h]
          exact hz
    · rw [hfl, List.length_set]; exact ho.1
    · rw [hfl, List.length_set]
      rcases ho.2 with h | ⟨g', cap, cur, hv, h1, h2, h3⟩
      · exact .inl h
      · injection hv with hA _ hcap
        subst hcap
        injection hA with hA
        injection hA with hA
        subst hA
        exact .inr ⟨g, _, cur, rfl, h1, (hc.block g hlt (hgn _ (List.getElem_mem hie))).trans h2, h3⟩
    · simp only [Value.ownBlock, Option.toList_some, List.singleton_append, List.nodup_cons]
      refine ⟨fun hg => hnd.1 (hsub g hg), ?_⟩
      rw [e2]
      simp only [List.flatMap_append, List.flatMap_cons, List.nodup_append]
      refine ⟨hd.1, ⟨hxn, hd.2.1.2.1, fun a ha b hb hab => ?_⟩, fun a ha b hb hab => ?_⟩
      · exact hd.2.1.2.2 a (hxs a ha) b hb hab
      · rcases List.mem_append.1 hb with hb | hb
        · exact hd.2.2 a ha b (List.mem_append_left _ (hxs b hb)) hab
        · exact hd.2.2 a ha b (List.mem_append_right _ hb) hab
    · intro b hb
      rcases List.mem_append.1 hb with hb | hb
      · exact List.mem_append_left _ hb
      · exact List.mem_append_right _ (hsub b hb)
end
/-- in the middle of a marking -/
def MkAt {α : Type} (E : Rep α) (t : TypeId) (mk : α → Int → α) (cnt : α → Int) (w : World) (l : List α) (v : Value) (fp : List Nat) (k : Int) (i : Nat) (wr : World) : Prop :=
  Chg fp w wr ∧ ∃ fp', SlOwn E t wr (half mk cnt l k i) v fp' ∧ fp'.Nodup ∧ ∀ b, b ∈ fp' → b ∈ fp
/-- what a marking leaves -/
def MkRet {α : Type} (E : Rep α) (t : TypeId) (mk : α → Int → α) (cnt : α → Int) (w : World) (l : List α) (v : Value) (fp : List Nat) (k : Int) (e : Ending) (w' : World) : Prop :=
  e = .returned (.int .i64 (k + cntL cnt l)) ∧ Chg fp w w' ∧ ∃ fp', SlOwn E t w' (mkL mk cnt l k) v fp' ∧ fp'.Nodup ∧ ∀ b, b ∈ fp' → b ∈ fp
section
variable {α : Type} {E : Rep α} {t : TypeId} {mk : α → Int → α} {cnt : α → Int} {w wr : World} {l : List α} {v : Value} {fp : List Nat} {k : Int} {i : Nat}
theorem MkAt.start (h : SlOwn E t w l v fp) (hnd : fp.Nodup) : MkAt E t mk cnt w l v fp k 0 w := ⟨Chg.refl _ _, fp, by rw [half_zero]; exact h, hnd, fun b hb => hb⟩
theorem MkAt.done (h : MkAt E t mk cnt w l v fp k i wr) (hi : l.length ≤ i) : MkRet E t mk cnt w l v fp k (.returned (.int .i64 (k + cntL cnt (l.take i)))) wr := by
  obtain ⟨h1, fp', h2, h3, h4⟩ := h
  rw [half_end hi] at h2
  rw [List.take_of_length_le hi]
  exact ⟨rfl, h1, fp', h2, h3, h4⟩
end
/-- what the marking of a whole struct leaves -/
def MkTop {α : Type} (R : Rep α) (top : α → Int → α) (ctop : α → Int) (w : World) (x : α) (cs : List Value) (fp : List Nat) (k : Int) (e : Ending) (w' : World) : Prop :=
  e = .returned (.int .i64 (k + ctop x)) ∧ Chg fp w w' ∧ ∃ fp', R.own w' (top x k) cs fp' ∧ fp'.Nodup ∧ ∀ b, b ∈ fp' → b ∈ fp
theorem und_chg {fp : List Nat} {a b c : World} (h : Chg fp a b) (k : Below b.heap.size b c) : Chg fp a c := h.trans (Chg.of_below k)
end Mm
end Go.Proofs.Ytihendiakgfpcaa

/-
  The program's types as plain structures; what a marking makes of them. No program in sight. No conditions.
-/
namespace Go.Proofs.Ytihendiakgfpcaa
structure Sample where
  At : Int
  Value : Int
structure Window where
  From : Int
  First : Int
  Last : Int
  Count : Int
  Rise : Int
structure Told where
  Who : Int
  No : Int
  Text : ByteArray
structure Note where
  Back : Bool
  What : Told
structure TellStep where
  Kind : Int
  K : Int
  Text : ByteArray
structure SnapStep where
  Kind : Int
  From : Int
  To : Int
  Many : Int
structure Say where
  Name : ByteArray
  At : Int
  Value : Int
structure Label where
  Name : ByteArray
  Value : ByteArray
structure Entry where
  Epoch : Int
  Text : ByteArray
structure Start where
  Epoch : Int
  At : Int
structure Letter where
  From : Int
  To : Int
  Term : Int
  Ask : Bool
  Age : Int
structure VoteStep where
  Kind : Int
  K : Int
structure ReplStep where
  Kind : Int
  Node : Int
  Text : ByteArray
structure HouseStep where
  Kind : Int
  Part : Int
  What : Say
structure Token where
  At : Int
  Owner : Int
structure Row where
  Name : ByteArray
  Samples : (List Sample)
structure Head where
  Rows : (List Row)
  Offset : Int
structure Item where
  Labels : (List Label)
  Value : Int
structure Total where
  Labels : (List Label)
  Sum : Int
  Count : Int
  Least : Int
  Most : Int
structure Sketch where
  Rows : (List (List Int))
  Total : Int
structure Heavy where
  Names : (List ByteArray)
  Counts : (List Int)
  Gone : Int
  Total : Int
structure Piece where
  From : Int
  Bytes : ByteArray
  Index : (List Int)
structure Log where
  Pieces : (List Piece)
  Begin : Int
structure House where
  Logs : (List Log)
  Heads : (List Head)
  Kept : (List Head)
structure Tell where
  Texts : (List (List ByteArray))
  Heard : (List Int)
  Line : (List Note)
  Log : (List Told)
  Next : (List Int)
structure Bank where
  Coins : (List Int)
  Ways : (List (List Int))
  Kept : (List Int)
  Heard : (List (List Bool))
  Found : (List (List Int))
structure Node where
  Term : Int
  Voted : Int
  Age : Int
  Heard : (List Int)
  Role : Int
structure Poll where
  Nodes : (List Node)
  Letters : (List Letter)
  Leaders : (List (List Int))
structure Repl where
  Logs : (List (List Entry))
  Down : (List Bool)
  Leader : Int
  Epoch : Int
  InSync : (List Int)
  Certain : (List Entry)
namespace Pl
/-- the digits of k, ahead of acc -/
def digs : Nat → Nat → List UInt8 → List UInt8
  | 0, _, acc => acc
  | f + 1, k, acc => if k = 0 then acc else digs f (k / 10) (UInt8.ofNat (48 + k % 10) :: acc)
end Pl
namespace Pl
def sz0 {α : Type} (_ : α) : Int := 0
def szStr (s : ByteArray) : Int := (s.size : Int)
def sumI {α : Type} (f : α → Int) : List α → Int
  | [] => 0
  | x :: t => f x + sumI f t
def szl {α : Type} (f : α → Int) (l : List α) : Int := (l.length : Int) + sumI f l
theorem sumI_nn {α : Type} {f : α → Int} (h : ∀ x, 0 ≤ f x) : ∀ l : List α, 0 ≤ sumI f l
  | [] => by simp [sumI]
  | x :: t => by have := sumI_nn h t; have := h x; show 0 ≤ f x + sumI f t; omega
theorem sumI_app {α : Type} {f : α → Int} : ∀ l m : List α, sumI f (l ++ m) = sumI f l + sumI f m
  | [], m => by simp [sumI]
  | x :: t, m => by show f x + sumI f (t ++ m) = f x + sumI f t + sumI f m; rw [sumI_app t m]; omega
theorem sumI_succ {α : Type} {f : α → Int} {l : List α} {i : Nat} {x : α} (h : l[i]? = some x) : sumI f (l.take (i + 1)) = sumI f (l.take i) + f x := by
  have hi : i < l.length := (List.getElem?_eq_some_iff.1 h).1
  rw [List.getElem?_eq_getElem hi] at h
  injection h with h
  rw [List.take_succ_eq_append_getElem hi, sumI_app, h]
  simp [sumI]
theorem sumI_take {α : Type} {f : α → Int} (h : ∀ x, 0 ≤ f x) (l : List α) (i : Nat) : sumI f (l.take i) ≤ sumI f l := by
  have e : sumI f l = sumI f (l.take i) + sumI f (l.drop i) := by rw [← sumI_app, List.take_append_drop]
  have := sumI_nn h (l.drop i)
  omega
theorem sumI_zero {α : Type} : ∀ l : List α, sumI (fun x => sz0 x) l = 0
  | [] => rfl
  | x :: t => by show 0 + _ = _; rw [show sumI (fun x => sz0 x) t = 0 from sumI_zero t]; rfl
theorem szl_zero {α : Type} (l : List α) : szl (sz0 : α → Int) l = (l.length : Int) := by unfold szl; rw [show sumI (sz0 : α → Int) l = 0 from sumI_zero l]; omega
theorem sz0_nn {α : Type} (x : α) : 0 ≤ sz0 x := Int.le_refl _
theorem szStr_nn (s : ByteArray) : 0 ≤ szStr s := by unfold szStr; omega
theorem szl_nn {α : Type} {f : α → Int} (h : ∀ x, 0 ≤ f x) (l : List α) : 0 ≤ szl f l := by have := sumI_nn h l; unfold szl; omega
theorem szl_len {α : Type} {f : α → Int} (h : ∀ x, 0 ≤ f x) (l : List α) : (l.length : Int) ≤ szl f l := by have := sumI_nn h l; unfold szl; omega
theorem sumI_mem {α : Type} {f : α → Int} (h : ∀ x, 0 ≤ f x) : ∀ {l : List α} {x : α}, x ∈ l → f x ≤ sumI f l
  | [], _, hx => by cases hx
  | y :: t, x, hx => by
    show _ ≤ f y + sumI f t
    have h1 := h y
    have h2 := sumI_nn h t
    rcases List.mem_cons.1 hx with rfl | hx
    · omega
    · have := sumI_mem h hx; omega
theorem szl_mem {α : Type} {f : α → Int} (h : ∀ x, 0 ≤ f x) {l : List α} {x : α} (hx : x ∈ l) : f x ≤ szl f l := by have := sumI_mem h hx; unfold szl; omega
def szRet (left k : Int) : Int := if left - k < 0 then -1 else left - k
theorem szRet_lt {left k : Int} (h : left - k < 0) : szRet left k = -1 := if_pos h
theorem szRet_ge {left k : Int} (h : ¬ left - k < 0) : szRet left k = left - k := if_neg h
def szTold (x : Told) : Int := Pl.szStr x.Text
theorem szTold_nn (x : Told) : 0 ≤ szTold x := by
  have h0 := szStr_nn x.Text
  unfold szTold; omega
def szNote (x : Note) : Int := Pl.szTold x.What
theorem szNote_nn (x : Note) : 0 ≤ szNote x := by
  have h0 := szTold_nn x.What
  unfold szNote; omega
def szTellStep (x : TellStep) : Int := Pl.szStr x.Text
theorem szTellStep_nn (x : TellStep) : 0 ≤ szTellStep x := by
  have h0 := szStr_nn x.Text
  unfold szTellStep; omega
def szSay (x : Say) : Int := Pl.szStr x.Name
theorem szSay_nn (x : Say) : 0 ≤ szSay x := by
  have h0 := szStr_nn x.Name
  unfold szSay; omega
def szLabel (x : Label) : Int := Pl.szStr x.Name + Pl.szStr x.Value
theorem szLabel_nn (x : Label) : 0 ≤ szLabel x := by
  have h0 := szStr_nn x.Name
  have h1 := szStr_nn x.Value
  unfold szLabel; omega
def szEntry (x : Entry) : Int := Pl.szStr x.Text
theorem szEntry_nn (x : Entry) : 0 ≤ szEntry x := by
  have h0 := szStr_nn x.Text
  unfold szEntry; omega
def szReplStep (x : ReplStep) : Int := Pl.szStr x.Text
theorem szReplStep_nn (x : ReplStep) : 0 ≤ szReplStep x := by
  have h0 := szStr_nn x.Text
  unfold szReplStep; omega
def szHouseStep (x : HouseStep) : Int := Pl.szSay x.What
theorem szHouseStep_nn (x : HouseStep) : 0 ≤ szHouseStep x := by
  have h0 := szSay_nn x.What
  unfold szHouseStep; omega
def szRow (x : Row) : Int := Pl.szStr x.Name + (Pl.szl Pl.sz0) x.Samples
theorem szRow_nn (x : Row) : 0 ≤ szRow x := by
  have h0 := szStr_nn x.Name
  have h1 := szl_nn (f := sz0) (sz0_nn) x.Samples
  unfold szRow; omega
def szHead (x : Head) : Int := (Pl.szl Pl.szRow) x.Rows
theorem szHead_nn (x : Head) : 0 ≤ szHead x := by
  have h0 := szl_nn (f := szRow) (szRow_nn) x.Rows
  unfold szHead; omega
def szItem (x : Item) : Int := (Pl.szl Pl.szLabel) x.Labels
theorem szItem_nn (x : Item) : 0 ≤ szItem x := by
  have h0 := szl_nn (f := szLabel) (szLabel_nn) x.Labels
  unfold szItem; omega
def szTotal (x : Total) : Int := (Pl.szl Pl.szLabel) x.Labels
theorem szTotal_nn (x : Total) : 0 ≤ szTotal x := by
  have h0 := szl_nn (f := szLabel) (szLabel_nn) x.Labels
  unfold szTotal; omega
def szSketch (x : Sketch) : Int := (Pl.szl (Pl.szl Pl.sz0)) x.Rows
theorem szSketch_nn (x : Sketch) : 0 ≤ szSketch x := by
  have h0 := szl_nn (f := (szl sz0)) (szl_nn (f := sz0) (sz0_nn)) x.Rows
  unfold szSketch; omega
def szHeavy (x : Heavy) : Int := (Pl.szl Pl.szStr) x.Names + (Pl.szl Pl.sz0) x.Counts
theorem szHeavy_nn (x : Heavy) : 0 ≤ szHeavy x := by
  have h0 := szl_nn (f := szStr) (szStr_nn) x.Names
  have h1 := szl_nn (f := sz0) (sz0_nn) x.Counts
  unfold szHeavy; omega
def szPiece (x : Piece) : Int := Pl.szStr x.Bytes + (Pl.szl Pl.sz0) x.Index
theorem szPiece_nn (x : Piece) : 0 ≤ szPiece x := by
  have h0 := szStr_nn x.Bytes
  have h1 := szl_nn (f := sz0) (sz0_nn) x.Index
  unfold szPiece; omega
def szLog (x : Log) : Int := (Pl.szl Pl.szPiece) x.Pieces
theorem szLog_nn (x : Log) : 0 ≤ szLog x := by
  have h0 := szl_nn (f := szPiece) (szPiece_nn) x.Pieces
  unfold szLog; omega
def szHouse (x : House) : Int := (Pl.szl Pl.szLog) x.Logs + (Pl.szl Pl.szHead) x.Heads + (Pl.szl Pl.szHead) x.Kept
theorem szHouse_nn (x : House) : 0 ≤ szHouse x := by
  have h0 := szl_nn (f := szLog) (szLog_nn) x.Logs
  have h1 := szl_nn (f := szHead) (szHead_nn) x.Heads
  have h2 := szl_nn (f := szHead) (szHead_nn) x.Kept
  unfold szHouse; omega
def szTell (x : Tell) : Int := (Pl.szl (Pl.szl Pl.szStr)) x.Texts + (Pl.szl Pl.sz0) x.Heard + (Pl.szl Pl.szNote) x.Line + (Pl.szl Pl.szTold) x.Log + (Pl.szl Pl.sz0) x.Next
theorem szTell_nn (x : Tell) : 0 ≤ szTell x := by
  have h0 := szl_nn (f := (szl szStr)) (szl_nn (f := szStr) (szStr_nn)) x.Texts
  have h1 := szl_nn (f := sz0) (sz0_nn) x.Heard
  have h2 := szl_nn (f := szNote) (szNote_nn) x.Line
  have h3 := szl_nn (f := szTold) (szTold_nn) x.Log
  have h4 := szl_nn (f := sz0) (sz0_nn) x.Next
  unfold szTell; omega
def szBank (x : Bank) : Int := (Pl.szl Pl.sz0) x.Coins + (Pl.szl (Pl.szl Pl.sz0)) x.Ways + (Pl.szl Pl.sz0) x.Kept + (Pl.szl (Pl.szl Pl.sz0)) x.Heard + (Pl.szl (Pl.szl Pl.sz0)) x.Found
theorem szBank_nn (x : Bank) : 0 ≤ szBank x := by
  have h0 := szl_nn (f := sz0) (sz0_nn) x.Coins
  have h1 := szl_nn (f := (szl sz0)) (szl_nn (f := sz0) (sz0_nn)) x.Ways
  have h2 := szl_nn (f := sz0) (sz0_nn) x.Kept
  have h3 := szl_nn (f := (szl sz0)) (szl_nn (f := sz0) (sz0_nn)) x.Heard
  have h4 := szl_nn (f := (szl sz0)) (szl_nn (f := sz0) (sz0_nn)) x.Found
  unfold szBank; omega
def szNode (x : Node) : Int := (Pl.szl Pl.sz0) x.Heard
theorem szNode_nn (x : Node) : 0 ≤ szNode x := by
  have h0 := szl_nn (f := sz0) (sz0_nn) x.Heard
  unfold szNode; omega
def szPoll (x : Poll) : Int := (Pl.szl Pl.szNode) x.Nodes + (Pl.szl Pl.sz0) x.Letters + (Pl.szl (Pl.szl Pl.sz0)) x.Leaders
theorem szPoll_nn (x : Poll) : 0 ≤ szPoll x := by
  have h0 := szl_nn (f := szNode) (szNode_nn) x.Nodes
  have h1 := szl_nn (f := sz0) (sz0_nn) x.Letters
  have h2 := szl_nn (f := (szl sz0)) (szl_nn (f := sz0) (sz0_nn)) x.Leaders
  unfold szPoll; omega
def szRepl (x : Repl) : Int := (Pl.szl (Pl.szl Pl.szEntry)) x.Logs + (Pl.szl Pl.sz0) x.Down + (Pl.szl Pl.sz0) x.InSync + (Pl.szl Pl.szEntry) x.Certain
theorem szRepl_nn (x : Repl) : 0 ≤ szRepl x := by
  have h0 := szl_nn (f := (szl szEntry)) (szl_nn (f := szEntry) (szEntry_nn)) x.Logs
  have h1 := szl_nn (f := sz0) (sz0_nn) x.Down
  have h2 := szl_nn (f := sz0) (sz0_nn) x.InSync
  have h3 := szl_nn (f := szEntry) (szEntry_nn) x.Certain
  unfold szRepl; omega
end Pl
end Go.Proofs.Ytihendiakgfpcaa

/-
  What a marking makes of the program's types. No program in sight. No conditions.
-/
namespace Go.Proofs.Ytihendiakgfpcaa
namespace Pl
def mkText (k : Int) : ByteArray := ⟨(109 :: digs k.toNat k.toNat []).toArray⟩
def mkInt (_ : Int) (k : Int) : Int := k
def mkBool (_ : Bool) (k : Int) : Bool := k % 3 == 0
def mkStr (_ : ByteArray) (k : Int) : ByteArray := mkText k
def cnt1 {α : Type} (_ : α) : Int := 1
theorem cnt1_nn {α : Type} (x : α) : 0 ≤ cnt1 x := by unfold cnt1; omega
def mkSample (_ : Sample) (k : Int) : Sample := ⟨k, (k + 1)⟩
def cntSample (_ : Sample) : Int := 1 + 1
theorem cntSample_nn (x : Sample) : 0 ≤ cntSample x := by
  unfold cntSample; omega
def mkWindow (_ : Window) (k : Int) : Window := ⟨k, (k + 1), ((k + 1) + 1), (((k + 1) + 1) + 1), ((((k + 1) + 1) + 1) + 1)⟩
def cntWindow (_ : Window) : Int := 1 + 1 + 1 + 1 + 1
theorem cntWindow_nn (x : Window) : 0 ≤ cntWindow x := by
  unfold cntWindow; omega
def mkTold (_ : Told) (k : Int) : Told := ⟨k, (k + 1), Pl.mkText (((k + 1) + 1))⟩
def cntTold (_ : Told) : Int := 1 + 1 + 1
theorem cntTold_nn (x : Told) : 0 ≤ cntTold x := by
  unfold cntTold; omega
def mkNote (_ : Note) (k : Int) : Note := ⟨(k % 3 == 0), ⟨(k + 1), ((k + 1) + 1), Pl.mkText ((((k + 1) + 1) + 1))⟩⟩
def cntNote (_ : Note) : Int := 1 + 1 + 1 + 1
theorem cntNote_nn (x : Note) : 0 ≤ cntNote x := by
  unfold cntNote; omega
def mkTellStep (_ : TellStep) (k : Int) : TellStep := ⟨k, (k + 1), Pl.mkText (((k + 1) + 1))⟩
def cntTellStep (_ : TellStep) : Int := 1 + 1 + 1
theorem cntTellStep_nn (x : TellStep) : 0 ≤ cntTellStep x := by
  unfold cntTellStep; omega
def mkSnapStep (_ : SnapStep) (k : Int) : SnapStep := ⟨k, (k + 1), ((k + 1) + 1), (((k + 1) + 1) + 1)⟩
def cntSnapStep (_ : SnapStep) : Int := 1 + 1 + 1 + 1
theorem cntSnapStep_nn (x : SnapStep) : 0 ≤ cntSnapStep x := by
  unfold cntSnapStep; omega
def mkSay (_ : Say) (k : Int) : Say := ⟨Pl.mkText (k), (k + 1), ((k + 1) + 1)⟩
def cntSay (_ : Say) : Int := 1 + 1 + 1
theorem cntSay_nn (x : Say) : 0 ≤ cntSay x := by
  unfold cntSay; omega
def mkLabel (_ : Label) (k : Int) : Label := ⟨Pl.mkText (k), Pl.mkText ((k + 1))⟩
def cntLabel (_ : Label) : Int := 1 + 1
theorem cntLabel_nn (x : Label) : 0 ≤ cntLabel x := by
  unfold cntLabel; omega
def mkEntry (_ : Entry) (k : Int) : Entry := ⟨k, Pl.mkText ((k + 1))⟩
def cntEntry (_ : Entry) : Int := 1 + 1
theorem cntEntry_nn (x : Entry) : 0 ≤ cntEntry x := by
  unfold cntEntry; omega
def mkStart (_ : Start) (k : Int) : Start := ⟨k, (k + 1)⟩
def cntStart (_ : Start) : Int := 1 + 1
theorem cntStart_nn (x : Start) : 0 ≤ cntStart x := by
  unfold cntStart; omega
def mkLetter (_ : Letter) (k : Int) : Letter := ⟨k, (k + 1), ((k + 1) + 1), ((((k + 1) + 1) + 1) % 3 == 0), ((((k + 1) + 1) + 1) + 1)⟩
def cntLetter (_ : Letter) : Int := 1 + 1 + 1 + 1 + 1
theorem cntLetter_nn (x : Letter) : 0 ≤ cntLetter x := by
  unfold cntLetter; omega
def mkVoteStep (_ : VoteStep) (k : Int) : VoteStep := ⟨k, (k + 1)⟩
def cntVoteStep (_ : VoteStep) : Int := 1 + 1
theorem cntVoteStep_nn (x : VoteStep) : 0 ≤ cntVoteStep x := by
  unfold cntVoteStep; omega
def mkReplStep (_ : ReplStep) (k : Int) : ReplStep := ⟨k, (k + 1), Pl.mkText (((k + 1) + 1))⟩
def cntReplStep (_ : ReplStep) : Int := 1 + 1 + 1
theorem cntReplStep_nn (x : ReplStep) : 0 ≤ cntReplStep x := by
  unfold cntReplStep; omega
def mkHouseStep (_ : HouseStep) (k : Int) : HouseStep := ⟨k, (k + 1), ⟨Pl.mkText (((k + 1) + 1)), (((k + 1) + 1) + 1), ((((k + 1) + 1) + 1) + 1)⟩⟩
def cntHouseStep (_ : HouseStep) : Int := 1 + 1 + 1 + 1 + 1
theorem cntHouseStep_nn (x : HouseStep) : 0 ≤ cntHouseStep x := by
  unfold cntHouseStep; omega
def mkToken (_ : Token) (k : Int) : Token := ⟨k, (k + 1)⟩
def cntToken (_ : Token) : Int := 1 + 1
theorem cntToken_nn (x : Token) : 0 ≤ cntToken x := by
  unfold cntToken; omega
def mkRow (x : Row) (k : Int) : Row := ⟨Pl.mkText (k), (Mm.mkL Pl.mkSample Pl.cntSample) x.Samples (k + 1)⟩
def cntRow (x : Row) : Int := 1 + (Mm.cntL Pl.cntSample) x.Samples
theorem cntRow_nn (x : Row) : 0 ≤ cntRow x := by
  have h1 := Mm.cntL_nn (cnt := cntSample) (cntSample_nn) x.Samples
  unfold cntRow; omega
def mkHead (x : Head) (k : Int) : Head := ⟨(Mm.mkL Pl.mkRow Pl.cntRow) x.Rows k, (k + (Mm.cntL Pl.cntRow) x.Rows)⟩
def cntHead (x : Head) : Int := (Mm.cntL Pl.cntRow) x.Rows + 1
theorem cntHead_nn (x : Head) : 0 ≤ cntHead x := by
  have h0 := Mm.cntL_nn (cnt := cntRow) (cntRow_nn) x.Rows
  unfold cntHead; omega
def mkItem (x : Item) (k : Int) : Item := ⟨(Mm.mkL Pl.mkLabel Pl.cntLabel) x.Labels k, (k + (Mm.cntL Pl.cntLabel) x.Labels)⟩
def cntItem (x : Item) : Int := (Mm.cntL Pl.cntLabel) x.Labels + 1
theorem cntItem_nn (x : Item) : 0 ≤ cntItem x := by
  have h0 := Mm.cntL_nn (cnt := cntLabel) (cntLabel_nn) x.Labels
  unfold cntItem; omega
def mkTotal (x : Total) (k : Int) : Total := ⟨(Mm.mkL Pl.mkLabel Pl.cntLabel) x.Labels k, (k + (Mm.cntL Pl.cntLabel) x.Labels), ((k + (Mm.cntL Pl.cntLabel) x.Labels) + 1), (((k + (Mm.cntL Pl.cntLabel) x.Labels) + 1) + 1), ((((k + (Mm.cntL Pl.cntLabel) x.Labels) + 1) + 1) + 1)⟩
def cntTotal (x : Total) : Int := (Mm.cntL Pl.cntLabel) x.Labels + 1 + 1 + 1 + 1
theorem cntTotal_nn (x : Total) : 0 ≤ cntTotal x := by
  have h0 := Mm.cntL_nn (cnt := cntLabel) (cntLabel_nn) x.Labels
  unfold cntTotal; omega
def mkSketch (x : Sketch) (k : Int) : Sketch := ⟨(Mm.mkL (Mm.mkL Pl.mkInt Pl.cnt1) (Mm.cntL Pl.cnt1)) x.Rows k, (k + (Mm.cntL (Mm.cntL Pl.cnt1)) x.Rows)⟩
def cntSketch (x : Sketch) : Int := (Mm.cntL (Mm.cntL Pl.cnt1)) x.Rows + 1
theorem cntSketch_nn (x : Sketch) : 0 ≤ cntSketch x := by
  have h0 := Mm.cntL_nn (cnt := (Mm.cntL cnt1)) (Mm.cntL_nn (cnt := cnt1) (cnt1_nn)) x.Rows
  unfold cntSketch; omega
def mkHeavy (x : Heavy) (k : Int) : Heavy := ⟨(Mm.mkL Pl.mkStr Pl.cnt1) x.Names k, (Mm.mkL Pl.mkInt Pl.cnt1) x.Counts (k + (Mm.cntL Pl.cnt1) x.Names), ((k + (Mm.cntL Pl.cnt1) x.Names) + (Mm.cntL Pl.cnt1) x.Counts), (((k + (Mm.cntL Pl.cnt1) x.Names) + (Mm.cntL Pl.cnt1) x.Counts) + 1)⟩
def cntHeavy (x : Heavy) : Int := (Mm.cntL Pl.cnt1) x.Names + (Mm.cntL Pl.cnt1) x.Counts + 1 + 1
theorem cntHeavy_nn (x : Heavy) : 0 ≤ cntHeavy x := by
  have h0 := Mm.cntL_nn (cnt := cnt1) (cnt1_nn) x.Names
  have h1 := Mm.cntL_nn (cnt := cnt1) (cnt1_nn) x.Counts
  unfold cntHeavy; omega
def mkPiece (x : Piece) (k : Int) : Piece := ⟨k, Pl.mkText ((k + 1)), (Mm.mkL Pl.mkInt Pl.cnt1) x.Index ((k + 1) + 1)⟩
def cntPiece (x : Piece) : Int := 1 + 1 + (Mm.cntL Pl.cnt1) x.Index
theorem cntPiece_nn (x : Piece) : 0 ≤ cntPiece x := by
  have h2 := Mm.cntL_nn (cnt := cnt1) (cnt1_nn) x.Index
  unfold cntPiece; omega
def mkLog (x : Log) (k : Int) : Log := ⟨(Mm.mkL Pl.mkPiece Pl.cntPiece) x.Pieces k, (k + (Mm.cntL Pl.cntPiece) x.Pieces)⟩
def cntLog (x : Log) : Int := (Mm.cntL Pl.cntPiece) x.Pieces + 1
theorem cntLog_nn (x : Log) : 0 ≤ cntLog x := by
  have h0 := Mm.cntL_nn (cnt := cntPiece) (cntPiece_nn) x.Pieces
  unfold cntLog; omega
def mkHouse (x : House) (k : Int) : House := ⟨(Mm.mkL Pl.mkLog Pl.cntLog) x.Logs k, (Mm.mkL Pl.mkHead Pl.cntHead) x.Heads (k + (Mm.cntL Pl.cntLog) x.Logs), (Mm.mkL Pl.mkHead Pl.cntHead) x.Kept ((k + (Mm.cntL Pl.cntLog) x.Logs) + (Mm.cntL Pl.cntHead) x.Heads)⟩
def cntHouse (x : House) : Int := (Mm.cntL Pl.cntLog) x.Logs + (Mm.cntL Pl.cntHead) x.Heads + (Mm.cntL Pl.cntHead) x.Kept
theorem cntHouse_nn (x : House) : 0 ≤ cntHouse x := by
  have h0 := Mm.cntL_nn (cnt := cntLog) (cntLog_nn) x.Logs
  have h1 := Mm.cntL_nn (cnt := cntHead) (cntHead_nn) x.Heads
  have h2 := Mm.cntL_nn (cnt := cntHead) (cntHead_nn) x.Kept
  unfold cntHouse; omega
def mkTell (x : Tell) (k : Int) : Tell := ⟨(Mm.mkL (Mm.mkL Pl.mkStr Pl.cnt1) (Mm.cntL Pl.cnt1)) x.Texts k, (Mm.mkL Pl.mkInt Pl.cnt1) x.Heard (k + (Mm.cntL (Mm.cntL Pl.cnt1)) x.Texts), (Mm.mkL Pl.mkNote Pl.cntNote) x.Line ((k + (Mm.cntL (Mm.cntL Pl.cnt1)) x.Texts) + (Mm.cntL Pl.cnt1) x.Heard), (Mm.mkL Pl.mkTold Pl.cntTold) x.Log (((k + (Mm.cntL (Mm.cntL Pl.cnt1)) x.Texts) + (Mm.cntL Pl.cnt1) x.Heard) + (Mm.cntL Pl.cntNote) x.Line), (Mm.mkL Pl.mkInt Pl.cnt1) x.Next ((((k + (Mm.cntL (Mm.cntL Pl.cnt1)) x.Texts) + (Mm.cntL Pl.cnt1) x.Heard) + (Mm.cntL Pl.cntNote) x.Line) + (Mm.cntL Pl.cntTold) x.Log)⟩
def cntTell (x : Tell) : Int := (Mm.cntL (Mm.cntL Pl.cnt1)) x.Texts + (Mm.cntL Pl.cnt1) x.Heard + (Mm.cntL Pl.cntNote) x.Line + (Mm.cntL Pl.cntTold) x.Log + (Mm.cntL Pl.cnt1) x.Next
theorem cntTell_nn (x : Tell) : 0 ≤ cntTell x := by
  have h0 := Mm.cntL_nn (cnt := (Mm.cntL cnt1)) (Mm.cntL_nn (cnt := cnt1) (cnt1_nn)) x.Texts
  have h1 := Mm.cntL_nn (cnt := cnt1) (cnt1_nn) x.Heard
  have h2 := Mm.cntL_nn (cnt := cntNote) (cntNote_nn) x.Line
  have h3 := Mm.cntL_nn (cnt := cntTold) (cntTold_nn) x.Log
  have h4 := Mm.cntL_nn (cnt := cnt1) (cnt1_nn) x.Next
  unfold cntTell; omega
def mkBank (x : Bank) (k : Int) : Bank := ⟨(Mm.mkL Pl.mkInt Pl.cnt1) x.Coins k, (Mm.mkL (Mm.mkL Pl.mkInt Pl.cnt1) (Mm.cntL Pl.cnt1)) x.Ways (k + (Mm.cntL Pl.cnt1) x.Coins), (Mm.mkL Pl.mkInt Pl.cnt1) x.Kept ((k + (Mm.cntL Pl.cnt1) x.Coins) + (Mm.cntL (Mm.cntL Pl.cnt1)) x.Ways), (Mm.mkL (Mm.mkL Pl.mkBool Pl.cnt1) (Mm.cntL Pl.cnt1)) x.Heard (((k + (Mm.cntL Pl.cnt1) x.Coins) + (Mm.cntL (Mm.cntL Pl.cnt1)) x.Ways) + (Mm.cntL Pl.cnt1) x.Kept), (Mm.mkL (Mm.mkL Pl.mkInt Pl.cnt1) (Mm.cntL Pl.cnt1)) x.Found ((((k + (Mm.cntL Pl.cnt1) x.Coins) + (Mm.cntL (Mm.cntL Pl.cnt1)) x.Ways) + (Mm.cntL Pl.cnt1) x.Kept) + (Mm.cntL (Mm.cntL Pl.cnt1)) x.Heard)⟩
def cntBank (x : Bank) : Int := (Mm.cntL Pl.cnt1) x.Coins + (Mm.cntL (Mm.cntL Pl.cnt1)) x.Ways + (Mm.cntL Pl.cnt1) x.Kept + (Mm.cntL (Mm.cntL Pl.cnt1)) x.Heard + (Mm.cntL (Mm.cntL Pl.cnt1)) x.Found
theorem cntBank_nn (x : Bank) : 0 ≤ cntBank x := by
  have h0 := Mm.cntL_nn (cnt := cnt1) (cnt1_nn) x.Coins
  have h1 := Mm.cntL_nn (cnt := (Mm.cntL cnt1)) (Mm.cntL_nn (cnt := cnt1) (cnt1_nn)) x.Ways
  have h2 := Mm.cntL_nn (cnt := cnt1) (cnt1_nn) x.Kept
  have h3 := Mm.cntL_nn (cnt := (Mm.cntL cnt1)) (Mm.cntL_nn (cnt := cnt1) (cnt1_nn)) x.Heard
  have h4 := Mm.cntL_nn (cnt := (Mm.cntL cnt1)) (Mm.cntL_nn (cnt := cnt1) (cnt1_nn)) x.Found
  unfold cntBank; omega
def mkNode (x : Node) (k : Int) : Node := ⟨k, (k + 1), ((k + 1) + 1), (Mm.mkL Pl.mkInt Pl.cnt1) x.Heard (((k + 1) + 1) + 1), ((((k + 1) + 1) + 1) + (Mm.cntL Pl.cnt1) x.Heard)⟩
def cntNode (x : Node) : Int := 1 + 1 + 1 + (Mm.cntL Pl.cnt1) x.Heard + 1
theorem cntNode_nn (x : Node) : 0 ≤ cntNode x := by
  have h3 := Mm.cntL_nn (cnt := cnt1) (cnt1_nn) x.Heard
  unfold cntNode; omega
def mkPoll (x : Poll) (k : Int) : Poll := ⟨(Mm.mkL Pl.mkNode Pl.cntNode) x.Nodes k, (Mm.mkL Pl.mkLetter Pl.cntLetter) x.Letters (k + (Mm.cntL Pl.cntNode) x.Nodes), (Mm.mkL (Mm.mkL Pl.mkInt Pl.cnt1) (Mm.cntL Pl.cnt1)) x.Leaders ((k + (Mm.cntL Pl.cntNode) x.Nodes) + (Mm.cntL Pl.cntLetter) x.Letters)⟩
def cntPoll (x : Poll) : Int := (Mm.cntL Pl.cntNode) x.Nodes + (Mm.cntL Pl.cntLetter) x.Letters + (Mm.cntL (Mm.cntL Pl.cnt1)) x.Leaders
theorem cntPoll_nn (x : Poll) : 0 ≤ cntPoll x := by
  have h0 := Mm.cntL_nn (cnt := cntNode) (cntNode_nn) x.Nodes
  have h1 := Mm.cntL_nn (cnt := cntLetter) (cntLetter_nn) x.Letters
  have h2 := Mm.cntL_nn (cnt := (Mm.cntL cnt1)) (Mm.cntL_nn (cnt := cnt1) (cnt1_nn)) x.Leaders
  unfold cntPoll; omega
def mkRepl (x : Repl) (k : Int) : Repl := ⟨(Mm.mkL (Mm.mkL Pl.mkEntry Pl.cntEntry) (Mm.cntL Pl.cntEntry)) x.Logs k, (Mm.mkL Pl.mkBool Pl.cnt1) x.Down (k + (Mm.cntL (Mm.cntL Pl.cntEntry)) x.Logs), ((k + (Mm.cntL (Mm.cntL Pl.cntEntry)) x.Logs) + (Mm.cntL Pl.cnt1) x.Down), (((k + (Mm.cntL (Mm.cntL Pl.cntEntry)) x.Logs) + (Mm.cntL Pl.cnt1) x.Down) + 1), (Mm.mkL Pl.mkInt Pl.cnt1) x.InSync ((((k + (Mm.cntL (Mm.cntL Pl.cntEntry)) x.Logs) + (Mm.cntL Pl.cnt1) x.Down) + 1) + 1), (Mm.mkL Pl.mkEntry Pl.cntEntry) x.Certain (((((k + (Mm.cntL (Mm.cntL Pl.cntEntry)) x.Logs) + (Mm.cntL Pl.cnt1) x.Down) + 1) + 1) + (Mm.cntL Pl.cnt1) x.InSync)⟩
def cntRepl (x : Repl) : Int := (Mm.cntL (Mm.cntL Pl.cntEntry)) x.Logs + (Mm.cntL Pl.cnt1) x.Down + 1 + 1 + (Mm.cntL Pl.cnt1) x.InSync + (Mm.cntL Pl.cntEntry) x.Certain
theorem cntRepl_nn (x : Repl) : 0 ≤ cntRepl x := by
  have h0 := Mm.cntL_nn (cnt := (Mm.cntL cntEntry)) (Mm.cntL_nn (cnt := cntEntry) (cntEntry_nn)) x.Logs
  have h1 := Mm.cntL_nn (cnt := cnt1) (cnt1_nn) x.Down
  have h4 := Mm.cntL_nn (cnt := cnt1) (cnt1_nn) x.InSync
  have h5 := Mm.cntL_nn (cnt := cntEntry) (cntEntry_nn) x.Certain
  unfold cntRepl; omega
def topSketch (x : Sketch) (k : Int) : Sketch := ⟨(Mm.mkL (Mm.mkL Pl.mkInt Pl.cnt1) (Mm.cntL Pl.cnt1)) x.Rows k, x.Total⟩
def ctopSketch (x : Sketch) : Int := (Mm.cntL (Mm.cntL Pl.cnt1)) x.Rows
def topHeavy (x : Heavy) (k : Int) : Heavy := ⟨(Mm.mkL Pl.mkStr Pl.cnt1) x.Names k, (Mm.mkL Pl.mkInt Pl.cnt1) x.Counts (k + (Mm.cntL Pl.cnt1) x.Names), x.Gone, x.Total⟩
def ctopHeavy (x : Heavy) : Int := (Mm.cntL Pl.cnt1) x.Names + (Mm.cntL Pl.cnt1) x.Counts
def topHead (x : Head) (k : Int) : Head := ⟨(Mm.mkL Pl.mkRow Pl.cntRow) x.Rows k, x.Offset⟩
def ctopHead (x : Head) : Int := (Mm.cntL Pl.cntRow) x.Rows
def topLog (x : Log) (k : Int) : Log := ⟨(Mm.mkL Pl.mkPiece Pl.cntPiece) x.Pieces k, x.Begin⟩
def ctopLog (x : Log) : Int := (Mm.cntL Pl.cntPiece) x.Pieces
def topTell (x : Tell) (k : Int) : Tell := ⟨(Mm.mkL (Mm.mkL Pl.mkStr Pl.cnt1) (Mm.cntL Pl.cnt1)) x.Texts k, (Mm.mkL Pl.mkInt Pl.cnt1) x.Heard (k + (Mm.cntL (Mm.cntL Pl.cnt1)) x.Texts), (Mm.mkL Pl.mkNote Pl.cntNote) x.Line ((k + (Mm.cntL (Mm.cntL Pl.cnt1)) x.Texts) + (Mm.cntL Pl.cnt1) x.Heard), (Mm.mkL Pl.mkTold Pl.cntTold) x.Log (((k + (Mm.cntL (Mm.cntL Pl.cnt1)) x.Texts) + (Mm.cntL Pl.cnt1) x.Heard) + (Mm.cntL Pl.cntNote) x.Line), (Mm.mkL Pl.mkInt Pl.cnt1) x.Next ((((k + (Mm.cntL (Mm.cntL Pl.cnt1)) x.Texts) + (Mm.cntL Pl.cnt1) x.Heard) + (Mm.cntL Pl.cntNote) x.Line) + (Mm.cntL Pl.cntTold) x.Log)⟩
def ctopTell (x : Tell) : Int := (Mm.cntL (Mm.cntL Pl.cnt1)) x.Texts + (Mm.cntL Pl.cnt1) x.Heard + (Mm.cntL Pl.cntNote) x.Line + (Mm.cntL Pl.cntTold) x.Log + (Mm.cntL Pl.cnt1) x.Next
def topBank (x : Bank) (k : Int) : Bank := ⟨(Mm.mkL Pl.mkInt Pl.cnt1) x.Coins k, (Mm.mkL (Mm.mkL Pl.mkInt Pl.cnt1) (Mm.cntL Pl.cnt1)) x.Ways (k + (Mm.cntL Pl.cnt1) x.Coins), (Mm.mkL Pl.mkInt Pl.cnt1) x.Kept ((k + (Mm.cntL Pl.cnt1) x.Coins) + (Mm.cntL (Mm.cntL Pl.cnt1)) x.Ways), (Mm.mkL (Mm.mkL Pl.mkBool Pl.cnt1) (Mm.cntL Pl.cnt1)) x.Heard (((k + (Mm.cntL Pl.cnt1) x.Coins) + (Mm.cntL (Mm.cntL Pl.cnt1)) x.Ways) + (Mm.cntL Pl.cnt1) x.Kept), (Mm.mkL (Mm.mkL Pl.mkInt Pl.cnt1) (Mm.cntL Pl.cnt1)) x.Found ((((k + (Mm.cntL Pl.cnt1) x.Coins) + (Mm.cntL (Mm.cntL Pl.cnt1)) x.Ways) + (Mm.cntL Pl.cnt1) x.Kept) + (Mm.cntL (Mm.cntL Pl.cnt1)) x.Heard)⟩
def ctopBank (x : Bank) : Int := (Mm.cntL Pl.cnt1) x.Coins + (Mm.cntL (Mm.cntL Pl.cnt1)) x.Ways + (Mm.cntL Pl.cnt1) x.Kept + (Mm.cntL (Mm.cntL Pl.cnt1)) x.Heard + (Mm.cntL (Mm.cntL Pl.cnt1)) x.Found
def topHouse (x : House) (k : Int) : House := ⟨(Mm.mkL Pl.mkLog Pl.cntLog) x.Logs k, (Mm.mkL Pl.mkHead Pl.cntHead) x.Heads (k + (Mm.cntL Pl.cntLog) x.Logs), (Mm.mkL Pl.mkHead Pl.cntHead) x.Kept ((k + (Mm.cntL Pl.cntLog) x.Logs) + (Mm.cntL Pl.cntHead) x.Heads)⟩
def ctopHouse (x : House) : Int := (Mm.cntL Pl.cntLog) x.Logs + (Mm.cntL Pl.cntHead) x.Heads + (Mm.cntL Pl.cntHead) x.Kept
def topPoll (x : Poll) (k : Int) : Poll := ⟨(Mm.mkL Pl.mkNode Pl.cntNode) x.Nodes k, (Mm.mkL Pl.mkLetter Pl.cntLetter) x.Letters (k + (Mm.cntL Pl.cntNode) x.Nodes), (Mm.mkL (Mm.mkL Pl.mkInt Pl.cnt1) (Mm.cntL Pl.cnt1)) x.Leaders ((k + (Mm.cntL Pl.cntNode) x.Nodes) + (Mm.cntL Pl.cntLetter) x.Letters)⟩
def ctopPoll (x : Poll) : Int := (Mm.cntL Pl.cntNode) x.Nodes + (Mm.cntL Pl.cntLetter) x.Letters + (Mm.cntL (Mm.cntL Pl.cnt1)) x.Leaders
def topRepl (x : Repl) (k : Int) : Repl := ⟨(Mm.mkL (Mm.mkL Pl.mkEntry Pl.cntEntry) (Mm.cntL Pl.cntEntry)) x.Logs k, (Mm.mkL Pl.mkBool Pl.cnt1) x.Down (k + (Mm.cntL (Mm.cntL Pl.cntEntry)) x.Logs), x.Leader, x.Epoch, (Mm.mkL Pl.mkInt Pl.cnt1) x.InSync ((k + (Mm.cntL (Mm.cntL Pl.cntEntry)) x.Logs) + (Mm.cntL Pl.cnt1) x.Down), (Mm.mkL Pl.mkEntry Pl.cntEntry) x.Certain (((k + (Mm.cntL (Mm.cntL Pl.cntEntry)) x.Logs) + (Mm.cntL Pl.cnt1) x.Down) + (Mm.cntL Pl.cnt1) x.InSync)⟩
def ctopRepl (x : Repl) : Int := (Mm.cntL (Mm.cntL Pl.cntEntry)) x.Logs + (Mm.cntL Pl.cnt1) x.Down + (Mm.cntL Pl.cnt1) x.InSync + (Mm.cntL Pl.cntEntry) x.Certain
end Pl
namespace Pl
theorem cntLb {α : Type} {cnt f : α → Int} (h : ∀ x, cnt x ≤ 8 * (1 + f x)) : ∀ l : List α, Mm.cntL cnt l ≤ 8 * szl f l
  | [] => by simp [Mm.cntL, szl, sumI]
  | x :: t => by
    have h1 := h x
    have h2 := cntLb h t
    show cnt x + Mm.cntL cnt t ≤ 8 * (((t.length + 1 : Nat) : Int) + (f x + sumI f t))
    unfold szl at h2
    omega
theorem cntbSample (x : Sample) : cntSample x ≤ 8 * (1 + Pl.sz0 x) := by
  unfold cntSample sz0
  omega
theorem cntbWindow (x : Window) : cntWindow x ≤ 8 * (1 + Pl.sz0 x) := by
  unfold cntWindow sz0
  omega
theorem cntbTold (x : Told) : cntTold x ≤ 8 * (1 + Pl.szTold x) := by
  have s2 := szStr_nn x.Text
  unfold cntTold szTold
  omega
theorem cntbNote (x : Note) : cntNote x ≤ 8 * (1 + Pl.szNote x) := by
  have s3 := szStr_nn x.What.Text
  unfold cntNote szNote szTold
  omega
theorem cntbTellStep (x : TellStep) : cntTellStep x ≤ 8 * (1 + Pl.szTellStep x) := by
  have s2 := szStr_nn x.Text
  unfold cntTellStep szTellStep
  omega
theorem cntbSnapStep (x : SnapStep) : cntSnapStep x ≤ 8 * (1 + Pl.sz0 x) := by
  unfold cntSnapStep sz0
  omega
theorem cntbSay (x : Say) : cntSay x ≤ 8 * (1 + Pl.szSay x) := by
  have s0 := szStr_nn x.Name
  unfold cntSay szSay
  omega
theorem cntbLabel (x : Label) : cntLabel x ≤ 8 * (1 + Pl.szLabel x) := by
  have s0 := szStr_nn x.Name
  have s1 := szStr_nn x.Value
  unfold cntLabel szLabel
  omega
theorem cntbEntry (x : Entry) : cntEntry x ≤ 8 * (1 + Pl.szEntry x) := by
  have s1 := szStr_nn x.Text
  unfold cntEntry szEntry
  omega
theorem cntbStart (x : Start) : cntStart x ≤ 8 * (1 + Pl.sz0 x) := by
  unfold cntStart sz0
  omega
theorem cntbLetter (x : Letter) : cntLetter x ≤ 8 * (1 + Pl.sz0 x) := by
  unfold cntLetter sz0
  omega
theorem cntbVoteStep (x : VoteStep) : cntVoteStep x ≤ 8 * (1 + Pl.sz0 x) := by
  unfold cntVoteStep sz0
  omega
theorem cntbReplStep (x : ReplStep) : cntReplStep x ≤ 8 * (1 + Pl.szReplStep x) := by
  have s2 := szStr_nn x.Text
  unfold cntReplStep szReplStep
  omega
theorem cntbHouseStep (x : HouseStep) : cntHouseStep x ≤ 8 * (1 + Pl.szHouseStep x) := by
  have s2 := szStr_nn x.What.Name
  unfold cntHouseStep szHouseStep szSay
  omega
theorem cntbToken (x : Token) : cntToken x ≤ 8 * (1 + Pl.sz0 x) := by
  unfold cntToken sz0
  omega
theorem cntbRow (x : Row) : cntRow x ≤ 8 * (1 + Pl.szRow x) := by
  have s0 := szStr_nn x.Name
  have h1 := Pl.cntLb (cnt := Pl.cntSample) (f := Pl.sz0) (Pl.cntbSample) x.Samples
  have s1 := Pl.szl_nn (f := Pl.sz0) (Pl.sz0_nn) x.Samples
  unfold cntRow szRow
  omega
theorem cntbHead (x : Head) : cntHead x ≤ 8 * (1 + Pl.szHead x) := by
  have h0 := Pl.cntLb (cnt := Pl.cntRow) (f := Pl.szRow) (Pl.cntbRow) x.Rows
  have s0 := Pl.szl_nn (f := Pl.szRow) (Pl.szRow_nn) x.Rows
  unfold cntHead szHead
  omega
theorem cntbItem (x : Item) : cntItem x ≤ 8 * (1 + Pl.szItem x) := by
  have h0 := Pl.cntLb (cnt := Pl.cntLabel) (f := Pl.szLabel) (Pl.cntbLabel) x.Labels
  have s0 := Pl.szl_nn (f := Pl.szLabel) (Pl.szLabel_nn) x.Labels
  unfold cntItem szItem
  omega
theorem cntbTotal (x : Total) : cntTotal x ≤ 8 * (1 + Pl.szTotal x) := by
  have h0 := Pl.cntLb (cnt := Pl.cntLabel) (f := Pl.szLabel) (Pl.cntbLabel) x.Labels
  have s0 := Pl.szl_nn (f := Pl.szLabel) (Pl.szLabel_nn) x.Labels
  unfold cntTotal szTotal
  omega
theorem cntbSketch (x : Sketch) : cntSketch x ≤ 8 * (1 + Pl.szSketch x) := by
  have h0 := Pl.cntLb (cnt := (Mm.cntL Pl.cnt1)) (f := (Pl.szl Pl.sz0)) (fun x => by have := Pl.cntLb (cnt := Pl.cnt1) (f := Pl.sz0) (fun x => by have := Pl.sz0_nn x; unfold Pl.cnt1; omega) x; omega) x.Rows
  have s0 := Pl.szl_nn (f := (Pl.szl Pl.sz0)) (Pl.szl_nn (f := Pl.sz0) (Pl.sz0_nn)) x.Rows
  unfold cntSketch szSketch
  omega
theorem cntbHeavy (x : Heavy) : cntHeavy x ≤ 8 * (1 + Pl.szHeavy x) := by
  have h0 := Pl.cntLb (cnt := Pl.cnt1) (f := Pl.szStr) (fun x => by have := Pl.szStr_nn x; unfold Pl.cnt1; omega) x.Names
  have s0 := Pl.szl_nn (f := Pl.szStr) (Pl.szStr_nn) x.Names
  have h1 := Pl.cntLb (cnt := Pl.cnt1) (f := Pl.sz0) (fun x => by have := Pl.sz0_nn x; unfold Pl.cnt1; omega) x.Counts
  have s1 := Pl.szl_nn (f := Pl.sz0) (Pl.sz0_nn) x.Counts
  unfold cntHeavy szHeavy
  omega
theorem cntbPiece (x : Piece) : cntPiece x ≤ 8 * (1 + Pl.szPiece x) := by
  have s1 := szStr_nn x.Bytes
  have h2 := Pl.cntLb (cnt := Pl.cnt1) (f := Pl.sz0) (fun x => by have := Pl.sz0_nn x; unfold Pl.cnt1; omega) x.Index
  have s2 := Pl.szl_nn (f := Pl.sz0) (Pl.sz0_nn) x.Index
  unfold cntPiece szPiece
  omega
theorem cntbLog (x : Log) : cntLog x ≤ 8 * (1 + Pl.szLog x) := by
  have h0 := Pl.cntLb (cnt := Pl.cntPiece) (f := Pl.szPiece) (Pl.cntbPiece) x.Pieces
  have s0 := Pl.szl_nn (f := Pl.szPiece) (Pl.szPiece_nn) x.Pieces
  unfold cntLog szLog
  omega
theorem cntbHouse (x : House) : cntHouse x ≤ 8 * (1 + Pl.szHouse x) := by
  have h0 := Pl.cntLb (cnt := Pl.cntLog) (f := Pl.szLog) (Pl.cntbLog) x.Logs
  have s0 := Pl.szl_nn (f := Pl.szLog) (Pl.szLog_nn) x.Logs
  have h1 := Pl.cntLb (cnt := Pl.cntHead) (f := Pl.szHead) (Pl.cntbHead) x.Heads
  have s1 := Pl.szl_nn (f := Pl.szHead) (Pl.szHead_nn) x.Heads
  have h2 := Pl.cntLb (cnt := Pl.cntHead) (f := Pl.szHead) (Pl.cntbHead) x.Kept
  have s2 := Pl.szl_nn (f := Pl.szHead) (Pl.szHead_nn) x.Kept
  unfold cntHouse szHouse
  omega
theorem cntbTell (x : Tell) : cntTell x ≤ 8 * (1 + Pl.szTell x) := by
  have h0 := Pl.cntLb (cnt := (Mm.cntL Pl.cnt1)) (f := (Pl.szl Pl.szStr)) (fun x => by have := Pl.cntLb (cnt := Pl.cnt1) (f := Pl.szStr) (fun x => by have := Pl.szStr_nn x; unfold Pl.cnt1; omega) x; omega) x.Texts
  have s0 := Pl.szl_nn (f := (Pl.szl Pl.szStr)) (Pl.szl_nn (f := Pl.szStr) (Pl.szStr_nn)) x.Texts
  have h1 := Pl.cntLb (cnt := Pl.cnt1) (f := Pl.sz0) (fun x => by have := Pl.sz0_nn x; unfold Pl.cnt1; omega) x.Heard
  have s1 := Pl.szl_nn (f := Pl.sz0) (Pl.sz0_nn) x.Heard
  have h2 := Pl.cntLb (cnt := Pl.cntNote) (f := Pl.szNote) (Pl.cntbNote) x.Line
  have s2 := Pl.szl_nn (f := Pl.szNote) (Pl.szNote_nn) x.Line
  have h3 := Pl.cntLb (cnt := Pl.cntTold) (f := Pl.szTold) (Pl.cntbTold) x.Log
  have s3 := Pl.szl_nn (f := Pl.szTold) (Pl.szTold_nn) x.Log
  have h4 := Pl.cntLb (cnt := Pl.cnt1) (f := Pl.sz0) (fun x => by have := Pl.sz0_nn x; unfold Pl.cnt1; omega) x.Next
  have s4 := Pl.szl_nn (f := Pl.sz0) (Pl.sz0_nn) x.Next
  unfold cntTell szTell
  omega
theorem cntbBank (x : Bank) : cntBank x ≤ 8 * (1 + Pl.szBank x) := by
  have h0 := Pl.cntLb (cnt := Pl.cnt1) (f := Pl.sz0) (fun x => by have := Pl.sz0_nn x; unfold Pl.cnt1; omega) x.Coins
  have s0 := Pl.szl_nn (f := Pl.sz0) (Pl.sz0_nn) x.Coins
  have h1 := Pl.cntLb (cnt := (Mm.cntL Pl.cnt1)) (f := (Pl.szl Pl.sz0)) (fun x => by have := Pl.cntLb (cnt := Pl.cnt1) (f := Pl.sz0) (fun x => by have := Pl.sz0_nn x; unfold Pl.cnt1; omega) x; omega) x.Ways
  have s1 := Pl.szl_nn (f := (Pl.szl Pl.sz0)) (Pl.szl_nn (f := Pl.sz0) (Pl.sz0_nn)) x.Ways
  have h2 := Pl.cntLb (cnt := Pl.cnt1) (f := Pl.sz0) (fun x => by have := Pl.sz0_nn x; unfold Pl.cnt1; omega) x.Kept
  have s2 := Pl.szl_nn (f := Pl.sz0) (Pl.sz0_nn) x.Kept
  have h3 := Pl.cntLb (cnt := (Mm.cntL Pl.cnt1)) (f := (Pl.szl Pl.sz0)) (fun x => by have := Pl.cntLb (cnt := Pl.cnt1) (f := Pl.sz0) (fun x => by have := Pl.sz0_nn x; unfold Pl.cnt1; omega) x; omega) x.Heard
  have s3 := Pl.szl_nn (f := (Pl.szl Pl.sz0)) (Pl.szl_nn (f := Pl.sz0) (Pl.sz0_nn)) x.Heard
  have h4 := Pl.cntLb (cnt := (Mm.cntL Pl.cnt1)) (f := (Pl.szl Pl.sz0)) (fun x => by have := Pl.cntLb (cnt := Pl.cnt1) (f := Pl.sz0) (fun x => by have := Pl.sz0_nn x; unfold Pl.cnt1; omega) x; omega) x.Found
  have s4 := Pl.szl_nn (f := (Pl.szl Pl.sz0)) (Pl.szl_nn (f := Pl.sz0) (Pl.sz0_nn)) x.Found
  unfold cntBank szBank
  omega
theorem cntbNode (x : Node) : cntNode x ≤ 8 * (1 + Pl.szNode x) := by
  have h3 := Pl.cntLb (cnt := Pl.cnt1) (f := Pl.sz0) (fun x => by have := Pl.sz0_nn x; unfold Pl.cnt1; omega) x.Heard
  have s3 := Pl.szl_nn (f := Pl.sz0) (Pl.sz0_nn) x.Heard
  unfold cntNode szNode
  omega
theorem cntbPoll (x : Poll) : cntPoll x ≤ 8 * (1 + Pl.szPoll x) := by
  have h0 := Pl.cntLb (cnt := Pl.cntNode) (f := Pl.szNode) (Pl.cntbNode) x.Nodes
  have s0 := Pl.szl_nn (f := Pl.szNode) (Pl.szNode_nn) x.Nodes
  have h1 := Pl.cntLb (cnt := Pl.cntLetter) (f := Pl.sz0) (Pl.cntbLetter) x.Letters
  have s1 := Pl.szl_nn (f := Pl.sz0) (Pl.sz0_nn) x.Letters
  have h2 := Pl.cntLb (cnt := (Mm.cntL Pl.cnt1)) (f := (Pl.szl Pl.sz0)) (fun x => by have := Pl.cntLb (cnt := Pl.cnt1) (f := Pl.sz0) (fun x => by have := Pl.sz0_nn x; unfold Pl.cnt1; omega) x; omega) x.Leaders
  have s2 := Pl.szl_nn (f := (Pl.szl Pl.sz0)) (Pl.szl_nn (f := Pl.sz0) (Pl.sz0_nn)) x.Leaders
  unfold cntPoll szPoll
  omega
theorem cntbRepl (x : Repl) : cntRepl x ≤ 8 * (1 + Pl.szRepl x) := by
  have h0 := Pl.cntLb (cnt := (Mm.cntL Pl.cntEntry)) (f := (Pl.szl Pl.szEntry)) (fun x => by have := Pl.cntLb (cnt := Pl.cntEntry) (f := Pl.szEntry) (Pl.cntbEntry) x; omega) x.Logs
  have s0 := Pl.szl_nn (f := (Pl.szl Pl.szEntry)) (Pl.szl_nn (f := Pl.szEntry) (Pl.szEntry_nn)) x.Logs
  have h1 := Pl.cntLb (cnt := Pl.cnt1) (f := Pl.sz0) (fun x => by have := Pl.sz0_nn x; unfold Pl.cnt1; omega) x.Down
  have s1 := Pl.szl_nn (f := Pl.sz0) (Pl.sz0_nn) x.Down
  have h4 := Pl.cntLb (cnt := Pl.cnt1) (f := Pl.sz0) (fun x => by have := Pl.sz0_nn x; unfold Pl.cnt1; omega) x.InSync
  have s4 := Pl.szl_nn (f := Pl.sz0) (Pl.sz0_nn) x.InSync
  have h5 := Pl.cntLb (cnt := Pl.cntEntry) (f := Pl.szEntry) (Pl.cntbEntry) x.Certain
  have s5 := Pl.szl_nn (f := Pl.szEntry) (Pl.szEntry_nn) x.Certain
  unfold cntRepl szRepl
  omega
theorem ctopSketch_nn (x : Sketch) : 0 ≤ ctopSketch x := by
  have h0 := Mm.cntL_nn (cnt := (Mm.cntL Pl.cnt1)) (Mm.cntL_nn (cnt := Pl.cnt1) (Pl.cnt1_nn)) x.Rows
  unfold ctopSketch; omega
theorem ctopbSketch (x : Sketch) : ctopSketch x ≤ 8 * Pl.szSketch x := by
  have h0 := Pl.cntLb (cnt := (Mm.cntL Pl.cnt1)) (f := (Pl.szl Pl.sz0)) (fun x => by have := Pl.cntLb (cnt := Pl.cnt1) (f := Pl.sz0) (fun x => by have := Pl.sz0_nn x; unfold Pl.cnt1; omega) x; omega) x.Rows
  unfold ctopSketch szSketch; omega
theorem ctopHeavy_nn (x : Heavy) : 0 ≤ ctopHeavy x := by
  have h0 := Mm.cntL_nn (cnt := Pl.cnt1) (Pl.cnt1_nn) x.Names
  have h1 := Mm.cntL_nn (cnt := Pl.cnt1) (Pl.cnt1_nn) x.Counts
  unfold ctopHeavy; omega
theorem ctopbHeavy (x : Heavy) : ctopHeavy x ≤ 8 * Pl.szHeavy x := by
  have h0 := Pl.cntLb (cnt := Pl.cnt1) (f := Pl.szStr) (fun x => by have := Pl.szStr_nn x; unfold Pl.cnt1; omega) x.Names
  have h1 := Pl.cntLb (cnt := Pl.cnt1) (f := Pl.sz0) (fun x => by have := Pl.sz0_nn x; unfold Pl.cnt1; omega) x.Counts
  unfold ctopHeavy szHeavy; omega
theorem ctopHead_nn (x : Head) : 0 ≤ ctopHead x := by
  have h0 := Mm.cntL_nn (cnt := Pl.cntRow) (Pl.cntRow_nn) x.Rows
  unfold ctopHead; omega
theorem ctopbHead (x : Head) : ctopHead x ≤ 8 * Pl.szHead x := by
  have h0 := Pl.cntLb (cnt := Pl.cntRow) (f := Pl.szRow) (Pl.cntbRow) x.Rows
  unfold ctopHead szHead; omega
theorem ctopLog_nn (x : Log) : 0 ≤ ctopLog x := by
  have h0 := Mm.cntL_nn (cnt := Pl.cntPiece) (Pl.cntPiece_nn) x.Pieces
  unfold ctopLog; omega
theorem ctopbLog (x : Log) : ctopLog x ≤ 8 * Pl.szLog x := by
  have h0 := Pl.cntLb (cnt := Pl.cntPiece) (f := Pl.szPiece) (Pl.cntbPiece) x.Pieces
  unfold ctopLog szLog; omega
theorem ctopTell_nn (x : Tell) : 0 ≤ ctopTell x := by
  have h0 := Mm.cntL_nn (cnt := (Mm.cntL Pl.cnt1)) (Mm.cntL_nn (cnt := Pl.cnt1) (Pl.cnt1_nn)) x.Texts
  have h1 := Mm.cntL_nn (cnt := Pl.cnt1) (Pl.cnt1_nn) x.Heard
  have h2 := Mm.cntL_nn (cnt := Pl.cntNote) (Pl.cntNote_nn) x.Line
  have h3 := Mm.cntL_nn (cnt := Pl.cntTold) (Pl.cntTold_nn) x.Log
  have h4 := Mm.cntL_nn (cnt := Pl.cnt1) (Pl.cnt1_nn) x.Next
  unfold ctopTell; omega
theorem ctopbTell (x : Tell) : ctopTell x ≤ 8 * Pl.szTell x := by
  have h0 := Pl.cntLb (cnt := (Mm.cntL Pl.cnt1)) (f := (Pl.szl Pl.szStr)) (fun x => by have := Pl.cntLb (cnt := Pl.cnt1) (f := Pl.szStr) (fun x => by have := Pl.szStr_nn x; unfold Pl.cnt1; omega) x; omega) x.Texts
  have h1 := Pl.cntLb (cnt := Pl.cnt1) (f := Pl.sz0) (fun x => by have := Pl.sz0_nn x; unfold Pl.cnt1; omega) x.Heard
  have h2 := Pl.cntLb (cnt := Pl.cntNote) (f := Pl.szNote) (Pl.cntbNote) x.Line
  have h3 := Pl.cntLb (cnt := Pl.cntTold) (f := Pl.szTold) (Pl.cntbTold) x.Log
  have h4 := Pl.cntLb (cnt := Pl.cnt1) (f := Pl.sz0) (fun x => by have := Pl.sz0_nn x; unfold Pl.cnt1; omega) x.Next
  unfold ctopTell szTell; omega
theorem ctopBank_nn (x : Bank) : 0 ≤ ctopBank x := by
  have h0 := Mm.cntL_nn (cnt := Pl.cnt1) (Pl.cnt1_nn) x.Coins
  have h1 := Mm.cntL_nn (cnt := (Mm.cntL Pl.cnt1)) (Mm.cntL_nn (cnt := Pl.cnt1) (Pl.cnt1_nn)) x.Ways
  have h2 := Mm.cntL_nn (cnt := Pl.cnt1) (Pl.cnt1_nn) x.Kept
  have h3 := Mm.cntL_nn (cnt := (Mm.cntL Pl.cnt1)) (Mm.cntL_nn (cnt := Pl.cnt1) (Pl.cnt1_nn)) x.Heard
  have h4 := Mm.cntL_nn (cnt := (Mm.cntL Pl.cnt1)) (Mm.cntL_nn (cnt := Pl.cnt1) (Pl.cnt1_nn)) x.Found
  unfold ctopBank; omega
theorem ctopbBank (x : Bank) : ctopBank x ≤ 8 * Pl.szBank x := by
  have h0 := Pl.cntLb (cnt := Pl.cnt1) (f := Pl.sz0) (fun x => by have := Pl.sz0_nn x; unfold Pl.cnt1; omega) x.Coins
  have h1 := Pl.cntLb (cnt := (Mm.cntL Pl.cnt1)) (f := (Pl.szl Pl.sz0)) (fun x => by have := Pl.cntLb (cnt := Pl.cnt1) (f := Pl.sz0) (fun x => by have := Pl.sz0_nn x; unfold Pl.cnt1; omega) x; omega) x.Ways
  have h2 := Pl.cntLb (cnt := Pl.cnt1) (f := Pl.sz0) (fun x => by have := Pl.sz0_nn x; unfold Pl.cnt1; omega) x.Kept
  have h3 := Pl.cntLb (cnt := (Mm.cntL Pl.cnt1)) (f := (Pl.szl Pl.sz0)) (fun x => by have := Pl.cntLb (cnt := Pl.cnt1) (f := Pl.sz0) (fun x => by have := Pl.sz0_nn x; unfold Pl.cnt1; omega) x; omega) x.Heard
  have h4 := Pl.cntLb (cnt := (Mm.cntL Pl.cnt1)) (f := (Pl.szl Pl.sz0)) (fun x => by have := Pl.cntLb (cnt := Pl.cnt1) (f := Pl.sz0) (fun x => by have := Pl.sz0_nn x; unfold Pl.cnt1; omega) x; omega) x.Found
  unfold ctopBank szBank; omega
theorem ctopHouse_nn (x : House) : 0 ≤ ctopHouse x := by
  have h0 := Mm.cntL_nn (cnt := Pl.cntLog) (Pl.cntLog_nn) x.Logs
  have h1 := Mm.cntL_nn (cnt := Pl.cntHead) (Pl.cntHead_nn) x.Heads
  have h2 := Mm.cntL_nn (cnt := Pl.cntHead) (Pl.cntHead_nn) x.Kept
  unfold ctopHouse; omega
theorem ctopbHouse (x : House) : ctopHouse x ≤ 8 * Pl.szHouse x := by
  have h0 := Pl.cntLb (cnt := Pl.cntLog) (f := Pl.szLog) (Pl.cntbLog) x.Logs
  have h1 := Pl.cntLb (cnt := Pl.cntHead) (f := Pl.szHead) (Pl.cntbHead) x.Heads
  have h2 := Pl.cntLb (cnt := Pl.cntHead) (f := Pl.szHead) (Pl.cntbHead) x.Kept
  unfold ctopHouse szHouse; omega
theorem ctopPoll_nn (x : Poll) : 0 ≤ ctopPoll x := by
  have h0 := Mm.cntL_nn (cnt := Pl.cntNode) (Pl.cntNode_nn) x.Nodes
  have h1 := Mm.cntL_nn (cnt := Pl.cntLetter) (Pl.cntLetter_nn) x.Letters
  have h2 := Mm.cntL_nn (cnt := (Mm.cntL Pl.cnt1)) (Mm.cntL_nn (cnt := Pl.cnt1) (Pl.cnt1_nn)) x.Leaders
  unfold ctopPoll; omega
theorem ctopbPoll (x : Poll) : ctopPoll x ≤ 8 * Pl.szPoll x := by
  have h0 := Pl.cntLb (cnt := Pl.cntNode) (f := Pl.szNode) (Pl.cntbNode) x.Nodes
  have h1 := Pl.cntLb (cnt := Pl.cntLetter) (f := Pl.sz0) (Pl.cntbLetter) x.Letters
  have h2 := Pl.cntLb (cnt := (Mm.cntL Pl.cnt1)) (f := (Pl.szl Pl.sz0)) (fun x => by have := Pl.cntLb (cnt := Pl.cnt1) (f := Pl.sz0) (fun x => by have := Pl.sz0_nn x; unfold Pl.cnt1; omega) x; omega) x.Leaders
  unfold ctopPoll szPoll; omega
theorem ctopRepl_nn (x : Repl) : 0 ≤ ctopRepl x := by
  have h0 := Mm.cntL_nn (cnt := (Mm.cntL Pl.cntEntry)) (Mm.cntL_nn (cnt := Pl.cntEntry) (Pl.cntEntry_nn)) x.Logs
  have h1 := Mm.cntL_nn (cnt := Pl.cnt1) (Pl.cnt1_nn) x.Down
  have h2 := Mm.cntL_nn (cnt := Pl.cnt1) (Pl.cnt1_nn) x.InSync
  have h3 := Mm.cntL_nn (cnt := Pl.cntEntry) (Pl.cntEntry_nn) x.Certain
  unfold ctopRepl; omega
theorem ctopbRepl (x : Repl) : ctopRepl x ≤ 8 * Pl.szRepl x := by
  have h0 := Pl.cntLb (cnt := (Mm.cntL Pl.cntEntry)) (f := (Pl.szl Pl.szEntry)) (fun x => by have := Pl.cntLb (cnt := Pl.cntEntry) (f := Pl.szEntry) (Pl.cntbEntry) x; omega) x.Logs
  have h1 := Pl.cntLb (cnt := Pl.cnt1) (f := Pl.sz0) (fun x => by have := Pl.sz0_nn x; unfold Pl.cnt1; omega) x.Down
  have h2 := Pl.cntLb (cnt := Pl.cnt1) (f := Pl.sz0) (fun x => by have := Pl.sz0_nn x; unfold Pl.cnt1; omega) x.InSync
  have h3 := Pl.cntLb (cnt := Pl.cntEntry) (f := Pl.szEntry) (Pl.cntbEntry) x.Certain
  unfold ctopRepl szRepl; omega
end Pl
namespace Pl
theorem digs_len : ∀ (f k : Nat) (acc : List UInt8), (digs f k acc).length ≤ acc.length + f
  | 0, _, acc => by simp [digs]
  | f + 1, k, acc => by
    unfold digs
    split
    · omega
    · have := digs_len f (k / 10) (UInt8.ofNat (48 + k % 10) :: acc)
      rw [List.length_cons] at this
      omega
theorem mkText_len (k : Int) (h0 : 0 ≤ k) (h1 : k ≤ 1000000000000) : (mkText k).size ≤ maxLen := by
  unfold mkText
  have := digs_len k.toNat k.toNat []
  show (109 :: digs k.toNat k.toNat []).toArray.size ≤ maxLen
  rw [List.size_toArray, List.length_cons]
  unfold maxLen
  simp only [List.length_nil] at this
  omega
end Pl
end Go.Proofs.Ytihendiakgfpcaa

/-
  How the program's types lie in memory. No conditions.
-/
namespace Go.Proofs.Ytihendiakgfpcaa
def rEntry : Mm.Rep Entry := Mm.flat 2 (fun x => [.int .i64 x.Epoch, .string x.Text]) (fun x => Mm.I64 x.Epoch ∧ x.Text.size ≤ maxLen) (fun _ => rfl) (fun _ u hu => by
  simp at hu; rcases hu with rfl | rfl <;> rfl)
theorem rEntry_at {w : World} {B : Nat} {x : Entry} {cs : List Value} (h : rEntry.at_ w B x cs) : cs = [.int .i64 x.Epoch, .string x.Text] ∧ Mm.I64 x.Epoch ∧ x.Text.size ≤ maxLen := h
theorem rEntry_own {w : World} {x : Entry} {cs : List Value} {fp : List Nat} (h : rEntry.own w x cs fp) : cs = [.int .i64 x.Epoch, .string x.Text] ∧ (Mm.I64 x.Epoch ∧ x.Text.size ≤ maxLen) ∧ fp = [] := h
theorem rEntry_own_mk {w : World} {x : Entry} (h : Mm.I64 x.Epoch ∧ x.Text.size ≤ maxLen) : rEntry.own w x [.int .i64 x.Epoch, .string x.Text] [] := ⟨rfl, h, rfl⟩
def rStart : Mm.Rep Start := Mm.flat 2 (fun x => [.int .i64 x.Epoch, .int .i64 x.At]) (fun x => Mm.I64 x.Epoch ∧ Mm.I64 x.At) (fun _ => rfl) (fun _ u hu => by
  simp at hu; rcases hu with rfl | rfl <;> rfl)
theorem rStart_at {w : World} {B : Nat} {x : Start} {cs : List Value} (h : rStart.at_ w B x cs) : cs = [.int .i64 x.Epoch, .int .i64 x.At] ∧ Mm.I64 x.Epoch ∧ Mm.I64 x.At := h
theorem rStart_own {w : World} {x : Start} {cs : List Value} {fp : List Nat} (h : rStart.own w x cs fp) : cs = [.int .i64 x.Epoch, .int .i64 x.At] ∧ (Mm.I64 x.Epoch ∧ Mm.I64 x.At) ∧ fp = [] := h
theorem rStart_own_mk {w : World} {x : Start} (h : Mm.I64 x.Epoch ∧ Mm.I64 x.At) : rStart.own w x [.int .i64 x.Epoch, .int .i64 x.At] [] := ⟨rfl, h, rfl⟩
def rReplStep : Mm.Rep ReplStep := Mm.flat 3 (fun x => [.int .i64 x.Kind, .int .i64 x.Node, .string x.Text]) (fun x => Mm.I64 x.Kind ∧ Mm.I64 x.Node ∧ x.Text.size ≤ maxLen) (fun _ => rfl) (fun _ u hu => by
  simp at hu; rcases hu with rfl | rfl | rfl <;> rfl)
theorem rReplStep_at {w : World} {B : Nat} {x : ReplStep} {cs : List Value} (h : rReplStep.at_ w B x cs) : cs = [.int .i64 x.Kind, .int .i64 x.Node, .string x.Text] ∧ Mm.I64 x.Kind ∧ Mm.I64 x.Node ∧ x.Text.size ≤ maxLen := h
theorem rReplStep_own {w : World} {x : ReplStep} {cs : List Value} {fp : List Nat} (h : rReplStep.own w x cs fp) : cs = [.int .i64 x.Kind, .int .i64 x.Node, .string x.Text] ∧ (Mm.I64 x.Kind ∧ Mm.I64 x.Node ∧ x.Text.size ≤ maxLen) ∧ fp = [] := h
theorem rReplStep_own_mk {w : World} {x : ReplStep} (h : Mm.I64 x.Kind ∧ Mm.I64 x.Node ∧ x.Text.size ≤ maxLen) : rReplStep.own w x [.int .i64 x.Kind, .int .i64 x.Node, .string x.Text] [] := ⟨rfl, h, rfl⟩
def ints : Mm.Rep (List Int) := Mm.slice Mm.int 3
def strs : Mm.Rep (List ByteArray) := Mm.slice Mm.str 9
def bools : Mm.Rep (List Bool) := Mm.slice Mm.bool 4
def rEntryS : Mm.Rep (List Entry) := Mm.slice rEntry 111
def rEntrySS : Mm.Rep (List (List Entry)) := Mm.slice rEntryS 29
def rRepl : Mm.Rep Repl := Mm.iso (fun x => (x.Logs, (x.Down, (x.Leader, (x.Epoch, (x.InSync, x.Certain)))))) (Mm.pair rEntrySS (Mm.pair bools (Mm.pair Mm.int (Mm.pair Mm.int (Mm.pair ints rEntryS)))))
theorem rRepl_at {w : World} {B : Nat} {x : Repl} {cs : List Value} (h : rRepl.at_ w B x cs) : ∃ A0 n0 c0 A1 n1 c1 A2 n2 c2 A3 n3 c3, cs = [.slice A0 n0 c0, .slice A1 n1 c1, .int .i64 x.Leader, .int .i64 x.Epoch, .slice A2 n2 c2, .slice A3 n3 c3] ∧ Mm.SlAt rEntryS w B x.Logs A0 n0 c0 ∧ Mm.SlAt Mm.bool w B x.Down A1 n1 c1 ∧ Mm.I64 x.Leader ∧ Mm.I64 x.Epoch ∧ Mm.SlAt Mm.int w B x.InSync A2 n2 c2 ∧ Mm.SlAt rEntry w B x.Certain A3 n3 c3 := by
  obtain ⟨_, _, rfl, ⟨A0, n0, c0, rfl, h0⟩, ⟨_, _, rfl, ⟨A1, n1, c1, rfl, h1⟩, ⟨_, _, rfl, ⟨rfl, h2⟩, ⟨_, _, rfl, ⟨rfl, h3⟩, ⟨_, _, rfl, ⟨A2, n2, c2, rfl, h4⟩, ⟨A3, n3, c3, rfl, h5⟩⟩⟩⟩⟩⟩ := h
  exact ⟨A0, n0, c0, A1, n1, c1, A2, n2, c2, A3, n3, c3, rfl, h0, h1, h2, h3, h4, h5⟩
theorem rRepl_at_mk {w : World} {B : Nat} {x : Repl} {A0 : Option Addr} {n0 c0 : Nat} {A1 : Option Addr} {n1 c1 : Nat} {A2 : Option Addr} {n2 c2 : Nat} {A3 : Option Addr} {n3 c3 : Nat} (g0 : Mm.SlAt rEntryS w B x.Logs A0 n0 c0) (g1 : Mm.SlAt Mm.bool w B x.Down A1 n1 c1) (g2 : Mm.I64 x.Leader) (g3 : Mm.I64 x.Epoch) (g4 : Mm.SlAt Mm.int w B x.InSync A2 n2 c2) (g5 : Mm.SlAt rEntry w B x.Certain A3 n3 c3) : rRepl.at_ w B x [.slice A0 n0 c0, .slice A1 n1 c1, .int .i64 x.Leader, .int .i64 x.Epoch, .slice A2 n2 c2, .slice A3 n3 c3] :=
  ⟨_, _, rfl, ⟨A0, n0, c0, rfl, g0⟩, ⟨_, _, rfl, ⟨A1, n1, c1, rfl, g1⟩, ⟨_, _, rfl, ⟨rfl, g2⟩, ⟨_, _, rfl, ⟨rfl, g3⟩, ⟨_, _, rfl, ⟨A2, n2, c2, rfl, g4⟩, ⟨A3, n3, c3, rfl, g5⟩⟩⟩⟩⟩⟩
theorem rRepl_own {w : World} {x : Repl} {cs : List Value} {fp : List Nat} (h : rRepl.own w x cs fp) : ∃ A0 n0 c0 A1 n1 c1 A2 n2 c2 A3 n3 c3 f0 f1 f2 f3, cs = [.slice A0 n0 c0, .slice A1 n1 c1, .int .i64 x.Leader, .int .i64 x.Epoch, .slice A2 n2 c2, .slice A3 n3 c3] ∧ fp = f0 ++ (f1 ++ (f2 ++ f3)) ∧ Mm.SlOwn rEntryS 29 w x.Logs (.slice A0 n0 c0) f0 ∧ Mm.SlOwn Mm.bool 4 w x.Down (.slice A1 n1 c1) f1 ∧ Mm.I64 x.Leader ∧ Mm.I64 x.Epoch ∧ Mm.SlOwn Mm.int 3 w x.InSync (.slice A2 n2 c2) f2 ∧ Mm.SlOwn rEntry 111 w x.Certain (.slice A3 n3 c3) f3 := by
  obtain ⟨_, _, _, _, rfl, rfl, ⟨v0, rfl, h0⟩, ⟨_, _, _, _, rfl, rfl, ⟨v1, rfl, h1⟩, ⟨_, _, _, _, rfl, rfl, ⟨rfl, h2, rfl⟩, ⟨_, _, _, _, rfl, rfl, ⟨rfl, h3, rfl⟩, ⟨_, _, _, _, rfl, rfl, ⟨v4, rfl, h4⟩, ⟨v5, rfl, h5⟩⟩⟩⟩⟩⟩ := h
  obtain ⟨A0, n0, c0, rfl, _⟩ := h0.form
  obtain ⟨A1, n1, c1, rfl, _⟩ := h1.form
  obtain ⟨A2, n2, c2, rfl, _⟩ := h4.form
  obtain ⟨A3, n3, c3, rfl, _⟩ := h5.form
  exact ⟨A0, n0, c0, A1, n1, c1, A2, n2, c2, A3, n3, c3, _, _, _, _, rfl, by simp, h0, h1, h2, h3, h4, h5⟩
theorem rRepl_own_mk {w : World} {x : Repl} {A0 : Option Addr} {n0 c0 : Nat} {A1 : Option Addr} {n1 c1 : Nat} {A2 : Option Addr} {n2 c2 : Nat} {A3 : Option Addr} {n3 c3 : Nat} {f0 f1 f2 f3 : List Nat} (g0 : Mm.SlOwn rEntryS 29 w x.Logs (.slice A0 n0 c0) f0) (g1 : Mm.SlOwn Mm.bool 4 w x.Down (.slice A1 n1 c1) f1) (g2 : Mm.I64 x.Leader) (g3 : Mm.I64 x.Epoch) (g4 : Mm.SlOwn Mm.int 3 w x.InSync (.slice A2 n2 c2) f2) (g5 : Mm.SlOwn rEntry 111 w x.Certain (.slice A3 n3 c3) f3) : rRepl.own w x [.slice A0 n0 c0, .slice A1 n1 c1, .int .i64 x.Leader, .int .i64 x.Epoch, .slice A2 n2 c2, .slice A3 n3 c3] (f0 ++ (f1 ++ (f2 ++ f3))) := by
  have h : rRepl.own w x _ _ := ⟨_, _, _, _, rfl, rfl, ⟨_, rfl, g0⟩, ⟨_, _, _, _, rfl, rfl, ⟨_, rfl, g1⟩, ⟨_, _, _, _, rfl, rfl, ⟨rfl, g2, rfl⟩, ⟨_, _, _, _, rfl, rfl, ⟨rfl, g3, rfl⟩, ⟨_, _, _, _, rfl, rfl, ⟨_, rfl, g4⟩, ⟨_, rfl, g5⟩⟩⟩⟩⟩⟩
  simpa using h
def rStartS : Mm.Rep (List Start) := Mm.slice rStart 123
def rReplStepS : Mm.Rep (List ReplStep) := Mm.slice rReplStep 53
theorem int_get {w : World} {B : Nat} {l : List Int} {A : Option Addr} {n c k : Nat} (h : Mm.SlAt Mm.int w B l A n c) (hk : k < n) :
    ∃ x b off, l[k]? = some x ∧ A = some ⟨b, off, none⟩ ∧ b < B ∧ Mm.I64 x ∧ w.cell? ⟨b, off + k, none⟩ = some (.int .i64 x) := by
  obtain ⟨x, b, off, cs, hx, hA, hb, ha, hc⟩ := h.get hk
  obtain ⟨rfl, g0⟩ := ha
  exact ⟨x, b, off, hx, hA, hb, g0, (by rw [show off + k = off + k * Mm.int.size + 0 by show _ = off + k * 1 + 0; omega]; exact hc 0 _ rfl)⟩
theorem int_get' {w : World} {B : Nat} {l : List Int} {b off n c k : Nat} (h : Mm.SlAt Mm.int w B l (some ⟨b, off, none⟩) n c) (hk : k < n) :
    ∃ x, l[k]? = some x ∧ b < B ∧ Mm.I64 x ∧ w.cell? ⟨b, off + k, none⟩ = some (.int .i64 x) := by
  obtain ⟨x, cs, hx, hb, ha, hc⟩ := h.get' hk
  obtain ⟨rfl, g0⟩ := ha
  exact ⟨x, hx, hb, g0, (by rw [show off + k = off + k * Mm.int.size + 0 by show _ = off + k * 1 + 0; omega]; exact hc 0 _ rfl)⟩
theorem int_ocell {w : World} {e : TypeId} {xs : List Int} {g n c i : Nat} {x : Int} {fp : List Nat} (h : Mm.SlOwn Mm.int e w xs (.slice (some ⟨g, 0, none⟩) n c) fp) (hnd : fp.Nodup) (hi : xs[i]? = some x) : w.cell? ⟨g, i, none⟩ = some (.int .i64 x) := by
  obtain ⟨cs, fx, hown, _, _, hc, _⟩ := h.inner hnd hi
  obtain ⟨rfl, _, _⟩ := hown
  exact ((by have e0 := hc 0 _ rfl; rwa [show i * Mm.int.size + 0 = i by show i * 1 + 0 = i; omega] at e0))
theorem str_get {w : World} {B : Nat} {l : List ByteArray} {A : Option Addr} {n c k : Nat} (h : Mm.SlAt Mm.str w B l A n c) (hk : k < n) :
    ∃ x b off, l[k]? = some x ∧ A = some ⟨b, off, none⟩ ∧ b < B ∧ x.size ≤ maxLen ∧ w.cell? ⟨b, off + k, none⟩ = some (.string x) := by
  obtain ⟨x, b, off, cs, hx, hA, hb, ha, hc⟩ := h.get hk
  obtain ⟨rfl, g0⟩ := ha
  exact ⟨x, b, off, hx, hA, hb, g0, (by rw [show off + k = off + k * Mm.str.size + 0 by show _ = off + k * 1 + 0; omega]; exact hc 0 _ rfl)⟩
theorem str_get' {w : World} {B : Nat} {l : List ByteArray} {b off n c k : Nat} (h : Mm.SlAt Mm.str w B l (some ⟨b, off, none⟩) n c) (hk : k < n) :
    ∃ x, l[k]? = some x ∧ b < B ∧ x.size ≤ maxLen ∧ w.cell? ⟨b, off + k, none⟩ = some (.string x) := by
  obtain ⟨x, cs, hx, hb, ha, hc⟩ := h.get' hk
  obtain ⟨rfl, g0⟩ := ha
  exact ⟨x, hx, hb, g0, (by rw [show off + k = off + k * Mm.str.size + 0 by show _ = off + k * 1 + 0; omega]; exact hc 0 _ rfl)⟩
theorem str_ocell {w : World} {e : TypeId} {xs : List ByteArray} {g n c i : Nat} {x : ByteArray} {fp : List Nat} (h : Mm.SlOwn Mm.str e w xs (.slice (some ⟨g, 0, none⟩) n c) fp) (hnd : fp.Nodup) (hi : xs[i]? = some x) : w.cell? ⟨g, i, none⟩ = some (.string x) := by
  obtain ⟨cs, fx, hown, _, _, hc, _⟩ := h.inner hnd hi
  obtain ⟨rfl, _, _⟩ := hown
  exact ((by have e0 := hc 0 _ rfl; rwa [show i * Mm.str.size + 0 = i by show i * 1 + 0 = i; omega] at e0))
theorem bool_get {w : World} {B : Nat} {l : List Bool} {A : Option Addr} {n c k : Nat} (h : Mm.SlAt Mm.bool w B l A n c) (hk : k < n) :
    ∃ x b off, l[k]? = some x ∧ A = some ⟨b, off, none⟩ ∧ b < B ∧ w.cell? ⟨b, off + k, none⟩ = some (.bool x) := by
  obtain ⟨x, b, off, cs, hx, hA, hb, ha, hc⟩ := h.get hk
  obtain ⟨rfl, _⟩ := ha
  exact ⟨x, b, off, hx, hA, hb, (by rw [show off + k = off + k * Mm.bool.size + 0 by show _ = off + k * 1 + 0; omega]; exact hc 0 _ rfl)⟩
theorem bool_get' {w : World} {B : Nat} {l : List Bool} {b off n c k : Nat} (h : Mm.SlAt Mm.bool w B l (some ⟨b, off, none⟩) n c) (hk : k < n) :
    ∃ x, l[k]? = some x ∧ b < B ∧ w.cell? ⟨b, off + k, none⟩ = some (.bool x) := by
  obtain ⟨x, cs, hx, hb, ha, hc⟩ := h.get' hk
  obtain ⟨rfl, _⟩ := ha
  exact ⟨x, hx, hb, (by rw [show off + k = off + k * Mm.bool.size + 0 by show _ = off + k * 1 + 0; omega]; exact hc 0 _ rfl)⟩
theorem bool_ocell {w : World} {e : TypeId} {xs : List Bool} {g n c i : Nat} {x : Bool} {fp : List Nat} (h : Mm.SlOwn Mm.bool e w xs (.slice (some ⟨g, 0, none⟩) n c) fp) (hnd : fp.Nodup) (hi : xs[i]? = some x) : w.cell? ⟨g, i, none⟩ = some (.bool x) := by
  obtain ⟨cs, fx, hown, _, _, hc, _⟩ := h.inner hnd hi
  obtain ⟨rfl, _, _⟩ := hown
  exact ((by have e0 := hc 0 _ rfl; rwa [show i * Mm.bool.size + 0 = i by show i * 1 + 0 = i; omega] at e0))
theorem rEntryS_get {w : World} {B : Nat} {l : List (List Entry)} {A : Option Addr} {n c k : Nat} (h : Mm.SlAt rEntryS w B l A n c) (hk : k < n) :
    ∃ x b off A' n' c', l[k]? = some x ∧ A = some ⟨b, off, none⟩ ∧ b < B ∧ Mm.SlAt rEntry w B x A' n' c' ∧ w.cell? ⟨b, off + k, none⟩ = some (.slice A' n' c') := by
  obtain ⟨x, b, off, cs, hx, hA, hb, ha, hc⟩ := h.get hk
  obtain ⟨A', n', c', rfl, g0⟩ := ha
  exact ⟨x, b, off, A', n', c', hx, hA, hb, g0, (by rw [show off + k = off + k * rEntryS.size + 0 by show _ = off + k * 1 + 0; omega]; exact hc 0 _ rfl)⟩
theorem rEntryS_get' {w : World} {B : Nat} {l : List (List Entry)} {b off n c k : Nat} (h : Mm.SlAt rEntryS w B l (some ⟨b, off, none⟩) n c) (hk : k < n) :
    ∃ x A' n' c', l[k]? = some x ∧ b < B ∧ Mm.SlAt rEntry w B x A' n' c' ∧ w.cell? ⟨b, off + k, none⟩ = some (.slice A' n' c') := by
  obtain ⟨x, cs, hx, hb, ha, hc⟩ := h.get' hk
  obtain ⟨A', n', c', rfl, g0⟩ := ha
  exact ⟨x, A', n', c', hx, hb, g0, (by rw [show off + k = off + k * rEntryS.size + 0 by show _ = off + k * 1 + 0; omega]; exact hc 0 _ rfl)⟩
theorem rEntryS_ocell {w : World} {e : TypeId} {xs : List (List Entry)} {g n c i : Nat} {x : (List Entry)} {fp : List Nat} (h : Mm.SlOwn rEntryS e w xs (.slice (some ⟨g, 0, none⟩) n c) fp) (hnd : fp.Nodup) (hi : xs[i]? = some x) : ∃ A' n' c', w.cell? ⟨g, i, none⟩ = some (.slice A' n' c') := by
  obtain ⟨cs, fx, hown, _, _, hc, _⟩ := h.inner hnd hi
  obtain ⟨v', rfl, ho⟩ := hown
  obtain ⟨A', n', c', rfl, _⟩ := ho.form
  exact ⟨A', n', c', (by have e0 := hc 0 _ rfl; rwa [show i * rEntryS.size + 0 = i by show i * 1 + 0 = i; omega] at e0)⟩
theorem rEntry_get {w : World} {B : Nat} {l : List Entry} {A : Option Addr} {n c k : Nat} (h : Mm.SlAt rEntry w B l A n c) (hk : k < n) :
    ∃ x b off, l[k]? = some x ∧ A = some ⟨b, off, none⟩ ∧ b < B ∧ Mm.I64 x.Epoch ∧ x.Text.size ≤ maxLen ∧ w.cell? ⟨b, off + k * 2, none⟩ = some (.int .i64 x.Epoch) ∧ w.cell? ⟨b, off + k * 2 + 1, none⟩ = some (.string x.Text) := by
  obtain ⟨x, b, off, cs, hx, hA, hb, ha, hc⟩ := h.get hk
  obtain ⟨rfl, g0, g1⟩ := rEntry_at ha
  exact ⟨x, b, off, hx, hA, hb, g0, g1, hc 0 _ rfl, hc 1 _ rfl⟩
theorem rEntry_get' {w : World} {B : Nat} {l : List Entry} {b off n c k : Nat} (h : Mm.SlAt rEntry w B l (some ⟨b, off, none⟩) n c) (hk : k < n) :
    ∃ x, l[k]? = some x ∧ b < B ∧ Mm.I64 x.Epoch ∧ x.Text.size ≤ maxLen ∧ w.cell? ⟨b, off + k * 2, none⟩ = some (.int .i64 x.Epoch) ∧ w.cell? ⟨b, off + k * 2 + 1, none⟩ = some (.string x.Text) := by
  obtain ⟨x, cs, hx, hb, ha, hc⟩ := h.get' hk
  obtain ⟨rfl, g0, g1⟩ := rEntry_at ha
  exact ⟨x, hx, hb, g0, g1, hc 0 _ rfl, hc 1 _ rfl⟩
theorem rEntry_ocell {w : World} {e : TypeId} {xs : List Entry} {g n c i : Nat} {x : Entry} {fp : List Nat} (h : Mm.SlOwn rEntry e w xs (.slice (some ⟨g, 0, none⟩) n c) fp) (hnd : fp.Nodup) (hi : xs[i]? = some x) : w.cell? ⟨g, i * 2, none⟩ = some (.int .i64 x.Epoch) ∧ w.cell? ⟨g, i * 2 + 1, none⟩ = some (.string x.Text) := by
  obtain ⟨cs, fx, hown, _, _, hc, _⟩ := h.inner hnd hi
  obtain ⟨rfl, _⟩ := rEntry_own hown
  exact ⟨hc 0 _ rfl, hc 1 _ rfl⟩
theorem rStart_get {w : World} {B : Nat} {l : List Start} {A : Option Addr} {n c k : Nat} (h : Mm.SlAt rStart w B l A n c) (hk : k < n) :
    ∃ x b off, l[k]? = some x ∧ A = some ⟨b, off, none⟩ ∧ b < B ∧ Mm.I64 x.Epoch ∧ Mm.I64 x.At ∧ w.cell? ⟨b, off + k * 2, none⟩ = some (.int .i64 x.Epoch) ∧ w.cell? ⟨b, off + k * 2 + 1, none⟩ = some (.int .i64 x.At) := by
  obtain ⟨x, b, off, cs, hx, hA, hb, ha, hc⟩ := h.get hk
  obtain ⟨rfl, g0, g1⟩ := rStart_at ha
  exact ⟨x, b, off, hx, hA, hb, g0, g1, hc 0 _ rfl, hc 1 _ rfl⟩
theorem rStart_get' {w : World} {B : Nat} {l : List Start} {b off n c k : Nat} (h : Mm.SlAt rStart w B l (some ⟨b, off, none⟩) n c) (hk : k < n) :
    ∃ x, l[k]? = some x ∧ b < B ∧ Mm.I64 x.Epoch ∧ Mm.I64 x.At ∧ w.cell? ⟨b, off + k * 2, none⟩ = some (.int .i64 x.Epoch) ∧ w.cell? ⟨b, off + k * 2 + 1, none⟩ = some (.int .i64 x.At) := by
  obtain ⟨x, cs, hx, hb, ha, hc⟩ := h.get' hk
  obtain ⟨rfl, g0, g1⟩ := rStart_at ha
  exact ⟨x, hx, hb, g0, g1, hc 0 _ rfl, hc 1 _ rfl⟩
theorem rStart_ocell {w : World} {e : TypeId} {xs : List Start} {g n c i : Nat} {x : Start} {fp : List Nat} (h : Mm.SlOwn rStart e w xs (.slice (some ⟨g, 0, none⟩) n c) fp) (hnd : fp.Nodup) (hi : xs[i]? = some x) : w.cell? ⟨g, i * 2, none⟩ = some (.int .i64 x.Epoch) ∧ w.cell? ⟨g, i * 2 + 1, none⟩ = some (.int .i64 x.At) := by
  obtain ⟨cs, fx, hown, _, _, hc, _⟩ := h.inner hnd hi
  obtain ⟨rfl, _⟩ := rStart_own hown
  exact ⟨hc 0 _ rfl, hc 1 _ rfl⟩
theorem rReplStep_get {w : World} {B : Nat} {l : List ReplStep} {A : Option Addr} {n c k : Nat} (h : Mm.SlAt rReplStep w B l A n c) (hk : k < n) :
    ∃ x b off, l[k]? = some x ∧ A = some ⟨b, off, none⟩ ∧ b < B ∧ Mm.I64 x.Kind ∧ Mm.I64 x.Node ∧ x.Text.size ≤ maxLen ∧ w.cell? ⟨b, off + k * 3, none⟩ = some (.int .i64 x.Kind) ∧ w.cell? ⟨b, off + k * 3 + 1, none⟩ = some (.int .i64 x.Node) ∧ w.cell? ⟨b, off + k * 3 + 2, none⟩ = some (.string x.Text) := by
  obtain ⟨x, b, off, cs, hx, hA, hb, ha, hc⟩ := h.get hk
  obtain ⟨rfl, g0, g1, g2⟩ := rReplStep_at ha
  exact ⟨x, b, off, hx, hA, hb, g0, g1, g2, hc 0 _ rfl, hc 1 _ rfl, hc 2 _ rfl⟩
theorem rReplStep_get' {w : World} {B : Nat} {l : List ReplStep} {b off n c k : Nat} (h : Mm.SlAt rReplStep w B l (some ⟨b, off, none⟩) n c) (hk : k < n) :
    ∃ x, l[k]? = some x ∧ b < B ∧ Mm.I64 x.Kind ∧ Mm.I64 x.Node ∧ x.Text.size ≤ maxLen ∧ w.cell? ⟨b, off + k * 3, none⟩ = some (.int .i64 x.Kind) ∧ w.cell? ⟨b, off + k * 3 + 1, none⟩ = some (.int .i64 x.Node) ∧ w.cell? ⟨b, off + k * 3 + 2, none⟩ = some (.string x.Text) := by
  obtain ⟨x, cs, hx, hb, ha, hc⟩ := h.get' hk
  obtain ⟨rfl, g0, g1, g2⟩ := rReplStep_at ha
  exact ⟨x, hx, hb, g0, g1, g2, hc 0 _ rfl, hc 1 _ rfl, hc 2 _ rfl⟩
theorem rReplStep_ocell {w : World} {e : TypeId} {xs : List ReplStep} {g n c i : Nat} {x : ReplStep} {fp : List Nat} (h : Mm.SlOwn rReplStep e w xs (.slice (some ⟨g, 0, none⟩) n c) fp) (hnd : fp.Nodup) (hi : xs[i]? = some x) : w.cell? ⟨g, i * 3, none⟩ = some (.int .i64 x.Kind) ∧ w.cell? ⟨g, i * 3 + 1, none⟩ = some (.int .i64 x.Node) ∧ w.cell? ⟨g, i * 3 + 2, none⟩ = some (.string x.Text) := by
  obtain ⟨cs, fx, hown, _, _, hc, _⟩ := h.inner hnd hi
  obtain ⟨rfl, _⟩ := rReplStep_own hown
  exact ⟨hc 0 _ rfl, hc 1 _ rfl, hc 2 _ rfl⟩
end Go.Proofs.Ytihendiakgfpcaa

/-
  Plain functions on lists: a test of all elements, sums. No program in sight. No conditions.
-/
namespace Go.Proofs.Ytihendiakgfpcaa
namespace Pl
/-- every number below n is good -/
def allB (n : Nat) (g : Nat → Bool) : Bool := (List.range n).all g
theorem allB_iff {n : Nat} {g : Nat → Bool} : allB n g = true ↔ ∀ i, i < n → g i = true := by
  unfold allB; simp
theorem allB_no {n k : Nat} {g : Nat → Bool} (hk : k < n) (h : g k = false) : allB n g = false := by
  cases hb : allB n g with
  | false => rfl
  | true => rw [allB_iff.1 hb k hk] at h; cases h
theorem allB_yes {n : Nat} {g : Nat → Bool} (h : ∀ i, i < n → g i = true) : allB n g = true := allB_iff.2 h

theorem snocB {k : Nat} {p : Nat → Prop} (h : ∀ i, i < k → p i) (hk : p k) : ∀ i, i < k + 1 → p i := fun i hi => by
  rcases Nat.lt_succ_iff_lt_or_eq.1 hi with h1 | rfl
  · exact h i h1
  · exact hk
section
variable {α : Type} {p : α → Bool} {l : List α} {k : Nat} {x : α}
def upTo (p : α → Bool) (l : List α) (k : Nat) : Prop := ∀ i x, i < k → l[i]? = some x → p x = true
theorem upTo0 : upTo p l 0 := fun i _ h => absurd h (Nat.not_lt_zero i)
theorem upTo1 (h : upTo p l k) (hx : l[k]? = some x) (hp : p x = true) : upTo p l (k + 1) := fun i y hi hy => by
  by_cases e : i = k
  · subst e; rw [hx] at hy; injection hy with hy; rw [← hy]; exact hp
  · exact h i y (by omega) hy
theorem upToE (h : upTo p l k) (hk : l.length ≤ k) : l.all p = true := List.all_eq_true.2 fun y hy => by
  obtain ⟨i, hi, rfl⟩ := List.mem_iff_getElem.1 hy
  exact h i _ (by omega) (List.getElem?_eq_getElem hi)
theorem upToB (hx : l[k]? = some x) (hp : p x = false) : l.all p = false := List.all_eq_false.2 ⟨x, List.mem_of_getElem? hx, by rw [hp]; simp⟩
theorem all_at {p : α → Bool} {l : List α} (h : l.all p = true) {k : Nat} {x : α} (hx : l[k]? = some x) : p x = true := List.all_eq_true.1 h x (List.mem_of_getElem? hx)
end
def allIn (a b : Int) (l : List Int) : Bool := l.all fun x => isIn x a b
theorem isIn_iff {n a b : Int} : isIn n a b = true ↔ a ≤ n ∧ n ≤ b := by unfold isIn; simp
theorem isIn_no {n a b : Int} : isIn n a b = false ↔ ¬ (a ≤ n ∧ n ≤ b) := by
  unfold isIn; rw [← Bool.not_eq_true]; simp
theorem isIn_mk {n a b : Int} (h1 : a ≤ n) (h2 : n ≤ b) : isIn n a b = true := isIn_iff.2 ⟨h1, h2⟩
theorem allIn_at {a b : Int} {l : List Int} (h : allIn a b l = true) {k : Nat} {x : Int} (hx : l[k]? = some x) : a ≤ x ∧ x ≤ b := isIn_iff.1 (all_at h hx)
def sumTo (l : List Int) : Nat → Int
  | 0 => 0
  | k + 1 => sumTo l k + l.getD k 0
def sum (l : List Int) : Int := sumTo l l.length
theorem sumTo_next {l : List Int} {k : Nat} {x : Int} (hx : l[k]? = some x) : sumTo l (k + 1) = sumTo l k + x := by
  rw [sumTo, List.getD_eq_getElem?_getD, hx]; rfl
theorem getD_bd {l : List Int} {a b : Int} (h : allIn a b l = true) (h0 : a ≤ 0) (h1 : 0 ≤ b) (k : Nat) : a ≤ l.getD k 0 ∧ l.getD k 0 ≤ b := by
  rw [List.getD_eq_getElem?_getD]
  cases hx : l[k]? with
  | none => exact ⟨h0, h1⟩
  | some x => exact allIn_at h hx
theorem sumTo_bd {l : List Int} {a b : Int} (h : allIn a b l = true) (h0 : a ≤ 0) (h1 : 0 ≤ b) : ∀ k : Nat, a * k ≤ sumTo l k ∧ sumTo l k ≤ b * k
  | 0 => by simp [sumTo]
  | k + 1 => by
    have h2 := sumTo_bd h h0 h1 k
    have h3 := getD_bd h h0 h1 k
    rw [sumTo]
    push_cast
    rw [Int.mul_add, Int.mul_add, Int.mul_one, Int.mul_one]
    omega
theorem getD_upTo {l : List Int} {a b : Int} {k : Nat} (h : upTo (fun x => isIn x a b) l k) (h0 : a ≤ 0) (h1 : 0 ≤ b) {i : Nat} (hi : i < k) : a ≤ l.getD i 0 ∧ l.getD i 0 ≤ b := by
  rw [List.getD_eq_getElem?_getD]
  cases hx : l[i]? with
  | none => exact ⟨h0, h1⟩
  | some x => exact isIn_iff.1 (h i x hi hx)
theorem sumTo_bd' {l : List Int} {a b : Int} {k : Nat} (h : upTo (fun x => isIn x a b) l k) (h0 : a ≤ 0) (h1 : 0 ≤ b) : ∀ j : Nat, j ≤ k → a * j ≤ sumTo l j ∧ sumTo l j ≤ b * j
  | 0, _ => by simp [sumTo]
  | j + 1, hj => by
    have h2 := sumTo_bd' h h0 h1 j (by omega)
    have h3 := getD_upTo h h0 h1 (show j < k by omega)
    rw [sumTo]
    push_cast
    rw [Int.mul_add, Int.mul_add, Int.mul_one, Int.mul_one]
    omega
end Pl
end Go.Proofs.Ytihendiakgfpcaa
