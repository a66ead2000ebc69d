/-
  Joined texts, in build order: In, Er, Sc, Am, Cg, E1, E2, E3, N5, Ik, Ii. Each part says what it proves; no conditions beyond those that a part names.
-/
import Derived.Test.YtihendiakgfpcaaZ01
import Derived.Test.YtihendiakgfpcaaZ02
import Derived.Test.YtihendiakgfpcaaZ03
import Derived.Shelf.Spec.SlicesInsertGrow
import Derived.Lib.AppendZerosOnto
import Derived.Deep.RegionLaw
import Derived.Deep.DeepCutAuto
import Derived.Lib.Overlaps
import Derived.Deep.DeepFit
import Derived.Lib.Hide
/-
  slices.Insert with one element, and append of zero values, on slices that the call owns and whose elements are one cell each and lead nowhere. No program in sight. No conditions.
-/
namespace Go.Proofs.Ytihendiakgfpcaa
open Go.RowKit
namespace Mm
theorem flat_sub {β γ : Type} (f : β → List γ) {us ts : List β} (h : us.Sublist ts) : (us.flatMap f).Sublist (ts.flatMap f) := by
  induction h with
  | slnil => exact List.Sublist.refl _
  | cons a _ ih => rw [List.flatMap_cons]; exact ih.trans (List.sublist_append_right _ _)
  | cons_cons a _ ih => rw [List.flatMap_cons, List.flatMap_cons]; exact (List.Sublist.refl _).append ih
/-- fewer things -/
theorem SepF.sub {F : List Nat} {w0 wr : World} {ts us : List Thing} (h : SepF F w0 wr ts) (hs : us.Sublist ts) : SepF F w0 wr us :=
  ⟨h.chg, h.nd.sublist (flat_sub (·.fp) hs), fun b hb => h.new b ((flat_sub (·.fp) hs).subset hb), fun u hu => h.hold u (hs.subset hu)⟩
/-- elements of one cell that lead nowhere -/
structure Flat1 {α : Type} (E : Rep α) (val : α → Value) : Prop where
  size : E.size = 1
  one : ∀ x, (val x).oneCell' = true
  inv : ∀ {w x cs fx}, E.own w x cs fx → cs = [val x] ∧ fx = [] ∧ ∀ w', E.own w' x [val x] []
theorem flat1_int : Flat1 int (fun x => .int .i64 x) := ⟨rfl, fun _ => rfl, fun h => ⟨h.1, h.2.2, fun _ => ⟨rfl, h.2.1, rfl⟩⟩⟩
theorem flat1_str : Flat1 str (fun x => .string x) := ⟨rfl, fun _ => rfl, fun h => ⟨h.1, h.2.2, fun _ => ⟨rfl, h.2.1, rfl⟩⟩⟩
theorem fm_val {α : Type} (val : α → Value) : ∀ xs : List α, xs.flatMap (fun x => [val x]) = xs.map val
  | [] => rfl
  | a :: t => by rw [List.flatMap_cons, fm_val val t]; rfl
theorem shape_blk {w : World} {g : Nat} {t : TypeId} {cs : List Value} (h : Blk w g t cs) : w.shape? g = some (t, cs.length) := by
  unfold Blk at h
  unfold World.shape?
  rw [h]
  simp
section
variable {α : Type} {E : Rep α} {val : α → Value} {e : TypeId} {w w' : World} {xs : List α} {v : Value} {fp : List Nat} {g n c : Nat}
theorem Flat1.owns (hF : Flat1 E val) (h : SlOwn E e w xs v fp) : w.ownsRow 0 e 1 v xs.length (xs.map val) ∧ fp = v.ownBlock.toList ∧ ∀ x, x ∈ xs → ∀ w', E.own w' x [val x] [] := by
  obtain ⟨es, he, ho, rfl⟩ := h
  have h1 : es = xs.map fun x => ([val x], ([] : List Nat)) := by
    apply List.ext_getElem?
    intro i
    rw [List.getElem?_map]
    rcases Nat.lt_or_ge i xs.length with hi | hi
    · have hx := List.getElem?_eq_getElem hi
      have hy := List.getElem?_eq_getElem (show i < es.length by rw [he.1]; exact hi)
      have h2 := hF.inv (he.2 i _ _ hx hy)
      rw [hx, hy]
      exact congrArg some (Prod.ext h2.1 h2.2.1)
    · rw [List.getElem?_eq_none hi, List.getElem?_eq_none (by rw [he.1]; exact hi)]
      rfl
  have h3 : (xs.map fun x => ([val x], ([] : List Nat))).flatMap (·.1) = xs.map val := by rw [List.flatMap_map]; exact fm_val val xs
  have h4 : (xs.map fun x => ([val x], ([] : List Nat))).flatMap (·.2) = [] := by simp [List.flatMap_map]
  refine ⟨?_, by rw [h1, h4]; simp, fun x hx w' => ?_⟩
  · rw [h1, h3, hF.size] at ho
    exact ho
  · obtain ⟨i, hi, rfl⟩ := List.mem_iff_getElem.1 hx
    exact (hF.inv (he.2 i _ _ (List.getElem?_eq_getElem hi) (List.getElem?_eq_getElem (show i < es.length by rw [he.1]; exact hi)))).2.2 w'
theorem Flat1.row (hF : Flat1 E val) (ho : w.ownsRow 0 e 1 v xs.length (xs.map val)) (hE : ∀ x, x ∈ xs → E.own w x [val x] []) : SlOwn E e w xs v v.ownBlock.toList :=
  SlOwn.of_row (enc := fun x => [val x]) (by
    rw [hF.size, show xs.flatMap (fun x => [val x]) = xs.map val from fm_val val xs]
    exact ho) hE rfl
theorem Flat1.blk (hF : Flat1 E val) (h : SlOwn E e w xs (.slice (some ⟨g, 0, none⟩) n c) fp) : ∃ cur, Blk w g e cur ∧ cur.length = c ∧ cur.take n = xs.map val ∧ n = xs.length ∧ n ≤ c ∧ c ≤ maxLen ∧ fp = [g] := by
  obtain ⟨h1, h2, _⟩ := hF.owns h
  rcases h1.2 with ⟨h3, _⟩ | ⟨g', cap, cur, h3, _, hg, hnc, hcm, hcs, htake⟩
  · simp at h3
  · simp only [Value.slice.injEq, Option.some.injEq, Addr.mk.injEq, and_true] at h3
    obtain ⟨rfl, rfl, rfl⟩ := h3
    refine ⟨cur.toList, by unfold Blk; rw [Array.toArray_toList]; exact hg, by simpa using hcs, by simpa using htake, rfl, hnc, hcm, by rw [h2]; simp [Value.ownBlock]⟩
theorem Flat1.of_blk (hF : Flat1 E val) {cur : List Value} (h : Blk w g e cur) (hl : cur.length = c) (ht : cur.take n = xs.map val) (hn : xs.length = n) (hnc : n ≤ c) (hc : c ≤ maxLen) (hE : ∀ x, x ∈ xs → E.own w x [val x] []) : SlOwn E e w xs (.slice (some ⟨g, 0, none⟩) n c) [g] := by
  subst hn
  exact hF.row ⟨by simp, .inr ⟨g, c, cur.toArray, rfl, Nat.zero_le _, h, hnc, hc, by simpa using hl, by simpa using ht⟩⟩ hE
theorem Flat1.cell (hF : Flat1 E val) (h : SlOwn E e w xs (.slice (some ⟨g, 0, none⟩) n c) fp) {k : Nat} {x : α} (hk : xs[k]? = some x) : w.cell? ⟨g, k, none⟩ = some (val x) := by
  obtain ⟨cur, hb, hcl, ht, hn, hnc, _⟩ := hF.blk h
  have hkn := (List.getElem?_eq_some_iff.1 hk).1
  refine hb.cell ?_
  have h1 : (cur.take n)[k]? = some (val x) := by rw [ht, List.getElem?_map, hk]; rfl
  rw [List.getElem?_take, if_pos (by omega)] at h1
  exact h1
theorem setCells_blk : ∀ (vs : List Value) (w : World) (o : Nat) (cs : List Value), Blk w g e cs → Blk (w.setCells g o vs) g e (setList cs o vs)
  | [], _, _, _, h => h
  | v :: r, _, o, _, h => setCells_blk r _ (o + 1) _ (h.set_ o v)
theorem setCells_chg (g : Nat) : ∀ (vs : List Value) (w : World) (o : Nat), Chg [g] w (w.setCells g o vs)
  | [], w, _ => Chg.refl _ _
  | v :: r, w, o => ((Chg.refl [g] w).setCell (p := ⟨g, o, none⟩) (by simp) v).trans (setCells_chg g r _ (o + 1))
theorem ins_cells {cur ys : List Value} {u : Value} {i : Nat} (ht : cur.take n = ys) (hn : ys.length = n) (hi : i < n) (hroom : n + 1 ≤ cur.length) :
    (setList (setList cur (i + 1) (ys.drop i)) i [u]).take n = Pl.insAt ys i u := by
  apply List.ext_getElem?
  intro j
  rw [Pl.insAt_get _ _ _ (by omega), List.getElem?_take, hn]
  by_cases hj : n ≤ j
  · rw [if_neg (by omega), if_pos hj]
  · rw [if_pos (by omega), if_neg hj, setList_get _ _ _ _ (by rw [setList_len]; simp; omega)]
    by_cases h1 : j < i
    · rw [if_pos h1, if_neg (by omega), setList_get _ _ _ _ (by rw [List.length_drop]; omega), if_neg (by omega), ← ht, List.getElem?_take, if_pos (by omega)]
    · rw [if_neg h1]
      by_cases h2 : j = i
      · subst h2
        rw [if_pos rfl, if_pos (by simp), Nat.sub_self]; rfl
      · rw [if_neg h2, if_neg (by simp; omega), setList_get _ _ _ _ (by rw [List.length_drop]; omega), if_pos (by rw [List.length_drop]; omega), List.getElem?_drop]
        congr 1; omega
theorem ins_cells' {rest ys : List Value} {z u : Value} {i k : Nat} (hn : ys.length = n) (hi : i < n) (hk : (ys.take i ++ List.replicate (n + 1 - i) z ++ rest).length = k) :
    (setList (setList (ys.take i ++ List.replicate (n + 1 - i) z ++ rest) i [u]) (i + 1) (ys.drop i)).take n = Pl.insAt ys i u := by
  have hl : n + 1 ≤ (ys.take i ++ List.replicate (n + 1 - i) z ++ rest).length := by
    rw [List.length_append, List.length_append, List.length_take, List.length_replicate]; omega
  apply List.ext_getElem?
  intro j
  rw [Pl.insAt_get _ _ _ (by omega), List.getElem?_take, hn]
  by_cases hj : n ≤ j
  · rw [if_neg (by omega), if_pos hj]
  · rw [if_pos (by omega), if_neg hj, setList_get _ _ _ _ (by rw [setList_len, List.length_drop]; omega)]
    by_cases h1 : j < i
    · rw [if_pos h1, if_neg (by omega), setList_get _ _ _ _ (by simp only [List.length_singleton]; omega), if_neg (by omega), List.getElem?_append_left (by rw [List.length_append, List.length_take, List.length_replicate]; omega), List.getElem?_append_left (by rw [List.length_take]; omega), List.getElem?_take, if_pos h1]
    · rw [if_neg h1]
      by_cases h2 : j = i
      · subst h2
        rw [if_pos rfl, if_neg (by omega), setList_get _ _ _ _ (by simp only [List.length_singleton]; omega), if_pos (by simp), Nat.sub_self]; rfl
      · rw [if_neg h2, if_pos (by rw [List.length_drop]; omega), List.getElem?_drop]
        congr 1; omega
/-- behind slices.Insert of one element, where there was room: the slice cut back to its old length -/
theorem ins_shift {F : List Nat} {w0 wr : World} {ts : List Thing} {i k : Nat} {x : α} (hF : Flat1 E val) (h : SepF F w0 wr ts) (hi : ts[i]? = some (tsl E e xs (.slice (some ⟨g, 0, none⟩) n c) fp)) (hk : k < n) (hroom : n + 1 ≤ c) (hx : ∀ w, E.own w x [val x] []) {off1 off2 : Nat} (h1 : k + 1 = off1) (h2 : k = off2) :
    SepF F w0 ((wr.drew.setCells g off1 ((xs.map val).drop k)).setCells g off2 [val x]) (ts.set i (tsl E e (Pl.insAt xs k x) (.slice (some ⟨g, 0, none⟩) n c) fp)) := by
  subst h1; subst h2
  have hs : SlOwn E e wr xs (.slice (some ⟨g, 0, none⟩) n c) fp := h.at_ i hi
  obtain ⟨cur, hb, hcl, ht, hn, hnc, hcm, rfl⟩ := hF.blk hs
  have hxs := (hF.owns hs).2.2
  have hd : Blk wr.drew g e cur := hb
  have hb2 := setCells_blk [val x] _ k _ (setCells_blk ((xs.map val).drop k) _ (k + 1) _ hd)
  refine h.upd hi (((Chg.of_below (Below.refl wr.heap.size wr).drew).trans (setCells_chg g _ _ _)).trans (setCells_chg g _ _ _)) (t' := tsl E e (Pl.insAt xs k x) (.slice (some ⟨g, 0, none⟩) n c) [g]) ?_ (by simp [tsl]) (fun b hb => .inl hb)
  refine hF.of_blk hb2 (by rw [setList_len, setList_len, hcl]) ?_ (by rw [Pl.insAt_len _ _ _ (by omega)]; omega) hnc hcm (fun y hy => ?_)
  · rw [ins_cells ht (by rw [List.length_map]; omega) hk (by omega), Pl.insAt_map]
  · rcases Pl.insAt_mem hy with hy | rfl
    · exact hxs y hy _
    · exact hx _
/-- the same, where it has moved -/
theorem ins_grow {F : List Nat} {w0 wr : World} {ts : List Thing} {i k : Nat} {x : α} {z : Value} {ROW : Array Value} {G : Nat} (hF : Flat1 E val) (h : SepF F w0 wr ts) (hi : ts[i]? = some (tsl E e xs (.slice (some ⟨g, 0, none⟩) n c) fp)) (hk : k < n) (hx : ∀ w, E.own w x [val x] []) {off1 off2 : Nat} (h1 : k = off1) (h2 : k + 1 = off2) (hG : n + 1 ≤ G) (hGm : G ≤ maxLen)
    (hR : ROW = ((xs.map val).take k).toArray ++ Builtin.zeroCells #[z] (n + 1 - k) ++ Builtin.zeroCells #[z] (G - (n + 1))) :
    SepF F w0 ((((wr.alloc (.cells ROW e)).drew.setCells wr.heap.size off1 [val x]).drew).setCells wr.heap.size off2 ((xs.map val).drop k)) (ts.set i (tsl E e (Pl.insAt xs k x) (.slice (some ⟨wr.heap.size, 0, none⟩) n G) [wr.heap.size])) := by
  subst h1; subst h2
  have hs : SlOwn E e wr xs (.slice (some ⟨g, 0, none⟩) n c) fp := h.at_ i hi
  obtain ⟨cur, hb, hcl, ht, hn, hnc, hcm, rfl⟩ := hF.blk hs
  have hxs := (hF.owns hs).2.2
  have hz : ∀ m, (Builtin.zeroCells #[z] m).toList = List.replicate m z := fun m => by
    apply List.ext_getElem?
    intro j
    by_cases hj : j < m <;> simp [Builtin.zeroCells, hj, Nat.mod_one]
  have hRl : ROW.toList = (xs.map val).take k ++ List.replicate (n + 1 - k) z ++ List.replicate (G - (n + 1)) z := by
    rw [hR]; simp [hz]
  have hRs : ROW.toList.length = G := by
    rw [hRl]; simp; omega
  have hd : Blk (wr.alloc (.cells ROW e)).drew wr.heap.size e ROW.toList := by
    have := Blk.new wr e ROW.toList
    rw [Array.toArray_toList] at this
    exact this
  have hb1 : Blk (((wr.alloc (.cells ROW e)).drew.setCells wr.heap.size k [val x]).drew) wr.heap.size e (setList ROW.toList k [val x]) := setCells_blk [val x] _ k _ hd
  have hb2 := setCells_blk ((xs.map val).drop k) _ (k + 1) _ hb1
  have hch : Below wr.heap.size wr ((((wr.alloc (.cells ROW e)).drew.setCells wr.heap.size k [val x]).drew).setCells wr.heap.size (k + 1) ((xs.map val).drop k)) := by
    have q1 : Below wr.heap.size wr (wr.alloc (.cells ROW e)).drew := (below_new (Below.refl _ _) _).drew
    have q2 := Below.chg q1 (setCells_chg wr.heap.size [val x] _ k) q1.size (fun b hb => by rw [List.mem_singleton.1 hb]; exact Nat.le_refl _)
    have q3 := Below.chg q2.drew (setCells_chg wr.heap.size ((xs.map val).drop k) _ (k + 1)) q2.drew.size (fun b hb => by rw [List.mem_singleton.1 hb]; exact Nat.le_refl _)
    exact q3
  refine h.upd hi (Chg.of_below hch) (t' := tsl E e (Pl.insAt xs k x) (.slice (some ⟨wr.heap.size, 0, none⟩) n G) [wr.heap.size]) ?_ (by simp [tsl]) (fun b hb => .inr (by simp [tsl] at hb; omega))
  refine hF.of_blk hb2 (by rw [setList_len, setList_len, hRs]) ?_ (by rw [Pl.insAt_len _ _ _ (by omega)]; omega) (by omega) hGm (fun y hy => ?_)
  · rw [hRl, ins_cells' (by rw [List.length_map]; omega) hk rfl, Pl.insAt_map]
  · rcases Pl.insAt_mem hy with hy | rfl
    · exact hxs y hy _
    · exact hx _
end
section
variable {P : Program} (w : World)
/-- append(s, make([]T, k)...) on a slice that the call owns -/
theorem run_append_own_zeros (t tn ty e : TypeId) (i : TypeInfo) (z : Value) (bytes : Nat) (ht : P.underlying t = some (.slice e)) (htn : P.underlying tn = some (.int .i64)) (hi : P.info? e = some i) (hz : i.zero = some z) (hsize : i.size = 1) (hby : i.bytes = bytes) (hzs : z.cells = #[z]) (hz1 : z.oneCell' = true)
    (v : Value) (n : Nat) (xs : List Value) (hown : w.ownsRow 0 e 1 v n xs) (k : Nat) (hnk : n + k ≤ maxLen) (hbytes : (n + k) * bytes ≤ 140737488355328) :
    ∃ v' w', (Builtin.append_ #[t, tn] ty #[v, .int .i64 k]).run P w = .ok v' w' ∧ w'.ownsRow 0 e 1 v' (n + k) (xs ++ List.replicate k z) ∧ w.grownBy w' v.ownBlock ∧ (v'.ownBlock = v.ownBlock ∨ v'.ownBlock = some w.heap.size) := by
  subst hby
  have hzc : ∀ m, (Builtin.zeroCells z.cells m).toList = List.replicate m z := fun m => by
    rw [hzs]
    apply List.ext_getElem?
    intro j
    by_cases hj : j < m <;> simp [Builtin.zeroCells, hj, Nat.mod_one]
  have hlen : (xs ++ List.replicate k z).length = n + k := by rw [List.length_append, hown.1, List.length_replicate]; omega
  have hm63 : n + k ≤ 9223372036854775807 := by unfold maxLen at hnk; omega
  have hkb : k * i.bytes ≤ 281474976710656 := by
    have := Nat.mul_le_mul_right i.bytes (show k ≤ n + k by omega)
    omega
  have grown : ∀ (old : Nat) (row : Option Nat),
      (w.drew.alloc (.cells (xs.toArray ++ Builtin.zeroCells z.cells k ++ Builtin.zeroCells z.cells (grownCap w (n + k) old e - (n + k))) e)).ownsRow 0 e 1
        (.slice (some ⟨w.heap.size, 0, none⟩) (n + k) (grownCap w (n + k) old e)) (n + k) (xs ++ List.replicate k z) ∧
      w.grownBy (w.drew.alloc (.cells (xs.toArray ++ Builtin.zeroCells z.cells k ++ Builtin.zeroCells z.cells (grownCap w (n + k) old e - (n + k))) e)) row := by
    intro old row
    have hge := grownCap_ge w (n + k) old e
    have hcm : grownCap w (n + k) old e ≤ maxLen := grownCap_le_maxLen w (n + k) old e hnk
    refine ⟨⟨by rw [hlen]; omega, .inr ⟨w.heap.size, _, _, rfl, Nat.zero_le _, heap_alloc_new w.drew _, hge, hcm, ?_, ?_⟩⟩, ⟨rfl, rfl, rfl, by simp, fun k hk _ => heap_alloc_old w.drew _ hk⟩⟩
    · have := hown.1
      simp only [Array.size_append, List.size_toArray, size_zeroCells, hzs, Nat.mul_one, List.size_toArray]
      simp
      omega
    · simp only [Array.toList_append, hzc]
      rw [Nat.mul_one, ← hlen]
      exact List.take_left
  rcases hown.2 with ⟨rfl, rfl⟩ | ⟨g, cap, cur, rfl, hbg, hg, hnc, hcm, hcs, htake⟩
  · have hx : xs = [] := List.eq_nil_of_length_eq_zero (by simpa using hown.1)
    subst hx
    rcases Nat.eq_zero_or_pos k with rfl | hk
    · refine ⟨_, w, ?_, by simpa using World.ownsRow_nil w 0 e 1, ⟨rfl, rfl, rfl, Nat.le_refl _, fun _ _ _ => rfl⟩, .inl rfl⟩
      have hw : IntKind.i64.wrap 0 = 0 := by decide
      simp [Builtin.append_, run_underlying ht, run_underlying htn, sizeOf, typeInfo, hi, asInt, asIntOf, hw]
    · have hr := Lib.run_append_nil_zeros (P := P) w t tn ty e i z .i64 .i64 ht htn hi hz k hk (by omega) (by omega) hkb
      obtain ⟨g1, g2⟩ := grown 0 none
      simp only [Nat.zero_add] at g1 g2
      refine ⟨_, _, hr, ?_, ?_, .inr rfl⟩
      · have : (([] : List Value).toArray ++ Builtin.zeroCells z.cells k) = Builtin.zeroCells z.cells k := by simp
        rw [this] at g1
        rw [Nat.zero_add]
        exact g1
      · have : (([] : List Value).toArray ++ Builtin.zeroCells z.cells k) = Builtin.zeroCells z.cells k := by simp
        rw [this] at g2
        exact g2
  · have hw : IntKind.i64.wrap (k : Int) = k := by rw [IntKind.wrap_i64]; omega
    have hcl : cur.toList.length = cap := by rw [Array.length_toList, hcs, Nat.mul_one]
    have hxl : xs.length = n := by rw [hown.1, Nat.mul_one]
    rcases Nat.lt_or_ge cap (n + k) with hlt | hroom
    · have hold : (Builtin.firstCells i.size n (.slice (some ⟨g, 0, none⟩) n cap)).run P w.drew = .ok xs.toArray w.drew := by
        rw [hsize]
        exact run_firstCells_some w.drew 1 n ⟨g, 0, none⟩ n cap xs (by rw [hxl]; omega) (fun j v hj => by
          have := hown.cells (g := g) rfl j v hj
          exact this)
      have hr := Lib.run_append_grow_zeros (P := P) w t tn ty e i z .i64 .i64 ht htn hi hz (some ⟨g, 0, none⟩) n cap xs hold k (by omega) (by omega) hlt (by omega) hkb (growslice_fits hlt hbytes)
      obtain ⟨g1, g2⟩ := grown cap (some g)
      exact ⟨_, _, hr, g1, g2, .inr rfl⟩
    · rcases Nat.eq_zero_or_pos k with rfl | hk
      · refine ⟨.slice (some ⟨g, 0, none⟩) (n + 0) cap, w, ?_, by simpa using hown, ⟨rfl, rfl, rfl, Nat.le_refl _, fun _ _ _ => rfl⟩, .inl rfl⟩
        have hw0 : IntKind.i64.wrap 0 = 0 := by decide
        simp [Builtin.append_, run_underlying ht, run_underlying htn, sizeOf, typeInfo, hi, asInt, asIntOf, hw0, hnc, storeCells]
      · have hst := run_storeCells_at P g n e (List.replicate k z) 0 cur w hg (by rw [List.length_replicate]; have := hcs; omega) (fun v hv => by rw [(List.mem_replicate.1 hv).2]; exact hz1)
        simp only [Nat.add_zero, List.length_replicate] at hst
        have hks : ¬ (k = 0) := by omega
        have hneg : ¬ ((k : Int) < 0) := by omega
        have h48i : ¬ (281474976710656 < (k : Int) * (i.bytes : Int)) := by
          rw [← Int.natCast_mul]
          omega
        have hr : (Builtin.append_ #[t, tn] ty #[.slice (some ⟨g, 0, none⟩) n cap, .int .i64 k]).run P w = .ok (.slice (some ⟨g, 0, none⟩) (n + k) cap) (w.setRow g (cur.toList.take n ++ List.replicate k z ++ cur.toList.drop (n + k)).toArray) := by
          simp [Builtin.append_, run_underlying ht, run_underlying htn, sizeOf, typeInfo, zeroValue, hi, hz, asInt, asIntOf, hw, hneg, h48i, hsize, hks, hroom, Addr.add_lit, hzc, hst]
        refine ⟨_, _, hr, ⟨by rw [hlen]; omega, .inr ⟨g, cap, _, rfl, hbg, setRow_heap w g cur _ e _ hg, hroom, hcm, ?_, ?_⟩⟩, ⟨rfl, rfl, rfl, by simp, fun k hk hn => setRow_other w g k _ (fun e => hn (by simp [e, Value.ownBlock]))⟩, .inl rfl⟩
        · simp only [List.size_toArray, List.length_append, List.length_take, List.length_drop, List.length_replicate, hcl]
          omega
        · rw [Nat.mul_one] at htake ⊢
          show ((cur.toList.take n ++ List.replicate k z) ++ cur.toList.drop (n + k)).take (n + k) = _
          rw [htake, ← hlen]
          exact List.take_left
end
theorem SepF.perm {F : List Nat} {w0 wr : World} {ts us : List Thing} (h : SepF F w0 wr ts) (hp : us.Perm ts) : SepF F w0 wr us :=
  h.conv (List.Perm.flatMap_right _ hp) fun u hu => h.hold u (hp.mem_iff.1 hu)
/-- the third thing in front -/
theorem SepF.front3 {F : List Nat} {w0 wr : World} {ts : List Thing} {a b c : Thing} (h : SepF F w0 wr (a :: b :: c :: ts)) : SepF F w0 wr (c :: a :: b :: ts) :=
  h.perm (List.perm_middle (l₁ := [a, b])).symm
/-- append of zero values, on one of the things -/
theorem SepF.zeros {P : Program} {α : Type} {E : Rep α} {val : α → Value} {F : List Nat} {w0 w : World} {ts : List Thing} {i : Nat} {xs : List α} {v : Value} {fp : List Nat} {z0 : α} (hF : Flat1 E val) (h : SepF F w0 w ts) (t tn ty e : TypeId) (ii : TypeInfo) (z : Value) (bytes : Nat) (hi : ts[i]? = some (tsl E e xs v fp)) (ht : P.underlying t = some (.slice e)) (htn : P.underlying tn = some (.int .i64)) (hin : P.info? e = some ii) (hz : ii.zero = some z) (hsize : ii.size = 1) (hby : ii.bytes = bytes) (hzs : z.cells = #[z]) (hz1 : z.oneCell' = true)
    (hv : val z0 = z) (hz0 : ∀ w, E.own w z0 [z] []) (k : Nat) (hnk : xs.length + k ≤ maxLen) (hbytes : (xs.length + k) * bytes ≤ 140737488355328) :
    ∃ v' w' fp', (Builtin.append_ #[t, tn] ty #[v, .int .i64 k]).run P w = .ok v' w' ∧ SepF F w0 w' (ts.set i (tsl E e (xs ++ List.replicate k z0) v' fp')) := by
  have hs : SlOwn E e w xs v fp := h.at_ i hi
  obtain ⟨ho, hfp, hx⟩ := hF.owns hs
  obtain ⟨v', w', h1, h2, h3, h4⟩ := run_append_own_zeros (P := P) w (ty := ty) t tn e ii z bytes ht htn hin hz hsize hby hzs hz1 v _ _ ho k hnk hbytes
  refine ⟨v', w', v'.ownBlock.toList, h1, h.upd hi ⟨h3.os, h3.tape, h3.output, h3.size, fun b hb hn => h3.block b hb (fun e => hn (by rw [hfp]; show b ∈ v.ownBlock.toList; rw [← e]; simp))⟩ (t' := tsl E e (xs ++ List.replicate k z0) v' v'.ownBlock.toList) ?_ (by simp only [tsl]; cases v'.ownBlock <;> simp) (fun b hb => ?_)⟩
  · refine hF.row ?_ (fun x hm => ?_)
    · rw [List.length_append, List.length_replicate, List.map_append, List.map_replicate, hv]
      exact h2
    · rcases List.mem_append.1 hm with hm | hm
      · exact hx x hm _
      · rw [(List.mem_replicate.1 hm).2, hv]; exact hz0 _
  · simp only [tsl] at hb ⊢
    rw [hfp]
    rcases h4 with h4 | h4
    · rw [h4] at hb; exact .inl hb
    · rw [h4] at hb; simp at hb; exact .inr (by omega)
end Mm
end Go.Proofs.Ytihendiakgfpcaa

/-
  slices.Delete of one element, on slices whose elements lead nowhere. No program in sight. No conditions.
-/
namespace Go.Proofs.Ytihendiakgfpcaa
open Go.RowKit
namespace Mm
/-- elements of several cells that lead nowhere -/
structure FlatN {α : Type} (E : Rep α) (enc : α → List Value) : Prop where
  pos : 0 < E.size
  inv : ∀ {w x cs fx}, E.own w x cs fx → cs = enc x ∧ fx = [] ∧ ∀ w', E.own w' x (enc x) []
theorem flatMap_len {α : Type} {s : Nat} {enc : α → List Value} : ∀ {xs : List α}, (∀ x, x ∈ xs → (enc x).length = s) → (xs.flatMap enc).length = xs.length * s
  | [], _ => by simp
  | a :: t, h => by
    rw [List.flatMap_cons, List.length_append, h a (by simp), flatMap_len (fun x hx => h x (List.mem_cons_of_mem _ hx)), List.length_cons, Nat.succ_mul]; omega
theorem flatMap_drop {α : Type} {s : Nat} {enc : α → List Value} : ∀ {xs : List α} (k : Nat), (∀ x, x ∈ xs → (enc x).length = s) → (xs.drop k).flatMap enc = (xs.flatMap enc).drop (k * s)
  | xs, 0, _ => by simp
  | [], k + 1, _ => by simp
  | a :: t, k + 1, h => by
    rw [List.drop_succ_cons, List.flatMap_cons, flatMap_drop k (fun x hx => h x (List.mem_cons_of_mem _ hx)), List.drop_append, h a (by simp), List.drop_eq_nil_of_le (show (enc a).length ≤ (k + 1) * s by rw [h a (by simp), Nat.succ_mul]; omega), List.nil_append]
    congr 1
    rw [Nat.succ_mul]; omega
theorem flatMap_take {α : Type} {s : Nat} {enc : α → List Value} : ∀ {xs : List α} (k : Nat), (∀ x, x ∈ xs → (enc x).length = s) → (xs.take k).flatMap enc = (xs.flatMap enc).take (k * s)
  | xs, 0, _ => by simp
  | [], k + 1, _ => by simp
  | a :: t, k + 1, h => by
    rw [List.take_succ_cons, List.flatMap_cons, List.flatMap_cons, flatMap_take k (fun x hx => h x (List.mem_cons_of_mem _ hx)), List.take_append, h a (by simp), List.take_of_length_le (show (enc a).length ≤ (k + 1) * s by rw [h a (by simp), Nat.succ_mul]; omega)]
    congr 2
    rw [Nat.succ_mul]; omega
section
variable {α : Type} {E : Rep α} {enc : α → List Value} {e : TypeId} {w w' : World} {xs : List α} {v : Value} {fp : List Nat} {g n c : Nat}
theorem FlatN.owns (hF : FlatN E enc) (h : SlOwn E e w xs v fp) : w.ownsRow 0 e E.size v xs.length (xs.flatMap enc) ∧ fp = v.ownBlock.toList ∧ (∀ x, x ∈ xs → ∀ w', E.own w' x (enc x) []) ∧ ∀ x, x ∈ xs → (enc x).length = E.size := by
  obtain ⟨es, he, ho, rfl⟩ := h
  have h1 : es = xs.map fun x => (enc x, ([] : List Nat)) := by
    apply List.ext_getElem?
    intro i
    rw [List.getElem?_map]
    rcases Nat.lt_or_ge i xs.length with hi | hi
    · have hx := List.getElem?_eq_getElem hi
      have hy := List.getElem?_eq_getElem (show i < es.length by rw [he.1]; exact hi)
      have h2 := hF.inv (he.2 i _ _ hx hy)
      rw [hx, hy]
      exact congrArg some (Prod.ext h2.1 h2.2.1)
    · rw [List.getElem?_eq_none hi, List.getElem?_eq_none (by rw [he.1]; exact hi)]
      rfl
  have h3 : (xs.map fun x => (enc x, ([] : List Nat))).flatMap (·.1) = xs.flatMap enc := by rw [List.flatMap_map]
  have h4 : (xs.map fun x => (enc x, ([] : List Nat))).flatMap (·.2) = [] := by simp [List.flatMap_map]
  have h5 : ∀ x, x ∈ xs → ∀ w', E.own w' x (enc x) [] := fun x hx w' => by
    obtain ⟨i, hi, rfl⟩ := List.mem_iff_getElem.1 hx
    exact (hF.inv (he.2 i _ _ (List.getElem?_eq_getElem hi) (List.getElem?_eq_getElem (show i < es.length by rw [he.1]; exact hi)))).2.2 w'
  refine ⟨?_, by rw [h1, h4]; simp, h5, fun x hx => E.olen (h5 x hx w)⟩
  rw [h1, h3] at ho
  exact ho
theorem FlatN.blk (hF : FlatN E enc) (h : SlOwn E e w xs (.slice (some ⟨g, 0, none⟩) n c) fp) : ∃ cur, Blk w g e cur ∧ cur.length = c * E.size ∧ cur.take (n * E.size) = xs.flatMap enc ∧ n = xs.length ∧ n ≤ c ∧ c ≤ maxLen ∧ fp = [g] := by
  obtain ⟨h1, h2, _⟩ := hF.owns h
  rcases h1.2 with ⟨h3, _⟩ | ⟨g', cap, cur, h3, _, hg, hnc, hcm, hcs, htake⟩
  · simp at h3
  · simp only [Value.slice.injEq, Option.some.injEq, Addr.mk.injEq, and_true] at h3
    obtain ⟨rfl, rfl, rfl⟩ := h3
    refine ⟨cur.toList, by unfold Blk; rw [Array.toArray_toList]; exact hg, by simpa using hcs, by simpa using htake, rfl, hnc, hcm, by rw [h2]; simp [Value.ownBlock]⟩
theorem FlatN.of_blk (_hF : FlatN E enc) {cur : List Value} (h : Blk w g e cur) (hl : cur.length = c * E.size) (ht : cur.take (n * E.size) = xs.flatMap enc) (hn : xs.length = n) (hnc : n ≤ c) (hc : c ≤ maxLen) (hE : ∀ x, x ∈ xs → E.own w x (enc x) []) : SlOwn E e w xs (.slice (some ⟨g, 0, none⟩) n c) [g] := by
  subst hn
  refine SlOwn.of_row (enc := enc) ⟨by simp [flatMap_len fun x hx => E.olen (hE x hx)], .inr ⟨g, c, cur.toArray, rfl, Nat.zero_le _, h, hnc, hc, by simpa using hl, by simpa using ht⟩⟩ hE ?_
  simp
/-- behind slices.Delete of element k: what follows has moved up, the last place is cleared -/
theorem FlatN.erase (hF : FlatN E enc) (h : SlOwn E e w xs (.slice (some ⟨g, 0, none⟩) n c) fp) {k : Nat} (hk : k < n) {z : List Value} (hz : z.length = E.size) {o1 o2 : Nat} (h1 : k * E.size = o1) (h2 : (n - 1) * E.size = o2) :
    Chg fp w ((w.drew.setCells g o1 ((xs.drop (k + 1)).flatMap enc)).setCells g o2 z) ∧ SlOwn E e ((w.drew.setCells g o1 ((xs.drop (k + 1)).flatMap enc)).setCells g o2 z) (xs.eraseIdx k) (.slice (some ⟨g, 0, none⟩) (n - 1) c) fp := by
  subst h1; subst h2
  obtain ⟨_, _, hown, hlen⟩ := hF.owns h
  obtain ⟨cur, hb, hcl, ht, rfl, hnc, hcm, rfl⟩ := hF.blk h
  have hb0 : Blk w.drew g e cur := hb
  have hb2 := setCells_blk z _ ((xs.length - 1) * E.size) _ (setCells_blk ((xs.drop (k + 1)).flatMap enc) _ (k * E.size) _ hb0)
  refine ⟨((Chg.of_below (Below.refl w.heap.size w).drew).trans (setCells_chg g _ _ _)).trans (setCells_chg g _ _ _), ?_⟩
  have hsub : ∀ x, x ∈ xs.eraseIdx k → x ∈ xs := fun x hx => List.mem_of_mem_eraseIdx hx
  have hdl : ((xs.drop (k + 1)).flatMap enc).length = (xs.length - 1 - k) * E.size := by
    rw [flatMap_len (s := E.size) (fun x hx => hlen x (List.mem_of_mem_drop hx)), List.length_drop]; congr 1; omega
  have e1 : k * E.size + (xs.length - 1 - k) * E.size = (xs.length - 1) * E.size := by rw [← Nat.add_mul]; congr 1; omega
  have e2 : (xs.length - 1) * E.size + E.size = xs.length * E.size := by rw [← Nat.succ_mul]; congr 1; omega
  have e3 : xs.length * E.size ≤ cur.length := by rw [hcl]; exact Nat.mul_le_mul_right _ hnc
  have e4 : k * E.size + E.size = (k + 1) * E.size := (Nat.succ_mul _ _).symm
  refine hF.of_blk hb2 (by rw [setList_len, setList_len, hcl]) ?_ (List.length_eraseIdx_of_lt hk) (by omega) hcm (fun x hx => hown x (hsub x hx) _)
  have hE : (xs.eraseIdx k).flatMap enc = (xs.flatMap enc).take (k * E.size) ++ (xs.flatMap enc).drop ((k + 1) * E.size) := by
    rw [List.eraseIdx_eq_take_drop_succ, List.flatMap_append, flatMap_take k hlen, flatMap_drop (k + 1) hlen]
  have hfl : (xs.flatMap enc).length = xs.length * E.size := flatMap_len hlen
  apply List.ext_getElem?
  intro j
  rw [hE, List.getElem?_take]
  by_cases hj : j < (xs.length - 1) * E.size
  · rw [if_pos hj, setList_get _ _ _ _ (by rw [setList_len]; omega), if_neg (by omega), setList_get _ _ _ _ (by rw [hdl]; omega), hdl]
    by_cases hjk : j < k * E.size
    · rw [if_neg (by omega), List.getElem?_append_left (by rw [List.length_take, hfl]; omega), List.getElem?_take, if_pos hjk, ← ht, List.getElem?_take, if_pos (by omega)]
    · rw [if_pos (by omega), List.getElem?_append_right (by rw [List.length_take]; omega), flatMap_drop (k + 1) hlen, List.length_take, hfl, Nat.min_eq_left (by omega)]
  · rw [if_neg hj, List.getElem?_append_right (by rw [List.length_take]; omega), List.getElem?_drop, List.length_take, hfl, Nat.min_eq_left (by omega), List.getElem?_eq_none (by rw [hfl]; omega)]
/-- the cells behind element k -/
theorem FlatN.cells (hF : FlatN E enc) (h : SlOwn E e w xs (.slice (some ⟨g, 0, none⟩) n c) fp) {j : Nat} {u : Value} (hj : (xs.flatMap enc)[j]? = some u) : w.cell? ⟨g, j, none⟩ = some u := by
  obtain ⟨cur, hb, hcl, ht, rfl, hnc, hcm, rfl⟩ := hF.blk h
  refine hb.cell ?_
  rw [← ht, List.getElem?_take] at hj
  split at hj
  · exact hj
  · cases hj
end
theorem run_clear_one {P : Program} (w : World) (t e ty : TypeId) (z : Value) (ht : P.underlying t = some (.slice e)) (hv : ∀ w, (zeroValue e).run P w = .ok z w) (h1 : ∀ u ∈ z.cells, u.oneCell' = true) (b o c : Nat)
    (hc : ∀ j, j < z.cells.size → (w.cell? ⟨b, o + j, none⟩).isSome = true) (hf : ∀ j, j < z.cells.size → w.frozen? ⟨b, o + j, none⟩ = false) :
    (Builtin.clear_ #[t] ty #[.slice (some ⟨b, o, none⟩) 1 c]).run P w = .ok (.tuple #[]) (w.setCells b o z.cells.toList) := by
  have hzc : (Builtin.zeroCells z.cells 1).toList = z.cells.toList := by
    apply List.ext_getElem?
    intro j
    by_cases hj : j < z.cells.size
    · simp [Builtin.zeroCells, hj, Nat.mod_eq_of_lt hj]
    · simp [Builtin.zeroCells, hj]
  have hst := run_storeCells_cells (P := P) b o z.cells.toList 0 w (by simpa using hc) (by simpa using hf) (by intro u hu; exact h1 u (by simpa using hu))
  simp only [Nat.add_zero] at hst
  simp [Builtin.clear_, run_underlying ht, hv, hzc, hst]
end Mm
end Go.Proofs.Ytihendiakgfpcaa

/-
  'append([]T{}, l...)' inside a larger statement: the copy becomes one of the things that the call owns. No program in sight. No conditions.
-/
namespace Go.Proofs.Ytihendiakgfpcaa
open Go.RowKit
namespace Mm
/-- elements that lead nowhere: what they are written as -/
structure Flat {α : Type} (E : Rep α) (enc : α → List Value) : Prop where
  at_ : ∀ {w B x cs}, E.at_ w B x cs → cs = enc x
  own : ∀ {w B x cs}, E.at_ w B x cs → ∀ w', E.own w' x (enc x) []
theorem flat_int : Flat int (fun x => [.int .i64 x]) := ⟨fun h => h.1, fun h _ => ⟨rfl, h.2, rfl⟩⟩
theorem flat_str : Flat str (fun x => [.string x]) := ⟨fun h => h.1, fun h _ => ⟨rfl, h.2, rfl⟩⟩
theorem flat_bool : Flat bool (fun x => [.bool x]) := ⟨fun h => h.1, fun h _ => ⟨rfl, h.2, rfl⟩⟩
section
variable {P : Program} {α : Type} {E : Rep α} {enc : α → List Value} {w0 wr W : World} {ts : List Thing} {xs : List α} {A : Option Addr} {n c g B : Nat} {e : TypeId}
theorem run_clone (hF : Flat E enc) (t ty : TypeId) (i : TypeInfo) (z : Value) (bytes : Nat) (ht : P.underlying t = some (.slice e)) (hi : P.info? e = some i) (hz : i.zero = some z) (hsize : i.size = E.size) (hby : i.bytes = bytes) (hzs : z.cells.size = E.size) (hsz : 0 < E.size)
    (h : Sep w0 wr ts) (hb : Below wr.heap.size wr W) (hg : W.heap[g]? = some (.cells #[] e (0, 0))) (hgn : wr.heap.size ≤ g) (hl : SlAt E W B xs A n c) (hn : n ≤ maxLen) (hbytes : n * bytes ≤ 140737488355328) :
    ∃ A2 c2 fp w1, (Builtin.append_ #[t, t] ty #[.slice (some ⟨g, 0, none⟩) 0 0, .slice A n c]).run P W = .ok (.slice A2 n c2) w1 ∧ Sep w0 w1 (tsl E e xs (.slice A2 n c2) fp :: ts) ∧ Below wr.heap.size wr w1 := by
  have hown : W.ownsRow g e E.size (.slice (some ⟨g, 0, none⟩) 0 0) 0 [] := ⟨by simp, .inr ⟨g, 0, #[], rfl, Nat.le_refl _, hg, Nat.le_refl _, Nat.zero_le _, by simp, by simp⟩⟩
  have hlt : g < W.heap.size := by
    rcases Nat.lt_or_ge g W.heap.size with h1 | h1
    · exact h1
    · rw [Array.getElem?_eq_none h1] at hg; cases hg
  have hE : ∀ w1 x, x ∈ xs → E.own w1 x (enc x) [] := fun w1 x hx => by
    obtain ⟨k, hk, rfl⟩ := List.mem_iff_getElem.1 hx
    obtain ⟨y, b, off, cs, hy, _, _, ha, _⟩ := hl.get (k := k) (by rw [← hl.1]; exact hk)
    rw [List.getElem?_eq_getElem hk] at hy
    injection hy with hy
    subst hy
    exact hF.own ha w1
  have main : ∀ v w1, w1.ownsRow g e E.size v n (xs.flatMap enc) → W.grownBy w1 (some g) → ∃ A2 c2 fp, v = .slice A2 n c2 ∧ Sep w0 w1 (tsl E e xs (.slice A2 n c2) fp :: ts) ∧ Below wr.heap.size wr w1 := fun v w1 k1 k2 => by
    have h0 : w1.ownsRow 0 e E.size v n (xs.flatMap enc) := ⟨k1.1, k1.2.imp id fun ⟨g', cap, cur, h1, _, h3⟩ => ⟨g', cap, cur, h1, Nat.zero_le _, h3⟩⟩
    have hs := SlOwn.of_row h0 (fun x hx => hE w1 x hx) hl.1
    obtain ⟨A2, n2, c2, hv, hn2, _⟩ := hs.form
    have hbl : Below wr.heap.size wr w1 := hb.grown k2 (by have := hb.size; omega) (fun k hk => by injection hk with hk; omega)
    subst hv
    have hn3 : n2 = n := hn2.trans hl.1
    subst hn3
    exact ⟨A2, c2, _, rfl, h.add hbl (t := tsl E e xs (.slice A2 n2 c2) _) hs (by simp only [tsl]; cases (Value.slice A2 n2 c2).ownBlock <;> simp) (fun b hb => by
      simp only [tsl, Option.mem_toList] at hb
      have := (k1.lt b hb).1; omega), hbl⟩
  cases A with
  | none =>
    have hc0 : c = 0 := hl.2.2.2.1 rfl
    have hn0 : n = 0 := by have := hl.2.1; omega
    subst hc0; subst hn0
    have hx0 : xs = [] := List.length_eq_zero_iff.1 hl.1
    have hr := run_append_owned_none (P := P) W g t ty e i E.size ht hi _ _ _ hown
    obtain ⟨A2, c2, fp, hv, hS, hB⟩ := main _ W (by rw [hx0]; exact hown) ⟨rfl, rfl, rfl, Nat.le_refl _, fun _ _ _ => rfl⟩
    exact ⟨A2, c2, fp, W, by rw [hr, hv], hS, hB⟩
  | some a =>
    obtain ⟨v', w1, hr, h2, h3, _, h5⟩ := run_append_own_at (P := P) W g t ty e i z E.size bytes ht hi hz hsize hby hzs hsz _ 0 [] hown a n c (xs.flatMap enc) (flat_len (fun x cs h => hF.at_ h) hl) (flat_cells' (fun x cs h => hF.at_ h) hl) (fun u hu => by
      obtain ⟨x, hx, hu⟩ := List.mem_flatMap.1 hu
      exact E.one (hE W x hx) u hu) (by omega) (by rw [Nat.zero_add]; exact hbytes) (by omega)
    rw [Nat.zero_add, List.nil_append] at h2
    obtain ⟨A2, c2, fp, hv, hS, hB⟩ := main v' w1 h2 h3
    exact ⟨A2, c2, fp, w1, by rw [hr, hv], hS, hB⟩

theorem wp_clone {o : Oper} {a : Act} {K : Act → World → Prop} {Q : Exit → Act → World → Prop} (s x : Operand) (t : TypeId)
    (ho : o.op = .call { callee := .builtin .append, args := #[s, x], argTypes := #[t, t] })
    (hF : Flat E enc) (i : TypeInfo) (z : Value) (bytes : Nat) (ht : P.underlying t = some (.slice e)) (hi : P.info? e = some i) (hz : i.zero = some z) (hsize : i.size = E.size) (hby : i.bytes = bytes) (hzs : z.cells.size = E.size) (hsz : 0 < E.size)
    (h : Sep w0 wr ts) (hb : Below wr.heap.size wr W) (hg : W.heap[g]? = some (.cells #[] e (0, 0))) (hgn : wr.heap.size ≤ g) (hl : SlAt E W B xs A n c) (hn : n ≤ maxLen) (hbytes : n * bytes ≤ 140737488355328)
    (hs : a.eval s = .slice (some ⟨g, 0, none⟩) 0 0) (hx : a.eval x = .slice A n c)
    (hk : ∀ A2 c2 fp w1, Sep w0 w1 (tsl E e xs (.slice A2 n c2) fp :: ts) → Below wr.heap.size wr w1 → K (a.put o.dst (.slice A2 n c2)) w1) : o.wp P a W K Q := by
  obtain ⟨A2, c2, fp, w1, hr, h2, h3⟩ := run_clone (P := P) hF t o.type i z bytes ht hi hz hsize hby hzs hsz h hb hg hgn hl hn hbytes
  unfold Oper.wp execOp
  simp only [ho, resolve, invoke, builtin, Sem.run_bind, Sem.run_pure, Result.andThen_ok, List.map_toArray, List.map_cons, List.map_nil, hs, hx, hr]
  exact hk A2 c2 fp w1 h2 h3
theorem step_clone {ops : Array Oper} {o : Oper} {a : Act} {K : Act → World → Prop} {Q : Exit → Act → World → Prop} {X : Prop} (hgd : o.guard = none) (s x : Operand) (t : TypeId)
    (ho : o.op = .call { callee := .builtin .append, args := #[s, x], argTypes := #[t, t] })
    (hF : Flat E enc) (i : TypeInfo) (z : Value) (bytes : Nat) (ht : P.underlying t = some (.slice e)) (hi : P.info? e = some i) (hz : i.zero = some z) (hsize : i.size = E.size) (hby : i.bytes = bytes) (hzs : z.cells.size = E.size) (hsz : 0 < E.size)
    (h : Sep w0 wr ts) (hb : Below wr.heap.size wr W) (hg : W.heap[g]? = some (.cells #[] e (0, 0))) (hgn : wr.heap.size ≤ g) (hl : SlAt E W B xs A n c) (hn : n ≤ maxLen) (hbytes : n * bytes ≤ 140737488355328)
    (hs : a.eval s = .slice (some ⟨g, 0, none⟩) 0 0) (hx : a.eval x = .slice A n c)
    (hk : ∀ A2 c2 fp w1, Sep w0 w1 (tsl E e xs (.slice A2 n c2) fp :: ts) → Below wr.heap.size wr w1 → K (a.put o.dst (.slice A2 n c2)) w1) :
    if Region.wanted o (yielded ops a.tmps) = true then Oper.wp P o a W K Q else X := by
  have hw : Region.wanted o (yielded ops a.tmps) = true := by simp [Region.wanted, hgd]
  rw [if_pos hw]
  exact wp_clone s x t ho hF i z bytes ht hi hz hsize hby hzs hsz h hb hg hgn hl hn hbytes hs hx hk
theorem wpList_clone {ops : Array Oper} {rest : List Oper} {o : Oper} {a : Act} {Q : Exit → Act → World → Prop} (hgd : o.guard = none) (s x : Operand) (t : TypeId)
    (ho : o.op = .call { callee := .builtin .append, args := #[s, x], argTypes := #[t, t] })
    (hF : Flat E enc) (i : TypeInfo) (z : Value) (bytes : Nat) (ht : P.underlying t = some (.slice e)) (hi : P.info? e = some i) (hz : i.zero = some z) (hsize : i.size = E.size) (hby : i.bytes = bytes) (hzs : z.cells.size = E.size) (hsz : 0 < E.size)
    (h : Sep w0 wr ts) (hb : Below wr.heap.size wr W) (hg : W.heap[g]? = some (.cells #[] e (0, 0))) (hgn : wr.heap.size ≤ g) (hl : SlAt E W B xs A n c) (hn : n ≤ maxLen) (hbytes : n * bytes ≤ 140737488355328)
    (hs : a.eval s = .slice (some ⟨g, 0, none⟩) 0 0) (hx : a.eval x = .slice A n c)
    (hk : ∀ A2 c2 fp w1, Sep w0 w1 (tsl E e xs (.slice A2 n c2) fp :: ts) → Below wr.heap.size wr w1 → wpList P ops Q rest (a.put o.dst (.slice A2 n c2)) w1) : wpList P ops Q (o :: rest) a W :=
  wpList_plain hgd fun _ hK => wp_clone s x t ho hF i z bytes ht hi hz hsize hby hzs hsz h hb hg hgn hl hn hbytes hs hx (fun A2 c2 fp w1 h1 h2 => hK _ _ (hk A2 c2 fp w1 h1 h2))
end
end Mm
end Go.Proofs.Ytihendiakgfpcaa

/-
  append of a whole slice of flat elements to a slice that the call owns; slices cut from the right and from the left. No program in sight. No conditions.
-/
namespace Go.Proofs.Ytihendiakgfpcaa
open Go.RowKit
namespace Mm
section
variable {P : Program} {α : Type} {E : Rep α} {enc : α → List Value} {F : List Nat} {w0 wr : World} {ts : List Thing} {xs ys : List α} {A : Option Addr} {n c B : Nat} {e : TypeId} {v : Value} {fp : List Nat}
theorem SepF.appMany (hF : Flat E enc) (hN : FlatN E enc) (t ty : TypeId) (i : TypeInfo) (z : Value) (bytes : Nat) (ht : P.underlying t = some (.slice e)) (hi : P.info? e = some i) (hz : i.zero = some z) (hsize : i.size = E.size) (hby : i.bytes = bytes) (hzs : z.cells.size = E.size)
    (h : SepF F w0 wr ts) (k : Nat) (hk : ts[k]? = some (tsl E e ys v fp)) (hl : SlAt E wr B xs A n c) (hn : ys.length + n ≤ maxLen) (hbytes : (ys.length + n) * bytes ≤ 140737488355328) :
    ∃ A2 c2 fp' w1, (Builtin.append_ #[t, t] ty #[v, .slice A n c]).run P wr = .ok (.slice A2 (ys.length + n) c2) w1 ∧ SepF F w0 w1 (ts.set k (tsl E e (ys ++ xs) (.slice A2 (ys.length + n) c2) fp')) := by
  have hs : SlOwn E e wr ys v fp := h.at_ k hk
  obtain ⟨hown, hfp, hys, hlen⟩ := hN.owns hs
  have hE : ∀ w1 x, x ∈ xs → E.own w1 x (enc x) [] := fun w1 x hx => by
    obtain ⟨k, hk, rfl⟩ := List.mem_iff_getElem.1 hx
    obtain ⟨y, b, off, cs, hy, _, _, ha, _⟩ := hl.get (k := k) (by rw [← hl.1]; exact hk)
    rw [List.getElem?_eq_getElem hk] at hy
    injection hy with hy
    subst hy
    exact hF.own ha w1
  have main : ∀ v' w1, w1.ownsRow 0 e E.size v' (ys.length + n) (ys.flatMap enc ++ xs.flatMap enc) → wr.grownBy w1 v.ownBlock → (v'.ownBlock = v.ownBlock ∨ v'.ownBlock = some wr.heap.size) → ∃ A2 c2 fp', v' = .slice A2 (ys.length + n) c2 ∧ SepF F w0 w1 (ts.set k (tsl E e (ys ++ xs) (.slice A2 (ys.length + n) c2) fp')) := fun v' w1 k1 k2 k3 => by
    rw [← List.flatMap_append] at k1
    have hs1 : SlOwn E e w1 (ys ++ xs) v' v'.ownBlock.toList := SlOwn.of_row (enc := enc) (by rw [List.length_append, hl.1]; exact k1) (fun x hx => by
      rcases List.mem_append.1 hx with hx | hx
      · exact hys x hx w1
      · exact hE w1 x hx) rfl
    obtain ⟨A2, n2, c2, hv, hn2, _⟩ := hs1.form
    subst hv
    rw [List.length_append, hl.1] at hn2
    subst hn2
    refine ⟨A2, c2, _, rfl, h.upd hk (Chg.mk k2.os k2.tape k2.output k2.size fun b hb hn => k2.block b hb (fun hh => hn (row_in hs hh.symm))) (t' := tsl E e (ys ++ xs) (.slice A2 (ys.length + n) c2) _) hs1 (by simp only [tsl]; cases (Value.slice A2 (ys.length + n) c2).ownBlock <;> simp) (fun b hb => ?_)⟩
    simp only [tsl, Option.mem_toList] at hb
    rcases k3 with h3 | h3
    · rw [h3] at hb; exact .inl (row_in hs (by rw [Option.mem_def.1 hb]))
    · rw [h3] at hb; injection hb with hb; exact .inr (by omega)
  cases A with
  | none =>
    have hc0 : c = 0 := hl.2.2.2.1 rfl
    have hn0 : n = 0 := by have := hl.2.1; omega
    subst hc0; subst hn0
    have hx0 : xs = [] := List.length_eq_zero_iff.1 hl.1
    have hr := run_append_owned_none (P := P) wr 0 t ty e i E.size ht hi _ _ _ hown
    obtain ⟨A2, c2, fp', hv, hS⟩ := main _ wr (by rw [hx0]; simpa using hown) ⟨rfl, rfl, rfl, Nat.le_refl _, fun _ _ _ => rfl⟩ (.inl rfl)
    exact ⟨A2, c2, fp', wr, by rw [hr, hv], hS⟩
  | some a =>
    obtain ⟨v', w1, hr, h2, h3, _, h5⟩ := run_append_own_at (P := P) wr 0 t ty e i z E.size bytes ht hi hz hsize hby hzs hN.pos _ _ _ hown a n c (xs.flatMap enc) (flat_len (fun x cs h => hF.at_ h) hl) (flat_cells' (fun x cs h => hF.at_ h) hl) (fun u hu => by
      obtain ⟨x, hx, hu⟩ := List.mem_flatMap.1 hu
      exact E.one (hE wr x hx) u hu) hn hbytes (Nat.zero_le _)
    obtain ⟨A2, c2, fp', hv, hS⟩ := main v' w1 h2 h3 h5
    exact ⟨A2, c2, fp', w1, by rw [hr, hv], hS⟩
theorem wpList_appMany {ops : Array Oper} {rest : List Oper} {o : Oper} {a : Act} {Q : Exit → Act → World → Prop} {m : Nat} (hgd : o.guard = none) (s x : Operand) (t : TypeId)
    (ho : o.op = .call { callee := .builtin .append, args := #[s, x], argTypes := #[t, t] })
    (hF : Flat E enc) (hN : FlatN E enc) (i : TypeInfo) (z : Value) (bytes : Nat) (ht : P.underlying t = some (.slice e)) (hi : P.info? e = some i) (hz : i.zero = some z) (hsize : i.size = E.size) (hby : i.bytes = bytes) (hzs : z.cells.size = E.size)
    (h : SepF F w0 wr ts) (k : Nat) (hk : ts[k]? = some (tsl E e ys v fp)) (hl : SlAt E wr B xs A n c) (hm : ys.length + n = m) (hn : m ≤ maxLen) (hbytes : m * bytes ≤ 140737488355328) (hs : a.eval s = v) (hx : a.eval x = .slice A n c)
    (hnext : ∀ A2 c2 fp' w1, SepF F w0 w1 (ts.set k (tsl E e (ys ++ xs) (.slice A2 m c2) fp')) → wpList P ops Q rest (a.put o.dst (.slice A2 m c2)) w1) : wpList P ops Q (o :: rest) a wr := by
  subst hm
  refine wpList_plain hgd fun K hK => ?_
  obtain ⟨A2, c2, fp', w1, hr, h2⟩ := h.appMany (P := P) hF hN t o.type i z bytes ht hi hz hsize hby hzs k hk hl hn hbytes
  unfold Oper.wp execOp
  simp only [ho, resolve, invoke, builtin, Sem.run_bind, Sem.run_pure, Result.andThen_ok, List.map_toArray, List.map_cons, List.map_nil, hs, hx, hr]
  exact hK _ _ (hnext A2 c2 fp' w1 h2)
/-- a slice that is owned, read -/
theorem SepF.rdSl (h : SepF F w0 wr ts) (k : Nat) (hk : ts[k]? = some (tsl E e ys (.slice A n c) fp)) : SlAt E wr wr.heap.size ys A n c := (h.sl k hk).weak fun b hb => (h.sl k hk).olt b hb
/-- cut from the left, as Go lays it -/
theorem SlAt.cut {w : World} {g j : Nat} (h : SlAt E w B xs (some ⟨g, 0, none⟩) n c) (hj : j ≤ n) {s : Nat} (hs : E.size = s) : ∃ A', (if c = j then (some ⟨g, 0, none⟩ : Option Addr) else some ⟨g, j * s, none⟩) = A' ∧ SlAt E w B (xs.drop j) A' (n - j) (c - j) := by
  subst hs
  by_cases hc : c = j
  · rw [if_pos hc]
    have hn : n = j := by have := h.2.1; omega
    subst hn
    have hx : xs.drop n = [] := List.drop_eq_nil_of_le (by rw [h.1]; exact Nat.le_refl _)
    rw [hx, Nat.sub_self]
    exact ⟨_, rfl, SlAt.nil (by have := h.2.2.1; omega) (fun hh => by cases hh)⟩
  · rw [if_neg hc]
    have := h.drop hj
    rw [Nat.zero_add] at this
    exact ⟨_, rfl, this⟩
/-- 's[j:]', the bound an int, as one equation -/
theorem run_cut {P : Program} {t : TypeId} {s : Nat} (ht : P.underlying t = some (.slice (P.elem t))) (hs : ∀ W, (sizeOf (P.elem t)).run P W = .ok s W) {g n c : Nat} {j : Nat} {i : Int} (hi : i = j) (hj : j ≤ n) (W : World) :
    (Instr.slice t (.slice (some ⟨g, 0, none⟩) n c) (some (.int .i64 i)) none none).run P W = .ok (.slice (if c = j then (some ⟨g, 0, none⟩ : Option Addr) else some ⟨g, j * s, none⟩) (n - j) (c - j)) W := by
  subst hi
  rw [run_slice_l W t _ n c ht .i64 (j : Int) (by omega) (by omega), hs]
  simp only [Result.andThen_ok, sliced, Int.toNat_natCast]
  congr 1
  by_cases h : c = j
  · simp [h]
  · simp only [h, if_false, Option.map_some, Addr.add]
    by_cases h0 : j * s = 0
    · simp [h0]
    · simp [h0]
/-- an empty slice, just laid -/
theorem SepF.fresh {g : Nat} (h : SepF F w0 wr ts) (hg : wr.heap.size = g) (E : Rep α) (e : TypeId) : SepF F w0 (wr.alloc (.cells #[] e)) (tsl E e [] (.slice (some ⟨g, 0, none⟩) 0 0) [g] :: ts) := by
  have h1 := h.alloc' hg e []
  refine h1.conv (by simp [tblk, tsl]) (List.forall_mem_cons.2 ⟨?_, fun u hu => h1.hold u (List.mem_cons_of_mem _ hu)⟩)
  have hb : Blk (wr.alloc (.cells #[] e)) g e [] := h1.at_ 0 rfl
  exact ⟨[], ⟨rfl, fun i x y h => by simp at h⟩, ⟨by simp, .inr ⟨g, 0, #[], rfl, Nat.zero_le _, hb, Nat.le_refl _, Nat.zero_le _, by simp, by simp⟩⟩, by simp [Value.ownBlock]⟩
end
end Mm
end Go.Proofs.Ytihendiakgfpcaa

/-
  'append([]T{}, l...)' inside a region that draws its order and gives; an empty slice just laid; the two ways of telling what a call owns. No program in sight. No conditions.
-/
namespace Go.Proofs.Ytihendiakgfpcaa
open Go.RowKit
namespace Mm
theorem Sep.toF {w0 wr : World} {ts : List Thing} (h : Sep w0 wr ts) : SepF [] w0 wr ts := ⟨Chg.of_below h.bel, h.nd, fun b hb => .inr (h.new b hb), h.hold⟩
theorem SepF.toSep {w0 wr : World} {ts : List Thing} (h : SepF [] w0 wr ts) : Sep w0 wr ts := ⟨h.bel0, h.nd, fun b hb => (h.new b hb).resolve_left (fun h => by cases h), h.hold⟩
section
variable {P : Program} {F : List Nat} {w X : World} {ops : Array Oper} {o : Oper} {a a' : Act} {others tk : List Thing} {vals : List Value} {α : Type} {E : Rep α} {enc : α → List Value} {e : TypeId} {xs : List α} {v : Value} {fp : List Nat} {A : Option Addr} {n c B : Nat}
theorem clone_gvq (hgd : o.guard = none) (s y : Operand) (t : TypeId) (ho : o.op = .call { callee := .builtin .append, args := #[s, y], argTypes := #[t, t] }) (d : Nat) (hd : o.dst = some d) (hs : Nat.blt d a.tmps.size = true)
    (hF : Flat E enc) (hN : FlatN E enc) (i : TypeInfo) (z : Value) (bytes : Nat) (ht : P.underlying t = some (.slice e)) (hi : P.info? e = some i) (hz : i.zero = some z) (hsize : i.size = E.size) (hby : i.bytes = bytes) (hzs : z.cells.size = E.size)
    (hsv : a.eval s = v) (hyv : a.eval y = .slice A n c) (hl : SlAt E X B xs A n c) (hn : n ≤ maxLen) (hbytes : n * bytes ≤ 140737488355328)
    (hS : SepF F w X ([tsl E e [] v fp] ++ others)) : wpList P ops (GvQ F w (gSl E e xs vals tk) d a.defers others) [o] a X := by
  refine wpList_appMany hgd s y t ho hF hN i z bytes ht hi hz hsize hby hzs hS 0 rfl hl (m := n) (by simp) hn hbytes hsv hyv ?_
  intro A2 c2 fp' w1 h1
  have e1 : ((a.put o.dst (.slice A2 n c2)).tmps.getD d undef) = .slice A2 n c2 := by
    rw [hd]; exact put_get (by simpa [Nat.blt_eq] using hs) _
  unfold wpList
  exact ⟨rfl, by rw [hd]; rfl, _, ⟨A2, n, c2, fp', e1, rfl, hl.1.symm⟩, h1⟩
theorem gvq_fresh {g d : Nat} {df : List Deferred} (h : SepF F w X others) (hg : X.heap.size = g) (hv : a'.tmps.getD d undef = .slice (some ⟨g, 0, none⟩) 0 0) (hdf : a'.defers = df) : GvQ F w (gSl E e [] vals tk) d df others .normal a' (X.alloc (.cells #[] e)) :=
  ⟨rfl, hdf, _, ⟨_, _, _, _, hv, rfl, rfl⟩, h.fresh hg E e⟩
end
end Mm
end Go.Proofs.Ytihendiakgfpcaa

/-
  Contracts: the starts of a log's epochs (chapter 7). No conditions beyond those named.
-/
namespace Go.Proofs.Ytihendiakgfpcaa
open Go.RowKit
attribute [local go_sem] und_cell World.cell?_alloc_some
theorem Try.infoStart : (Try.prog.info? 123).map (fun i => (i.zero, i.size, i.bytes)) = some (some (.agg #[.int .i64 0, .int .i64 0]), 2, 16) := by kernel_rfl
theorem Pl.startsTo_yes {l : List Entry} {k : Nat} {x : Entry} (hx : l[k]? = some x) (h : Pl.isSt l k = true) : Pl.startsTo l (k + 1) = Pl.startsTo l k ++ [⟨x.Epoch, k⟩] := by
  rw [Pl.startsTo, if_pos h, Pl.epAt_of hx]
theorem Pl.startsTo_no {l : List Entry} {k : Nat} (h : Pl.isSt l k = false) : Pl.startsTo l (k + 1) = Pl.startsTo l k := by
  rw [Pl.startsTo, if_neg (by rw [h]; simp)]
theorem Pl.isSt_zero (l : List Entry) : Pl.isSt l 0 = true := rfl
theorem Pl.isSt_pos {l : List Entry} {k : Nat} {x y : Entry} (hx : l[k]? = some x) (hy : l[k - 1]? = some y) (h0 : 0 < k) : Pl.isSt l k = (y.Epoch != x.Epoch) := by
  unfold Pl.isSt
  rw [Pl.epAt_of hx, Pl.epAt_of hy]
  have : decide (k = 0) = false := by simp; omega
  rw [this, Bool.false_or]
set_option maxRecDepth 100000 in
set_option maxHeartbeats 1000000 in
theorem startsOf_c (l : List Entry) (A : Option Addr) (n c : Nat) (w : World) (B : Nat) (hl : Mm.SlAt rEntry w B l A n c) (hB : B ≤ w.heap.size) (hn : n ≤ 1000) :
    Calls Try.prog 98 #[.slice A n c] w (Mm.NewSl rStart 123 w (Pl.starts l)) := by
  have HLN : Hid (l.length = n) := hl.1
  have HL := Lib.hid hl
  clear hl
  obtain ⟨i0, hi, hz0, hz1, hz2⟩ := info_parts Try.infoStart
  have KS := Lib.hid ((Mm.SepF.start w).add (Below.refl _ _) (t := Mm.tsl rStart 123 [] (.slice none 0 0) []) Mm.SlOwn.nil List.nodup_nil (fun b hb => by cases hb))
  go_enter Try.func98, Try.ntmps98
  go_wp2
  go_loopg [3, 8] n (fun g d i wr => ∃ (k m : Nat) (A' : Option Addr) (c' : Nat) (fp : List Nat), n - k ≤ g ∧ k ≤ n ∧ m ≤ k ∧ d = .slice A' m c' ∧ i = .int .i64 k ∧ Hid ((Pl.startsTo l k).length = m) ∧ Hid (Mm.SepF [] w wr [Mm.tsl rStart 123 (Pl.startsTo l k) (.slice A' m c') fp]))
  case atStart => exact ⟨0, 0, none, 0, [], Nat.le_refl _, Nat.zero_le _, Nat.le_refl _, rfl, rfl, rfl, KS.out⟩
  case round =>
    obtain ⟨k, m, A', c', fp, hgk, hk, hmk, rfl, rfl, HML, HS⟩ := hrel
    obtain ⟨W, rfl⟩ : ∃ W : World, W = wr := ⟨_, rfl⟩
    have hbel := HS.out.bel0
    by_cases hlt : k < n
    · have hR := HL.out.keep (w' := W) fun b hb => hbel.block b (by omega)
      obtain ⟨x, b, off, hx, rfl, hb, i1, i2, e0, e1⟩ := rEntry_get hR hlt
      have hbw : b < W.heap.size := by have := hbel.size; omega
      have HI := Lib.hid (And.intro i1 (show Mm.I64 (k : Int) by unfold Mm.I64; omega))
      have HX := Lib.hid hx
      obtain ⟨gv, hgv⟩ : ∃ gv, W.heap.size = gv := ⟨_, rfl⟩
      obtain ⟨W1, hW1⟩ : ∃ W1, W.alloc (.cells #[.int .i64 x.Epoch, .string x.Text] 111) = W1 := ⟨_, rfl⟩
      have HS1 := Lib.hid ((HS.out.alloc' hgv 111 [.int .i64 x.Epoch, .string x.Text]).atW hW1)
      have f2 : (0 : Int) ≤ (k : Nat) := by omega
      have f3 : ((k : Nat) : Int).toNat = k := by omega
      clear hx i1 i2 KS
      by_cases h0 : k = 0
      · have HN := Lib.hid (Pl.startsTo_yes HX.out (by rw [h0]; exact Pl.isSt_zero l))
        have f1 : ((k : Int) == 0) = true := by simp; omega
        clear hR h0
        go_wp2
        clear hW1 hgv e0 e1
        have c0 := HS1.out.cell (k := 0) 0 rfl rfl
        refine wp_region_und (by kernel_rfl) (by kernel_rfl) ?_
        repeat (go_big_quiet_step ((first | fail)))
        refine wpQuiet_nil ?_
        intro X hX
        have HS2 := Lib.hid (HS1.out.step hX)
        clear c0
        have c0 := HS2.out.cell (k := 0) 0 rfl rfl
        go_wp2_with (at_builtin; refine Mm.app_list (x := (⟨x.Epoch, k⟩ : Start)) HS2.out 1 rfl rfl (.tmp 26) (.tmp 31) 120 rfl i0 _ 16 Try.underlying120 hi hz0 hz1 hz2 rfl (by decide) rfl rfl (fun W => rStart_own_mk (x := ⟨x.Epoch, k⟩) HI.out) HML.out (by unfold maxLen; omega) (by omega) ?_; intro g cap w' fp' hs; (have HS3 := Lib.hid hs); clear hs)
        go_roundg (n - (k + 1))
        case measure => omega
        case rel => exact ⟨k + 1, m + 1, _, cap, fp', Nat.le_refl _, by omega, by omega, rfl, by go_num, (by show _ = _; rw [HN.out, List.length_append, HML.out]; rfl), by rw [HN.out]; exact HS3.out.sel [1] (by decide) rfl⟩
      · have hk0 : 0 < k := by omega
        obtain ⟨y, hy, _, _, _, e3, _⟩ := rEntry_get' hR (show k - 1 < n by omega)
        have HST := Lib.hid (Pl.isSt_pos HX.out hy hk0)
        have f1 : ((k : Int) == 0) = false := by simp; omega
        have f4 : (0 : Int) ≤ (k : Int) - 1 := by omega
        have f5 : 1 ≤ k := by omega
        have f6 : ((k : Int) - 1).toNat = k - 1 := by omega
        have f7 : (k : Int) - 1 < n := by omega
        replace e3 := below_some (show Below W.heap.size W W1 by rw [← hW1]; exact below_new (Below.refl _ _) _) e3
        clear hR h0 hy
        cases hq : (y.Epoch != x.Epoch) with
        | true =>
          have HN := Lib.hid (Pl.startsTo_yes HX.out (by rw [HST.out, hq]))
          go_wp2
          clear hW1 hgv e0 e1
          have c0 := HS1.out.cell (k := 0) 0 rfl rfl
          refine wp_region_und (by kernel_rfl) (by kernel_rfl) ?_
          repeat (go_big_quiet_step ((first | fail)))
          refine wpQuiet_nil ?_
          intro X hX
          have HS2 := Lib.hid (HS1.out.step hX)
          clear c0 e3
          have c0 := HS2.out.cell (k := 0) 0 rfl rfl
          go_wp2_with (at_builtin; refine Mm.app_list (x := (⟨x.Epoch, k⟩ : Start)) HS2.out 1 rfl rfl (.tmp 26) (.tmp 31) 120 rfl i0 _ 16 Try.underlying120 hi hz0 hz1 hz2 rfl (by decide) rfl rfl (fun W => rStart_own_mk (x := ⟨x.Epoch, k⟩) HI.out) HML.out (by unfold maxLen; omega) (by omega) ?_; intro g cap w' fp' hs; (have HS3 := Lib.hid hs); clear hs)
          go_roundg (n - (k + 1))
          case measure => omega
          case rel => exact ⟨k + 1, m + 1, _, cap, fp', Nat.le_refl _, by omega, by omega, rfl, by go_num, (by show _ = _; rw [HN.out, List.length_append, HML.out]; rfl), by rw [HN.out]; exact HS3.out.sel [1] (by decide) rfl⟩
        | false =>
          have HN := Lib.hid (Pl.startsTo_no (l := l) (k := k) (by rw [HST.out, hq]))
          go_wp2
          clear hW1 hgv e0 e1
          have c0 := HS1.out.cell (k := 0) 0 rfl rfl
          refine wp_region_und (by kernel_rfl) (by kernel_rfl) ?_
          repeat (go_big_quiet_step ((first | fail)))
          refine wpQuiet_nil ?_
          intro X hX
          have HS2 := Lib.hid (HS1.out.step hX)
          go_wp2
          go_roundg (n - (k + 1))
          case measure => omega
          case rel => exact ⟨k + 1, m, _, c', fp, Nat.le_refl _, by omega, by omega, rfl, by go_num, (by show _ = _; rw [HN.out]; exact HML.out), by rw [HN.out]; exact HS2.out.sel [1] (by decide) rfl⟩
    · obtain rfl : k = n := by omega
      have HE : Hid (Pl.startsTo l k = Pl.starts l) := by show _ = _; unfold Pl.starts; rw [HLN.out]
      clear KS
      go_wp2
      go_ret
      obtain ⟨q1, q2, q3, q4⟩ := HS.out.toSep.own0 0 rfl
      rw [HE.out] at q1
      exact ⟨A', m, c', fp, rfl, q1, q2, q3, q4⟩
set_option maxRecDepth 100000 in
set_option maxHeartbeats 1000000 in
theorem l7Starts_c (l : List Entry) (A : Option Addr) (n c : Nat) (w : World) (B : Nat) (hl : Mm.SlAt rEntry w B l A n c) (hB : B ≤ w.heap.size) (hn : n ≤ 1000) :
    Calls Try.prog 120 #[.slice A n c] w (Mm.NewSl rStart 123 w (Pl.starts l)) := by
  have HLN : Hid (l.length = n) := hl.1
  have HL := Lib.hid hl
  clear hl
  obtain ⟨i0, hi, hz0, hz1, hz2⟩ := info_parts Try.infoStart
  have KS := Lib.hid ((Mm.SepF.start w).add (Below.refl _ _) (t := Mm.tsl rStart 123 [] (.slice none 0 0) []) Mm.SlOwn.nil List.nodup_nil (fun b hb => by cases hb))
  go_enter Try.func120, Try.ntmps120
  go_wp2
  go_loopg [3, 8] n (fun g d i wr => ∃ (k m : Nat) (A' : Option Addr) (c' : Nat) (fp : List Nat), n - k ≤ g ∧ k ≤ n ∧ m ≤ k ∧ d = .slice A' m c' ∧ i = .int .i64 k ∧ Hid ((Pl.startsTo l k).length = m) ∧ Hid (Mm.SepF [] w wr [Mm.tsl rStart 123 (Pl.startsTo l k) (.slice A' m c') fp]))
  case atStart => exact ⟨0, 0, none, 0, [], Nat.le_refl _, Nat.zero_le _, Nat.le_refl _, rfl, rfl, rfl, KS.out⟩
  case round =>
    obtain ⟨k, m, A', c', fp, hgk, hk, hmk, rfl, rfl, HML, HS⟩ := hrel
    obtain ⟨W, rfl⟩ : ∃ W : World, W = wr := ⟨_, rfl⟩
    have hbel := HS.out.bel0
    by_cases hlt : k < n
    · have hR := HL.out.keep (w' := W) fun b hb => hbel.block b (by omega)
      obtain ⟨x, b, off, hx, rfl, hb, i1, i2, e0, e1⟩ := rEntry_get hR hlt
      have hbw : b < W.heap.size := by have := hbel.size; omega
      have HI := Lib.hid (And.intro i1 (show Mm.I64 (k : Int) by unfold Mm.I64; omega))
      have HX := Lib.hid hx
      obtain ⟨gv, hgv⟩ : ∃ gv, W.heap.size = gv := ⟨_, rfl⟩
      obtain ⟨W1, hW1⟩ : ∃ W1, W.alloc (.cells #[.int .i64 x.Epoch, .string x.Text] 111) = W1 := ⟨_, rfl⟩
      have HS1 := Lib.hid ((HS.out.alloc' hgv 111 [.int .i64 x.Epoch, .string x.Text]).atW hW1)
      have f2 : (0 : Int) ≤ (k : Nat) := by omega
      have f3 : ((k : Nat) : Int).toNat = k := by omega
      clear hx i1 i2 KS
      by_cases h0 : k = 0
      · have HN := Lib.hid (Pl.startsTo_yes HX.out (by rw [h0]; exact Pl.isSt_zero l))
        have f1 : ((k : Int) == 0) = true := by simp; omega
        clear hR h0
        go_wp2
        clear hW1 hgv e0 e1
        have c0 := HS1.out.cell (k := 0) 0 rfl rfl
        refine wp_region_und (by kernel_rfl) (by kernel_rfl) ?_
        repeat (go_big_quiet_step ((first | fail)))
        refine wpQuiet_nil ?_
        intro X hX
        have HS2 := Lib.hid (HS1.out.step hX)
        clear c0
        have c0 := HS2.out.cell (k := 0) 0 rfl rfl
        go_wp2_with (at_builtin; refine Mm.app_list (x := (⟨x.Epoch, k⟩ : Start)) HS2.out 1 rfl rfl (.tmp 26) (.tmp 31) 120 rfl i0 _ 16 Try.underlying120 hi hz0 hz1 hz2 rfl (by decide) rfl rfl (fun W => rStart_own_mk (x := ⟨x.Epoch, k⟩) HI.out) HML.out (by unfold maxLen; omega) (by omega) ?_; intro g cap w' fp' hs; (have HS3 := Lib.hid hs); clear hs)
        go_roundg (n - (k + 1))
        case measure => omega
        case rel => exact ⟨k + 1, m + 1, _, cap, fp', Nat.le_refl _, by omega, by omega, rfl, by go_num, (by show _ = _; rw [HN.out, List.length_append, HML.out]; rfl), by rw [HN.out]; exact HS3.out.sel [1] (by decide) rfl⟩
      · have hk0 : 0 < k := by omega
        obtain ⟨y, hy, _, _, _, e3, _⟩ := rEntry_get' hR (show k - 1 < n by omega)
        have HST := Lib.hid (Pl.isSt_pos HX.out hy hk0)
        have f1 : ((k : Int) == 0) = false := by simp; omega
        have f4 : (0 : Int) ≤ (k : Int) - 1 := by omega
        have f5 : 1 ≤ k := by omega
        have f6 : ((k : Int) - 1).toNat = k - 1 := by omega
        have f7 : (k : Int) - 1 < n := by omega
        replace e3 := below_some (show Below W.heap.size W W1 by rw [← hW1]; exact below_new (Below.refl _ _) _) e3
        clear hR h0 hy
        cases hq : (y.Epoch != x.Epoch) with
        | true =>
          have HN := Lib.hid (Pl.startsTo_yes HX.out (by rw [HST.out, hq]))
          go_wp2
          clear hW1 hgv e0 e1
          have c0 := HS1.out.cell (k := 0) 0 rfl rfl
          refine wp_region_und (by kernel_rfl) (by kernel_rfl) ?_
          repeat (go_big_quiet_step ((first | fail)))
          refine wpQuiet_nil ?_
          intro X hX
          have HS2 := Lib.hid (HS1.out.step hX)
          clear c0 e3
          have c0 := HS2.out.cell (k := 0) 0 rfl rfl
          go_wp2_with (at_builtin; refine Mm.app_list (x := (⟨x.Epoch, k⟩ : Start)) HS2.out 1 rfl rfl (.tmp 26) (.tmp 31) 120 rfl i0 _ 16 Try.underlying120 hi hz0 hz1 hz2 rfl (by decide) rfl rfl (fun W => rStart_own_mk (x := ⟨x.Epoch, k⟩) HI.out) HML.out (by unfold maxLen; omega) (by omega) ?_; intro g cap w' fp' hs; (have HS3 := Lib.hid hs); clear hs)
          go_roundg (n - (k + 1))
          case measure => omega
          case rel => exact ⟨k + 1, m + 1, _, cap, fp', Nat.le_refl _, by omega, by omega, rfl, by go_num, (by show _ = _; rw [HN.out, List.length_append, HML.out]; rfl), by rw [HN.out]; exact HS3.out.sel [1] (by decide) rfl⟩
        | false =>
          have HN := Lib.hid (Pl.startsTo_no (l := l) (k := k) (by rw [HST.out, hq]))
          go_wp2
          clear hW1 hgv e0 e1
          have c0 := HS1.out.cell (k := 0) 0 rfl rfl
          refine wp_region_und (by kernel_rfl) (by kernel_rfl) ?_
          repeat (go_big_quiet_step ((first | fail)))
          refine wpQuiet_nil ?_
          intro X hX
          have HS2 := Lib.hid (HS1.out.step hX)
          go_wp2
          go_roundg (n - (k + 1))
          case measure => omega
          case rel => exact ⟨k + 1, m, _, c', fp, Nat.le_refl _, by omega, by omega, rfl, by go_num, (by show _ = _; rw [HN.out]; exact HML.out), by rw [HN.out]; exact HS2.out.sel [1] (by decide) rfl⟩
    · obtain rfl : k = n := by omega
      have HE : Hid (Pl.startsTo l k = Pl.starts l) := by show _ = _; unfold Pl.starts; rw [HLN.out]
      clear KS
      go_wp2
      go_ret
      obtain ⟨q1, q2, q3, q4⟩ := HS.out.toSep.own0 0 rfl
      rw [HE.out] at q1
      exact ⟨A', m, c', fp, rfl, q1, q2, q3, q4⟩
end Go.Proofs.Ytihendiakgfpcaa

/-
  Contracts: slices.Reverse and slices.IndexFunc at starts of epochs (chapter 7). No conditions beyond those named.
-/
namespace Go.Proofs.Ytihendiakgfpcaa
open Go.RowKit
attribute [local go_sem] und_cell World.cell?_alloc_some
/-- in the midst of a reversal -/
def Pl.RevAt (l : List Start) (n k : Nat) (ys : List Start) : Prop := ys.length = n ∧ ∀ t, ys[t]? = if t < k ∨ n - k ≤ t then (if t < n then l[n - 1 - t]? else none) else l[t]?
theorem Pl.RevAt.start {l : List Start} {n : Nat} (h : l.length = n) : Pl.RevAt l n 0 l := ⟨h, fun t => by
  by_cases ht : t < n
  · rw [if_neg (by omega)]
  · rw [if_pos (by omega), if_neg ht, List.getElem?_eq_none (by omega)]⟩
theorem Pl.RevAt.step {l ys : List Start} {n k : Nat} {x y : Start} (h : Pl.RevAt l n k ys) (hl : l.length = n) (hk : k < n - 1 - k) (hx : ys[k]? = some x) (hy : ys[n - 1 - k]? = some y) : Pl.RevAt l n (k + 1) ((ys.set k y).set (n - 1 - k) x) := by
  obtain ⟨h1, h2⟩ := h
  have hx' := h2 k
  have hy' := h2 (n - 1 - k)
  rw [hx, if_neg (by omega)] at hx'
  rw [hy, if_neg (by omega)] at hy'
  refine ⟨by simp [h1], fun t => ?_⟩
  by_cases e1 : t = n - 1 - k
  · subst e1
    rw [List.getElem?_set_self (by rw [List.length_set]; omega), if_pos (by omega), if_pos (by omega), hx']
    congr 1; omega
  · rw [List.getElem?_set_ne (Ne.symm e1)]
    by_cases e2 : t = k
    · subst e2
      rw [List.getElem?_set_self (show t < ys.length by omega), hy', if_pos (by omega), if_pos (by omega)]
    · rw [List.getElem?_set_ne (Ne.symm e2), h2 t]
      by_cases c : t < k ∨ n - k ≤ t
      · rw [if_pos c, if_pos (show t < k + 1 ∨ n - (k + 1) ≤ t by omega)]
      · rw [if_neg c, if_neg (by omega)]
theorem Pl.RevAt.done {l ys : List Start} {n k : Nat} (h : Pl.RevAt l n k ys) (hl : l.length = n) (hk : n ≤ 2 * k + 1) : ys = l.reverse := by
  obtain ⟨h1, h2⟩ := h
  apply List.ext_getElem?
  intro t
  rw [h2 t]
  by_cases ht : t < n
  · rw [List.getElem?_reverse (by omega), hl]
    by_cases c : t < k ∨ n - k ≤ t
    · rw [if_pos c, if_pos ht]
    · rw [if_neg c]; congr 1; omega
  · rw [if_pos (by omega), if_neg ht, List.getElem?_eq_none (by simp; omega)]
theorem st_inv {w : World} {xs : List Start} {v : Value} {fp : List Nat} (h : Mm.SlOwn rStart 123 w xs v fp) {k : Nat} {m : Start} (hk : xs[k]? = some m) : Mm.I64 m.Epoch ∧ Mm.I64 m.At := by
  obtain ⟨es, he, -, -⟩ := h
  have hl := (List.getElem?_eq_some_iff.1 hk).1
  exact (rStart_own (he.2 k _ _ hk (List.getElem?_eq_getElem (show k < es.length by rw [he.1]; exact hl)))).2.1
set_option maxRecDepth 100000 in
set_option maxHeartbeats 1000000 in
theorem revSt_c (l : List Start) (A : Option Addr) (n c : Nat) (fp : List Nat) (w : World) (hs : Mm.SlOwn rStart 123 w l (.slice A n c) fp) (hnd : fp.Nodup) (hn : n ≤ 1000) :
    Calls Try.prog 128 #[.slice A n c] w fun e w' => e = .returned (.tuple #[]) ∧ Mm.SepF fp w w' [Mm.tsl rStart 123 l.reverse (.slice A n c) fp] := by
  have HS0 : Hid (Mm.SepF fp w w [Mm.tsl rStart 123 l (.slice A n c) fp]) := Mm.SepF.one (Mm.tsl rStart 123 l (.slice A n c) fp) w hs hnd
  have HLN : Hid (l.length = n) := by obtain ⟨_, _, _, hv, q1, _⟩ := hs.form; injection hv with _ q2 _; exact (q2.trans q1).symm
  have f0 : IntKind.i64.wrap ((n : Int) - 1) = (n : Int) - 1 := IntWalk.i64_in _ (by omega)
  obtain ⟨fpg, rfl⟩ : ∃ q, fp = q := ⟨_, rfl⟩
  clear hs hnd
  go_enter Try.func128, Try.ntmps128
  go_wp2
  go_loopg [2, 3] n (fun gg s2 s3 wr => ∃ (k : Nat) (ys : List Start), n - k ≤ gg ∧ 2 * k ≤ n ∧ s2 = .int .i64 k ∧ s3 = .int .i64 ((n : Int) - 1 - k) ∧ Hid (Pl.RevAt l n k ys) ∧ Hid (Mm.SepF fp w wr [Mm.tsl rStart 123 ys (.slice A n c) fp]))
  case atStart => exact ⟨0, l, by omega, by omega, rfl, by go_num, Pl.RevAt.start HLN.out, HS0.out⟩
  case round =>
    obtain ⟨k, ys, hgg, hk2, rfl, rfl, HR, HS⟩ := hrel
    obtain ⟨W, rfl⟩ : ∃ W : World, W = wr := ⟨_, rfl⟩
    by_cases hlt : k < n - 1 - k
    · obtain ⟨g, rfl, -, -⟩ := Mm.sl_addr (HS.out.sl 0 rfl) (by have := HR.out.1; omega)
      obtain ⟨j, hj⟩ : ∃ j, n - 1 - k = j := ⟨_, rfl⟩
      have hjn : j < n := by omega
      have f1 : ((n : Int) - 1 - k) = (j : Int) := by omega
      have hkj : k < j := by omega
      obtain ⟨x, hx⟩ : ∃ x, ys[k]? = some x := ⟨_, List.getElem?_eq_getElem (by have := HR.out.1; omega)⟩
      obtain ⟨y, hy⟩ : ∃ y, ys[j]? = some y := ⟨_, List.getElem?_eq_getElem (by have := HR.out.1; omega)⟩
      have HN := Lib.hid (HR.out.step HLN.out (by omega) hx (by rw [hj]; exact hy))
      rw [hj] at HN
      have HX := Lib.hid hx
      have HY := Lib.hid hy
      have HJ := Lib.hid hj
      obtain ⟨u0, u1⟩ := rStart_ocell (HS.out.sl 0 rfl) (HS.out.ndat (i := 0) rfl) hx
      obtain ⟨v0, v1⟩ := rStart_ocell (HS.out.sl 0 rfl) (HS.out.ndat (i := 0) rfl) hy
      have f2 : (0 : Int) ≤ (k : Nat) := by omega
      have f3 : ((k : Nat) : Int).toNat = k := by omega
      have f4 : (0 : Int) ≤ (j : Nat) := by omega
      have f5 : ((j : Nat) : Int).toNat = j := by omega
      have f6 : (k : Int) < n := by omega
      have f7 : (j : Int) < n := by omega
      rw [f1]
      clear hx hy hj f1
      have z0 := (HS.out.sl 0 rfl).frozen (k * 2)
      have z1 := (HS.out.sl 0 rfl).frozen (k * 2 + 1)
      have z2 := (HS.out.sl 0 rfl).frozen (j * 2)
      have z3 := (HS.out.sl 0 rfl).frozen (j * 2 + 1)
      go_wp2
      go_region
      have hkl : k < ys.length := by have := HR.out.1; omega
      have hjl : j < ys.length := by have := HR.out.1; omega
      have HIX := Lib.hid (show Mm.I64 x.Epoch ∧ Mm.I64 x.At from st_inv (HS.out.sl 0 rfl) HX.out)
      have HIY := Lib.hid (show Mm.I64 y.Epoch ∧ Mm.I64 y.At from st_inv (HS.out.sl 0 rfl) HY.out)
      have HSD := Lib.hid (HS.out.step ((Below.refl _ _).drew))
      have HSA := Lib.hid (HSD.out.putSl (x' := ⟨y.Epoch, x.At⟩) (u := .int .i64 y.Epoch) (m := 0) 0 rfl HX.out (by decide) (fun cs fx h => by
        obtain ⟨rfl, h1, rfl⟩ := rStart_own h
        exact rStart_own_mk (x := ⟨y.Epoch, x.At⟩) ⟨HIY.out.1, h1.2⟩))
      have HSB := Lib.hid (HSA.out.putSl (k := k) (x' := y) (u := .int .i64 y.At) (m := 1) 0 rfl (List.getElem?_set_self hkl) (by decide) (fun cs fx h => by
        obtain ⟨rfl, h1, rfl⟩ := rStart_own h
        exact rStart_own_mk HIY.out))
      have e5 : ((ys.set k ⟨y.Epoch, x.At⟩).set k y)[j]? = some y := by rw [List.set_set, List.getElem?_set_ne (by omega)]; exact HY.out
      have HSC := Lib.hid (HSB.out.putSl (x' := ⟨x.Epoch, y.At⟩) (u := .int .i64 x.Epoch) (m := 0) 0 rfl e5 (by decide) (fun cs fx h => by
        obtain ⟨rfl, h1, rfl⟩ := rStart_own h
        exact rStart_own_mk (x := ⟨x.Epoch, y.At⟩) ⟨HIX.out.1, h1.2⟩))
      have HSE := Lib.hid (HSC.out.putSl (k := j) (x' := x) (u := .int .i64 x.At) (m := 1) 0 rfl (List.getElem?_set_self (by rw [List.set_set, List.length_set]; exact hjl)) (by decide) (fun cs fx h => by
        obtain ⟨rfl, h1, rfl⟩ := rStart_own h
        exact rStart_own_mk HIX.out))
      have f9 : IntKind.i64.wrap ((j : Int) - 1) = (j : Int) - 1 := IntWalk.i64_in _ (by omega)
      clear e5
      go_wp2
      go_roundg (n - (k + 1))
      case measure => omega
      case rel => exact ⟨k + 1, (ys.set k y).set j x, Nat.le_refl _, by omega, by go_num, by (have := HJ.out); go_num, HN.out, by
        have h9 : Mm.SepF fp w _ [Mm.tsl rStart 123 ((((ys.set k ⟨y.Epoch, x.At⟩).set k y).set j ⟨x.Epoch, y.At⟩).set j x) (.slice (some ⟨g, 0, none⟩) n c) fp] := HSE.out
        rw [List.set_set, List.set_set] at h9
        exact h9⟩
    · have HE := Lib.hid (HR.out.done HLN.out (by omega))
      have f1 : ¬ ((k : Int) < (n : Int) - 1 - k) := by omega
      go_wp2
      go_end0
      exact ⟨rfl, by rw [← HE.out]; exact HS.out⟩
theorem fpClos_c (x s : Start) (gn : Nat) (w : World) (hc : w.cell? ⟨gn, 0, none⟩ = some (.int .i64 s.Epoch)) (_hlt : gn < w.heap.size) :
    Calls Try.prog 129 #[.agg #[.int .i64 x.Epoch, .int .i64 x.At], .pointer (some ⟨gn, 0, none⟩)] w fun e w' => e = .returned (.bool (x.Epoch == s.Epoch)) ∧ Below w.heap.size w w' := by
  have hb := below_new (Below.refl w.heap.size w) (.cells #[.int .i64 x.Epoch, .int .i64 x.At] 123)
  have HB := Lib.hid hb
  replace hc := below_some hb hc
  clear hb
  go_enter Try.func129, Try.ntmps129
  go_wp2
  go_ret
  exact ⟨rfl, HB.out⟩
/-- the place of the first start with an epoch -/
def FoundS (e : Int) (l : List Start) (i : Int) : Prop :=
  (i = -1 ∧ ∀ (j : Nat) x, l[j]? = some x → x.Epoch ≠ e) ∨ ∃ (k : Nat) (x : Start), i = k ∧ l[k]? = some x ∧ x.Epoch = e
set_option maxRecDepth 100000 in
theorem fpFind_c (s : Start) (gn : Nat) (l : List Start) (A : Option Addr) (n c : Nat) (w : World) (B : Nat) (hc : w.cell? ⟨gn, 0, none⟩ = some (.int .i64 s.Epoch)) (hlt : gn < w.heap.size) (hl : Mm.SlAt rStart w B l A n c) (hB : B ≤ w.heap.size) :
    Calls Try.prog 126 #[.slice A n c, .func (Fn.func 129) #[] #[.pointer (some ⟨gn, 0, none⟩)]] w fun e w' => ∃ i, e = .returned (.int .i64 i) ∧ FoundS s.Epoch l i ∧ Below w.heap.size w w' := by
  have hn : n ≤ 9223372036854775807 := by have := hl.2.1; have := hl.2.2.1; unfold maxLen at this; omega
  have HLN : Hid (l.length = n) := hl.1
  have HL := Lib.hid hl
  have HC := Lib.hid hc
  clear hl hc
  go_enter Try.func126, Try.ntmps126
  go_wp2
  go_loopg [5, 8] n (fun g _ i wr => ∃ k : Nat, n - k ≤ g ∧ k ≤ n ∧ i = .int .i64 k ∧ Hid (∀ (j : Nat) y, j < k → l[j]? = some y → y.Epoch ≠ s.Epoch) ∧ Hid (Below w.heap.size w wr))
  case atStart => exact ⟨0, Nat.le_refl _, Nat.zero_le _, rfl, Lib.hid (fun j y hj => absurd hj (Nat.not_lt_zero _)), Below.refl _ _⟩
  case round =>
    obtain ⟨k, hgk, hk, rfl, HA, HB⟩ := hrel
    obtain ⟨W, rfl⟩ : ∃ W : World, W = wr := ⟨_, rfl⟩
    by_cases hlt' : k < n
    · obtain ⟨x, b, off, hx, rfl, hb, i1, i2, e0, e1⟩ := rStart_get (HL.out.keep (w' := W) fun b hb => HB.out.block b (by omega)) hlt'
      have HX := Lib.hid hx
      have C := fpClos_c x s gn W (below_some HB.out HC.out) (by have := HB.out.size; omega)
      have f1 : (k : Int) < (n : Nat) := by omega
      have f2 : (0 : Int) ≤ (k : Nat) := by omega
      have f3 : ((k : Nat) : Int).toNat = k := by omega
      clear hx i1 i2
      cases hs : (x.Epoch == s.Epoch) with
      | true =>
        rw [hs] at C
        have HE := Lib.hid (beq_iff_eq.1 hs)
        clear hs
        go_wp2_with (go_at_call 129; (with_reducible refine C.mono ?_); clear C; rintro e w1 ⟨rfl, hb1⟩)
        go_ret
        exact ⟨_, rfl, .inr ⟨k, x, rfl, HX.out, HE.out⟩, below_step HB.out hb1⟩
      | false =>
        rw [hs] at C
        have HE : Hid (x.Epoch ≠ s.Epoch) := Lib.hid (by simpa using hs)
        clear hs
        go_wp2_with (go_at_call 129; (with_reducible refine C.mono ?_); clear C; rintro e w1 ⟨rfl, hb1⟩)
        go_roundg (n - (k + 1))
        case measure => omega
        case rel => exact ⟨k + 1, Nat.le_refl _, by omega, by go_num, Lib.hid (fun j y hj hy => by
          rcases Nat.lt_succ_iff_lt_or_eq.1 hj with h1 | rfl
          · exact HA.out j y h1 hy
          · rw [HX.out] at hy; injection hy with hy; rw [← hy]; exact HE.out), below_step HB.out hb1⟩
    · have HE : Hid (∀ (j : Nat) x, l[j]? = some x → x.Epoch ≠ s.Epoch) := Lib.hid (fun j x hx => HA.out j x (by have := (List.getElem?_eq_some_iff.1 hx).1; rw [HLN.out] at this; omega) hx)
      go_wp2
      go_ret
      exact ⟨_, rfl, .inl ⟨rfl, HE.out⟩, HB.out⟩
end Go.Proofs.Ytihendiakgfpcaa

/-
  Contracts: up to where a follower keeps its entries (chapter 7). No conditions beyond those named.
-/
namespace Go.Proofs.Ytihendiakgfpcaa
open Go.RowKit
attribute [local go_sem] und_cell World.cell?_alloc_some
theorem Pl.ffind_hit {a b : List Entry} {k : Nat} {s : Start} (hs : (starts a).reverse[k]? = some s) (hn : ∀ (i : Nat) x, i < k → (starts a).reverse[i]? = some x → hasEp b x.Epoch = false) (hb : hasEp b s.Epoch = true) : ffind a b = min (fend a s.Epoch) (fend b s.Epoch) := by
  unfold ffind
  have hk := (List.getElem?_eq_some_iff.1 hs)
  have e : (starts a).reverse.find? (fun s => hasEp b s.Epoch) = some s := by
    rw [List.find?_eq_some_iff_getElem]
    refine ⟨hb, k, hk.1, hk.2, fun j hj => ?_⟩
    rw [hn j _ hj (List.getElem?_eq_getElem (Nat.lt_trans hj hk.1))]; rfl
  rw [e]
theorem Pl.ffind_none {a b : List Entry} (hn : ∀ (i : Nat) x, (starts a).reverse[i]? = some x → hasEp b x.Epoch = false) : ffind a b = 0 := by
  unfold ffind
  have e : (starts a).reverse.find? (fun s => hasEp b s.Epoch) = none := by
    rw [List.find?_eq_none]
    intro x hx
    obtain ⟨i, hi⟩ := List.mem_iff_getElem?.1 hx
    rw [hn i x hi]; simp
  rw [e]
theorem Pl.hasEp_starts {b : List Entry} {e : Int} (h : ∀ (j : Nat) x, (starts b)[j]? = some x → x.Epoch ≠ e) : hasEp b e = false := by
  rw [← Bool.not_eq_true, hasEp_iff, ← starts_ep]
  rintro ⟨s, hs, he⟩
  obtain ⟨j, hj⟩ := List.mem_iff_getElem?.1 hs
  exact h j s hj he
theorem Pl.hasEp_starts' {b : List Entry} {j : Nat} {x : Start} (h : (starts b)[j]? = some x) : hasEp b x.Epoch = true := hasEp_iff.2 (starts_ep.1 ⟨x, List.mem_of_getElem? h, rfl⟩)
def FindAns (a b : List Entry) (w : World) (e : Ending) (w' : World) : Prop := ∃ q : Int, e = .returned (.tuple #[.int .i64 (Pl.ffind a b : Nat), .int .i64 q]) ∧ Below w.heap.size w w'
set_option maxRecDepth 100000 in
set_option maxHeartbeats 2000000 in
theorem findPart_c (a b : List Entry) (A : Option Addr) (n c : Nat) (A' : Option Addr) (n' c' : Nat) (w : World) (B : Nat) (ha : Mm.SlAt rEntry w B a A n c) (hb : Mm.SlAt rStart w B (Pl.starts b) A' n' c') (hB : B ≤ w.heap.size) (hn : n ≤ 1000) (hra : Pl.Ris a) (hrb : Pl.Ris b) (hbl : b.length ≤ 1000) :
    Calls Try.prog 115 #[.slice A n c, .slice A' n' c', .int .i64 (b.length : Nat)] w (FindAns a b w) := by
  have hn' : n' ≤ 1000 := by have h1 := hb.1; have h2 := Pl.startsTo_len b b.length; unfold Pl.starts at h1; omega
  have HAL := Lib.hid ha
  have HBL := Lib.hid hb
  have HAN : Hid (a.length = n) := ha.1
  have HBN : Hid ((Pl.starts b).length = n') := hb.1
  have HR := Lib.hid (And.intro hra hrb)
  have CS := startsOf_c a A n c w B ha hB hn
  have KS0 := Lib.hid (Mm.SepF.start w)
  clear ha hb hra hrb
  go_enter Try.func115, Try.ntmps115
  go_upto_region 2 with (go_at_call 98; (with_reducible refine CS.mono ?_); clear CS; rintro e w1 ⟨A1, n1, c1, fp1, rfl, ho, hnd, hnew, hb1⟩; (have HS1 := Lib.hid (KS0.out.add hb1 (t := Mm.tsl rStart 123 (Pl.starts a) (.slice A1 n1 c1) fp1) ho hnd hnew)); clear ho hnd hnew hb1)
  have HN1 : Hid ((Pl.starts a).length = n1) := by obtain ⟨_, _, _, hv, q1, _⟩ := (HS1.out.sl 0 rfl).form; injection hv with _ q2 _; exact (q2.trans q1).symm
  have hn1 : n1 ≤ 1000 := by have h1 := HN1.out; have h2 := Pl.startsTo_len a a.length; have h3 := HAN.out; unfold Pl.starts at h1; omega
  have CR := revSt_c (Pl.starts a) A1 n1 c1 fp1 w1 (HS1.out.sl 0 rfl) (HS1.out.ndat (i := 0) rfl) hn1
  go_wp2_with (go_at_call 128; (with_reducible refine CR.mono ?_); clear CR; rintro e w2 ⟨rfl, hS2⟩; (have HS2 := Lib.hid (HS1.out.call 0 rfl hS2.left)); clear hS2)
  obtain ⟨own, hown⟩ : ∃ own, (Pl.starts a).reverse = own := ⟨_, rfl⟩
  have HOW := Lib.hid hown
  have HOL : Hid (own.length = n1) := by show _ = _; rw [← hown, List.length_reverse, HN1.out]
  have HS3 : Hid (Mm.SepF [] w w2 [Mm.tsl rStart 123 own (.slice A1 n1 c1) fp1]) := by have := HS2.out; rw [hown] at this; exact this
  clear hown HS1 HS2 KS0
  go_loopg [19] n1 (fun g i wr => ∃ k : Nat, n1 - k ≤ g ∧ k ≤ n1 ∧ i = .int .i64 k ∧ Hid (∀ (i : Nat) x, i < k → own[i]? = some x → Pl.hasEp b x.Epoch = false) ∧ Hid (Mm.SepF [] w wr [Mm.tsl rStart 123 own (.slice A1 n1 c1) fp1]))
  case atStart => exact ⟨0, Nat.le_refl _, Nat.zero_le _, rfl, Lib.hid (fun j y hj => absurd hj (Nat.not_lt_zero _)), HS3.out⟩
  case round =>
    obtain ⟨k, hgk, hk, rfl, HA, HS⟩ := hrel
    obtain ⟨W, rfl⟩ : ∃ W : World, W = wr := ⟨_, rfl⟩
    have hbel := HS.out.bel0
    clear HS3
    by_cases hlt : k < n1
    · obtain ⟨s, b0, off, hx, rfl, hb, i1, i2, e0, e1⟩ := rStart_get ((HS.out.sl 0 rfl).weak (HS.out.sl 0 rfl).olt) hlt
      have HX := Lib.hid hx
      obtain ⟨gn, hgn⟩ : ∃ gn, W.heap.size = gn := ⟨_, rfl⟩
      obtain ⟨W1, hW1⟩ : ∃ W1, W.alloc (.cells #[.int .i64 s.Epoch, .int .i64 s.At] 123) = W1 := ⟨_, rfl⟩
      have HS1 := Lib.hid ((HS.out.alloc' hgn 123 [.int .i64 s.Epoch, .int .i64 s.At]).atW hW1)
      have f2 : (0 : Int) ≤ (k : Nat) := by omega
      have f3 : ((k : Nat) : Int).toNat = k := by omega
      have f4 : (k : Int) < n1 := by omega
      clear hx i1 i2
      have c0 := HS1.out.cell (k := 0) 0 rfl rfl
      have hz1 := HS1.out.chg.size
      have hl1 := (HS1.out.blk 0 rfl).1
      have CF := fpFind_c s gn (Pl.starts b) A' n' c' W1 B c0 hl1 (HBL.out.keep fun b hb => HS1.out.bel0.block b (by omega)) (by omega)
      go_upto_if 28 with (go_at_call 126; (with_reducible refine CF.mono ?_); clear CF; rintro e w3 ⟨i0, rfl, hfd, hb3⟩; (have HS2 := Lib.hid (HS1.out.step hb3)); clear hb3)
      clear hW1 e0 e1 c0
      rcases hfd with ⟨rfl, hall⟩ | ⟨q, x0, rfl, hx0, he0⟩
      · have HN : Hid (∀ (i : Nat) x, i < k + 1 → own[i]? = some x → Pl.hasEp b x.Epoch = false) := Lib.hid (fun i x hi hx => by
          rcases Nat.lt_succ_iff_lt_or_eq.1 hi with h1 | rfl
          · exact HA.out i x h1 hx
          · rw [HX.out] at hx; injection hx with hx; rw [← hx]; exact Pl.hasEp_starts hall)
        clear hall
        go_wp2
        go_roundg (n1 - (k + 1))
        case measure => omega
        case rel => exact ⟨k + 1, Nat.le_refl _, by omega, by go_num, HN.out, HS2.out.sel [1] (by decide) rfl⟩
      · have hqn : q < n' := by have := (List.getElem?_eq_some_iff.1 hx0).1; have := HBN.out; omega
        have HF : Hid (Pl.ffind a b = min (Pl.fend a s.Epoch) (Pl.fend b s.Epoch)) := Lib.hid (Pl.ffind_hit (by rw [HOW.out]; exact HX.out) (fun i x hi hx => HA.out i x hi (by rw [← HOW.out]; exact hx)) (by rw [← he0]; exact Pl.hasEp_starts' hx0))
        have hnext := Pl.starts_next HR.out.2 hx0
        rw [he0] at hnext
        have HNX := Lib.hid hnext
        have hz2 := HS2.out.chg.size
        have CE := endOfEpoch_c a s.Epoch A n c w3 B (HAL.out.keep fun b hb => HS2.out.bel0.block b (by omega))
        have hfb := Pl.fend_le b s.Epoch
        have hfa : Pl.fend a s.Epoch ≤ n := by have := Pl.fend_le a s.Epoch; have := HAN.out; omega
        obtain ⟨u, hu⟩ : ∃ u, Pl.fend b s.Epoch = u := ⟨_, rfl⟩
        obtain ⟨v, hv⟩ : ∃ v, Pl.fend a s.Epoch = v := ⟨_, rfl⟩
        rw [hu] at HNX HF hfb
        rw [hv] at HF CE hfa
        have c0 := HS2.out.cell (k := 0) 0 rfl rfl
        have f5 : ¬ ((q : Int) < 0) := by omega
        have f6 : IntKind.i64.wrap ((q : Int) + 1) = (q : Int) + 1 := IntWalk.i64_in _ (by omega)
        clear hx0 he0 hnext hu hv
        by_cases hq : q + 1 < n'
        · obtain ⟨x1, b1, off1, hx1, rfl, hb1', j1, j2, e3, e4⟩ := rStart_get (HBL.out.keep (w' := w3) fun b hb => HS2.out.bel0.block b (by omega)) hq
          have hAt : x1.At = u := HNX.out.1 x1 hx1
          have f7 : (0 : Int) ≤ (q : Int) + 1 := by omega
          have f8 : ((q : Int) + 1).toNat = q + 1 := by omega
          have f9 : (q : Int) + 1 < n' := by omega
          rw [hAt] at e4
          clear hx1 j1 j2 hAt
          go_wp2_with (go_at_call 130; (with_reducible refine CE.mono ?_); clear CE; rintro e w4 ⟨rfl, rfl⟩)
          all_goals
            go_ret2
            exact ⟨(k : Int) + 1, by rw [HF.out, show ((min v u : Nat) : Int) = min (v : Int) u by omega]; rfl, HS2.out.bel0⟩
        · have hbu : Hid (b.length = u) := HNX.out.2 (by rw [HBN.out]; omega)
          have f9 : ¬ ((q : Int) + 1 < n') := by omega
          rw [hbu.out]
          go_wp2_with (go_at_call 130; (with_reducible refine CE.mono ?_); clear CE; rintro e w4 ⟨rfl, rfl⟩)
          all_goals
            go_ret2
            exact ⟨(k : Int) + 1, by rw [HF.out, show ((min v u : Nat) : Int) = min (v : Int) u by omega]; rfl, HS2.out.bel0⟩
    · obtain rfl : k = n1 := by omega
      have HF : Hid (Pl.ffind a b = 0) := Lib.hid (Pl.ffind_none fun i x hx => by
        rw [HOW.out] at hx
        exact HA.out i x (by have := (List.getElem?_eq_some_iff.1 hx).1; have := HOL.out; omega) hx)
      go_wp2
      go_ret2
      exact ⟨(k : Int), by rw [HF.out]; rfl, HS.out.bel0⟩
set_option maxRecDepth 100000 in
set_option maxHeartbeats 2000000 in
theorem l7Find_c (a b : List Entry) (A : Option Addr) (n c : Nat) (A' : Option Addr) (n' c' : Nat) (w : World) (B : Nat) (ha : Mm.SlAt rEntry w B a A n c) (hb : Mm.SlAt rStart w B (Pl.starts b) A' n' c') (hB : B ≤ w.heap.size) (hn : n ≤ 1000) (hra : Pl.Ris a) (hrb : Pl.Ris b) (hbl : b.length ≤ 1000) :
    Calls Try.prog 119 #[.slice A n c, .slice A' n' c', .int .i64 (b.length : Nat)] w (FindAns a b w) := by
  have hn' : n' ≤ 1000 := by have h1 := hb.1; have h2 := Pl.startsTo_len b b.length; unfold Pl.starts at h1; omega
  have HAL := Lib.hid ha
  have HBL := Lib.hid hb
  have HAN : Hid (a.length = n) := ha.1
  have HBN : Hid ((Pl.starts b).length = n') := hb.1
  have HR := Lib.hid (And.intro hra hrb)
  have CS := l7Starts_c a A n c w B ha hB hn
  have KS0 := Lib.hid (Mm.SepF.start w)
  clear ha hb hra hrb
  go_enter Try.func119, Try.ntmps119
  go_upto_region 2 with (go_at_call 120; (with_reducible refine CS.mono ?_); clear CS; rintro e w1 ⟨A1, n1, c1, fp1, rfl, ho, hnd, hnew, hb1⟩; (have HS1 := Lib.hid (KS0.out.add hb1 (t := Mm.tsl rStart 123 (Pl.starts a) (.slice A1 n1 c1) fp1) ho hnd hnew)); clear ho hnd hnew hb1)
  have HN1 : Hid ((Pl.starts a).length = n1) := by obtain ⟨_, _, _, hv, q1, _⟩ := (HS1.out.sl 0 rfl).form; injection hv with _ q2 _; exact (q2.trans q1).symm
  have hn1 : n1 ≤ 1000 := by have h1 := HN1.out; have h2 := Pl.startsTo_len a a.length; have h3 := HAN.out; unfold Pl.starts at h1; omega
  have f0 : IntKind.i64.wrap ((n1 : Int) - 1) = (n1 : Int) - 1 := IntWalk.i64_in _ (by omega)
  clear KS0
  go_wp2
  clear f0
  go_loopg [9, 10] n1 (fun g lk i wr => ∃ k : Nat, n1 - k ≤ g ∧ k ≤ n1 ∧ lk = .int .i64 k ∧ i = .int .i64 ((n1 : Int) - 1 - k) ∧ Hid (∀ (i : Nat) x, i < k → (Pl.starts a).reverse[i]? = some x → Pl.hasEp b x.Epoch = false) ∧ Hid (Mm.SepF [] w wr [Mm.tsl rStart 123 (Pl.starts a) (.slice A1 n1 c1) fp1]))
  case atStart => exact ⟨0, Nat.le_refl _, Nat.zero_le _, rfl, by go_num, Lib.hid (fun j y hj => absurd hj (Nat.not_lt_zero _)), HS1.out⟩
  case round =>
    obtain ⟨k, hgk, hk, rfl, rfl, HA, HS⟩ := hrel
    obtain ⟨wo, rfl⟩ : ∃ wo : World, wo = wr := ⟨_, rfl⟩
    clear HS1
    by_cases hlt : k < n1
    · obtain ⟨j, hj⟩ : ∃ j, n1 - 1 - k = j := ⟨_, rfl⟩
      have hjn : j < n1 := by omega
      have f1 : ((n1 : Int) - 1 - k) = (j : Int) := by omega
      obtain ⟨s, b0, off, hx, rfl, hb, i1, i2, e0, e1⟩ := rStart_get ((HS.out.sl 0 rfl).weak (HS.out.sl 0 rfl).olt) hjn
      have HX : Hid ((Pl.starts a).reverse[k]? = some s) := Lib.hid (by rw [List.getElem?_reverse (by rw [HN1.out]; omega), HN1.out, hj]; exact hx)
      have f2 : (0 : Int) ≤ (j : Nat) := by omega
      have f3 : ((j : Nat) : Int).toNat = j := by omega
      have f4 : (j : Int) < n1 := by omega
      have f5 : IntKind.i64.wrap ((k : Int) + 1) = (k : Int) + 1 := IntWalk.i64_in _ (by omega)
      have HJ := Lib.hid hj
      rw [f1]
      clear hx i1 i2 hj f1
      obtain ⟨go, rfl⟩ : ∃ go : Nat, go = gk := ⟨_, rfl⟩
      go_wp2
      go_loopg [28] n' (fun g i wr => ∃ q : Nat, n' - q ≤ g ∧ q ≤ n' ∧ i = .int .i64 q ∧ Hid (∀ (t : Nat) x, t < q → (Pl.starts b)[t]? = some x → x.Epoch ≠ s.Epoch) ∧ Hid (Mm.SepF [] w wr [Mm.tsl rStart 123 (Pl.starts a) (.slice (some ⟨b0, off, none⟩) n1 c1) fp1]))
      case atStart => exact ⟨0, Nat.le_refl _, Nat.zero_le _, rfl, Lib.hid (fun j y hj => absurd hj (Nat.not_lt_zero _)), HS.out⟩
      case round =>
        obtain ⟨q, hgq, hq, rfl, HQ, HT⟩ := hrel
        obtain ⟨W, rfl⟩ : ∃ W : World, W = wr := ⟨_, rfl⟩
        have hbel := HT.out.bel0
        clear e0 e1 hb HS
        by_cases hlq : q < n'
        · obtain ⟨x, bb, off2, hx2, rfl, hbb, j1, j2, d0, d1⟩ := rStart_get (HBL.out.keep (w' := W) fun b hb => hbel.block b (by omega)) hlq
          have HX2 := Lib.hid hx2
          obtain ⟨s', hs', e0, e1⟩ : ∃ s' : Start, (Pl.starts a)[j]? = some s' ∧ W.cell? ⟨b0, off + j * 2, none⟩ = some (.int .i64 s'.Epoch) ∧ W.cell? ⟨b0, off + j * 2 + 1, none⟩ = some (.int .i64 s'.At) := by
            obtain ⟨s', q1, _, _, _, q2, q3⟩ := rStart_get' ((HT.out.sl 0 rfl).weak (HT.out.sl 0 rfl).olt) hjn
            exact ⟨s', q1, q2, q3⟩
          obtain rfl : s' = s := by
            have h5 := HX.out
            rw [List.getElem?_reverse (by rw [HN1.out]; omega), HN1.out, HJ.out, hs'] at h5
            injection h5
          obtain ⟨gn, hgn⟩ : ∃ gn, W.heap.size = gn := ⟨_, rfl⟩
          obtain ⟨W1, hW1⟩ : ∃ W1, W.alloc (.cells #[.int .i64 x.Epoch, .int .i64 x.At] 123) = W1 := ⟨_, rfl⟩
          have HS1 := Lib.hid ((HT.out.alloc' hgn 123 [.int .i64 x.Epoch, .int .i64 x.At]).atW hW1)
          have g2 : (0 : Int) ≤ (q : Nat) := by omega
          have g3 : ((q : Nat) : Int).toNat = q := by omega
          have g4 : (q : Int) < n' := by omega
          have hb1 : Below W.heap.size W W1 := by rw [← hW1]; exact below_new (Below.refl _ _) _
          replace e0 := below_some hb1 e0
          replace e1 := below_some hb1 e1
          clear hx2 j1 j2 hs' hb1
          go_wp2
          clear hW1 d0 d1
          have c0 := HS1.out.cell (k := 0) 0 rfl rfl
          refine wp_region_und (by kernel_rfl) (by kernel_rfl) ?_
          repeat (go_big_quiet_step ((first | fail)))
          refine wpQuiet_nil ?_
          intro X hX
          have HS2 := Lib.hid (HS1.out.step hX)
          clear c0 e0 e1
          by_cases heq : x.Epoch = s'.Epoch
          · have HF : Hid (Pl.ffind a b = min (Pl.fend a s'.Epoch) (Pl.fend b s'.Epoch)) := Lib.hid (Pl.ffind_hit HX.out HA.out (by rw [← heq]; exact Pl.hasEp_starts' HX2.out))
            have hnext := Pl.starts_next HR.out.2 HX2.out
            rw [heq] at hnext
            have HNX := Lib.hid hnext
            have hz2 := HS2.out.chg.size
            have CE := l7End_c a s'.Epoch A n c X B (HAL.out.keep fun b hb => HS2.out.bel0.block b (by omega)) (by omega) HR.out.1
            have hfb := Pl.fend_le b s'.Epoch
            have hfa : Pl.fend a s'.Epoch ≤ n := by have := Pl.fend_le a s'.Epoch; have := HAN.out; omega
            obtain ⟨u, hu⟩ : ∃ u, Pl.fend b s'.Epoch = u := ⟨_, rfl⟩
            obtain ⟨v, hv⟩ : ∃ v, Pl.fend a s'.Epoch = v := ⟨_, rfl⟩
            rw [hu] at HNX HF hfb
            rw [hv] at HF CE hfa
            have c0 := HS2.out.cell (k := 0) 0 rfl rfl
            have f7 : (x.Epoch != s'.Epoch) = false := by simpa using heq
            have f6 : IntKind.i64.wrap ((q : Int) + 1) = (q : Int) + 1 := IntWalk.i64_in _ (by omega)
            rw [heq] at c0
            clear heq hnext hu hv
            by_cases hq1 : q + 1 < n'
            · obtain ⟨x1, b1, off1, hx1, hA1, hb1', k1, k2, e3, e4⟩ := rStart_get (HBL.out.keep (w' := X) fun b hb => HS2.out.bel0.block b (by omega)) hq1
              injection hA1 with hA1
              injection hA1 with hA1 hA2
              subst hA1 hA2
              have hAt : x1.At = u := HNX.out.1 x1 hx1
              have f8 : (0 : Int) ≤ (q : Int) + 1 := by omega
              have f9 : ((q : Int) + 1).toNat = q + 1 := by omega
              have f10 : (q : Int) + 1 < n' := by omega
              rw [hAt] at e4
              clear hx1 k1 k2 hAt
              by_cases huv : v < u
              · have f11 : (v : Int) < u := by omega
                go_wp2_with (go_at_call 132; (with_reducible refine CE.mono ?_); clear CE; rintro e w4 ⟨rfl, hb4⟩)
                go_ret2
                exact ⟨(k : Int) + 1, by rw [HF.out, Nat.min_eq_left (by omega)]; rfl, below_step HS2.out.bel0 hb4⟩
              · have f11 : ¬ (v : Int) < u := by omega
                go_wp2_with (go_at_call 132; (with_reducible refine CE.mono ?_); clear CE; rintro e w4 ⟨rfl, hb4⟩)
                go_ret2
                exact ⟨(k : Int) + 1, by rw [HF.out, Nat.min_eq_right (by omega)]; rfl, below_step HS2.out.bel0 hb4⟩
            · have hbu : Hid (b.length = u) := HNX.out.2 (by rw [HBN.out]; omega)
              have f9 : ¬ ((q : Int) + 1 < n') := by omega
              rw [hbu.out]
              by_cases huv : v < u
              · have f11 : (v : Int) < u := by omega
                go_wp2_with (go_at_call 132; (with_reducible refine CE.mono ?_); clear CE; rintro e w4 ⟨rfl, hb4⟩)
                go_ret2
                exact ⟨(k : Int) + 1, by rw [HF.out, Nat.min_eq_left (by omega)]; rfl, below_step HS2.out.bel0 hb4⟩
              · have f11 : ¬ (v : Int) < u := by omega
                go_wp2_with (go_at_call 132; (with_reducible refine CE.mono ?_); clear CE; rintro e w4 ⟨rfl, hb4⟩)
                go_ret2
                exact ⟨(k : Int) + 1, by rw [HF.out, Nat.min_eq_right (by omega)]; rfl, below_step HS2.out.bel0 hb4⟩
          · have HN : Hid (∀ (t : Nat) x, t < q + 1 → (Pl.starts b)[t]? = some x → x.Epoch ≠ s'.Epoch) := Lib.hid (fun t y ht hy => by
              rcases Nat.lt_succ_iff_lt_or_eq.1 ht with h1 | rfl
              · exact HQ.out t y h1 hy
              · rw [HX2.out] at hy; injection hy with hy; rw [← hy]; exact heq)
            have f7 : (x.Epoch != s'.Epoch) = true := by simpa using heq
            clear heq
            go_wp2
            go_roundg (n' - (q + 1))
            case measure => omega
            case rel => exact ⟨q + 1, Nat.le_refl _, by omega, by go_num, HN.out, HS2.out.sel [1] (by decide) rfl⟩
        · have HN : Hid (∀ (i : Nat) x, i < k + 1 → (Pl.starts a).reverse[i]? = some x → Pl.hasEp b x.Epoch = false) := Lib.hid (fun i x hi hx => by
            rcases Nat.lt_succ_iff_lt_or_eq.1 hi with h1 | rfl
            · exact HA.out i x h1 hx
            · rw [HX.out] at hx; injection hx with hx; rw [← hx]
              exact Pl.hasEp_starts fun t y hy => HQ.out t y (by have := (List.getElem?_eq_some_iff.1 hy).1; have := HBN.out; omega) hy)
          have f7 : IntKind.i64.wrap ((j : Int) - 1) = (j : Int) - 1 := IntWalk.i64_in _ (by omega)
          go_wp2
          go_roundg (n1 - (k + 1))
          case measure => omega
          case rel => exact ⟨k + 1, Nat.le_refl _, by omega, by go_num, (by have := HJ.out; go_num), HN.out, HT.out⟩
    · obtain rfl : k = n1 := by omega
      have HF : Hid (Pl.ffind a b = 0) := Lib.hid (Pl.ffind_none fun i x hx => HA.out i x (by have := (List.getElem?_eq_some_iff.1 hx).1; have h2 := HN1.out; rw [List.length_reverse] at this; omega) hx)
      have f1 : ((k : Int) - 1 - k) = -1 := by omega
      rw [f1]
      go_wp2
      go_ret2
      exact ⟨(k : Int), by rw [HF.out]; rfl, HS.out.bel0⟩
end Go.Proofs.Ytihendiakgfpcaa

/-
  Plain functions: a rising list of numbers: a number's place, put in, taken out. No program in sight. No conditions.
-/
namespace Go.Proofs.Ytihendiakgfpcaa
namespace Pl
/-- how many are below k -/
def ipos (l : List Int) (k : Int) : Nat := (l.filter (fun x => decide (x < k))).length
theorem ipos_le (l : List Int) (k : Int) : ipos l k ≤ l.length := List.length_filter_le _ _
theorem ipos_split : ∀ (l : List Int) (k : Int), l.Pairwise (· < ·) → l.take (ipos l k) = l.filter (fun x => decide (x < k)) ∧ l.drop (ipos l k) = l.filter (fun x => decide (k ≤ x))
  | [], _, _ => by simp [ipos]
  | x :: t, k, h => by
    have h2 := List.pairwise_cons.1 h
    have ih := ipos_split t k h2.2
    by_cases hx : x < k
    · have e : ipos (x :: t) k = ipos t k + 1 := by unfold ipos; simp [hx]
      rw [e, List.take_succ_cons, List.drop_succ_cons, ih.1, ih.2]
      simp [hx]
    · have e0 : t.filter (fun x => decide (x < k)) = [] := by
        rw [List.filter_eq_nil_iff]
        intro y hy
        have := h2.1 y hy
        simp; omega
      have e : ipos (x :: t) k = 0 := by unfold ipos; simp [hx, e0]
      have e1 : t.filter (fun x => decide (k ≤ x)) = t := by
        rw [List.filter_eq_self]
        intro y hy
        have := h2.1 y hy
        simp; omega
      rw [e]
      refine ⟨?_, ?_⟩
      · rw [List.filter_cons_of_neg (by simpa using hx), e0]; rfl
      · rw [List.filter_cons_of_pos (by simpa using hx), e1]; rfl
theorem ipos_lt {l : List Int} {k : Int} (h : l.Pairwise (· < ·)) {i : Nat} {x : Int} (hx : l[i]? = some x) : i < ipos l k ↔ x < k := by
  obtain ⟨e1, e2⟩ := ipos_split l k h
  constructor
  · intro hi
    have : (l.take (ipos l k))[i]? = some x := by rw [List.getElem?_take, if_pos hi]; exact hx
    rw [e1] at this
    simpa using (List.mem_filter.1 (List.mem_of_getElem? this)).2
  · intro hk
    apply Classical.byContradiction
    intro hn
    have : (l.drop (ipos l k))[i - ipos l k]? = some x := by rw [List.getElem?_drop, show ipos l k + (i - ipos l k) = i by omega]; exact hx
    rw [e2] at this
    have := (List.mem_filter.1 (List.mem_of_getElem? this)).2
    simp at this
    omega
theorem ipos_of {l : List Int} {k : Int} (h : l.Pairwise (· < ·)) {p : Nat} (hp : p ≤ l.length) (h1 : ∀ i x, i < p → l[i]? = some x → x < k) (h2 : ∀ x, l[p]? = some x → k ≤ x) : ipos l k = p := by
  rcases Nat.lt_trichotomy (ipos l k) p with hq | hq | hq
  · have hx := List.getElem?_eq_getElem (show ipos l k < l.length by omega)
    have := (ipos_lt (k := k) h hx).2 (h1 _ _ hq hx)
    omega
  · exact hq
  · have := ipos_le l k
    have hx := List.getElem?_eq_getElem (show p < l.length by omega)
    have h3 := (ipos_lt (k := k) h hx).1 hq
    have := h2 _ hx
    omega
theorem mem_ipos {l : List Int} {k : Int} (h : l.Pairwise (· < ·)) : k ∈ l ↔ l[ipos l k]? = some k := by
  constructor
  · intro hk
    obtain ⟨i, hi⟩ := List.mem_iff_getElem?.1 hk
    have h1 : ¬ i < ipos l k := fun hh => by have := (ipos_lt (k := k) h hi).1 hh; omega
    by_cases e : i = ipos l k
    · rw [← e]; exact hi
    · have hl := (List.getElem?_eq_some_iff.1 hi).1
      have hx := List.getElem?_eq_getElem (show ipos l k < l.length by omega)
      have h2 : ¬ l[ipos l k]'(by omega) < k := fun hh => by have := (ipos_lt (k := k) h hx).2 hh; omega
      have h3 := List.pairwise_iff_getElem.1 h (ipos l k) i (by omega) hl (by omega)
      rw [(List.getElem?_eq_some_iff.1 hi).2] at h3
      omega
  · exact fun hk => List.mem_of_getElem? hk
theorem insI_at {l : List Int} {k : Int} (h : l.Pairwise (· < ·)) (hk : k ∉ l) : l.take (ipos l k) ++ k :: l.drop (ipos l k) = insI l k := by
  obtain ⟨e1, e2⟩ := ipos_split l k h
  rw [e1, e2]
  unfold insI
  congr 2
  apply List.filter_congr
  intro x hx
  have hne : x ≠ k := fun e => hk (e ▸ hx)
  rw [decide_eq_decide]
  omega
theorem outI_at {l : List Int} {k : Int} (h : l.Pairwise (· < ·)) (hk : k ∈ l) : l.eraseIdx (ipos l k) = outI l k := by
  obtain ⟨e1, e2⟩ := ipos_split l k h
  have h3 := (mem_ipos h).1 hk
  have hl := (List.getElem?_eq_some_iff.1 h3).1
  rw [List.eraseIdx_eq_take_drop_succ, e1]
  have e3 : l.drop (ipos l k + 1) = l.filter (fun x => decide (k < x)) := by
    have : l.drop (ipos l k + 1) = (l.filter (fun x => decide (k ≤ x))).drop 1 := by rw [← e2, List.drop_drop]
    rw [this]
    have h4 : l.filter (fun x => decide (k ≤ x)) = k :: (l.filter (fun x => decide (k ≤ x))).drop 1 := by
      have : (l.filter (fun x => decide (k ≤ x)))[0]? = some k := by rw [← e2, List.getElem?_drop]; exact h3
      cases hf : l.filter (fun x => decide (k ≤ x)) with
      | nil => rw [hf] at this; cases this
      | cons a t => rw [hf] at this; simp at this; rw [this]; rfl
    have hp := h.filter (fun x => decide (k ≤ x))
    rw [h4] at hp
    have h5 := (List.pairwise_cons.1 hp).1
    have h6 : (l.filter (fun x => decide (k ≤ x))).filter (fun x => decide (k < x)) = l.filter (fun x => decide (k < x)) := by
      rw [List.filter_filter]
      apply List.filter_congr
      intro x _
      simp; omega
    rw [← h6]
    conv => rhs; rw [h4]
    rw [List.filter_cons_of_neg (by simp)]
    symm
    rw [List.filter_eq_self]
    intro y hy
    have := h5 y hy
    simpa using this
  rw [e3]
  unfold outI
  have key : ∀ m : List Int, m.Pairwise (· < ·) → m.filter (fun x => decide (x < k)) ++ m.filter (fun x => decide (k < x)) = m.filter (fun x => x != k) := by
    intro m
    induction m with
    | nil => intro _; rfl
    | cons a t ih =>
      intro hm
      have hm2 := List.pairwise_cons.1 hm
      have ih' := ih hm2.2
      by_cases h1 : a < k
      · rw [List.filter_cons_of_pos (by simpa using h1), List.filter_cons_of_neg (by simp; omega), List.filter_cons_of_pos (by simp; omega), List.cons_append, ih']
      · have e0 : t.filter (fun x => decide (x < k)) = [] := by
          rw [List.filter_eq_nil_iff]
          intro y hy
          have := hm2.1 y hy
          simp; omega
        rw [List.filter_cons_of_neg (by simpa using h1)]
        rw [e0] at ih' ⊢
        by_cases h2 : a = k
        · subst h2
          rw [List.filter_cons_of_neg (by simp), List.filter_cons_of_neg (by simp)]
          exact ih'
        · rw [List.filter_cons_of_pos (by simp; omega), List.filter_cons_of_pos (by simpa using h2)]
          rw [List.nil_append] at ih' ⊢
          rw [ih']
  exact key l h
end Pl
end Go.Proofs.Ytihendiakgfpcaa

/-
  slices.Insert at elements of several cells: the rows before and behind, and what an owned slice is then. No program in sight. No conditions.
-/
namespace Go.Proofs.Ytihendiakgfpcaa
open Go.RowKit
namespace Mm
section
variable {P : Program}
/-- copy, at elements of s cells: all is read before anything is written -/
theorem run_copy_k (w : World) (dT sT ty elem : TypeId) (s b o dLen dCap : Nat) (a : Addr) (sLen sCap : Nat) (cs : List Value)
    (hu : P.underlying dT = some (.slice elem)) (hs : (P.info? elem).map (·.size) = some s) (hn : cs.length = Nat.min sLen dLen * s)
    (hsrc : ∀ j v, cs[j]? = some v → w.cell? (a.add j) = some v) (hc : ∀ j, j < cs.length → (w.cell? ⟨b, o + j, none⟩).isSome = true) (hf : ∀ j, j < cs.length → w.frozen? ⟨b, o + j, none⟩ = false) (h1 : ∀ v ∈ cs, v.oneCell' = true) :
    (Builtin.copy_ #[dT, sT] ty #[.slice (some ⟨b, o, none⟩) dLen dCap, .slice (some a) sLen sCap]).run P w = .ok (goInt (Nat.min sLen dLen)) (w.setCells b o cs) := by
  have hl := run_loadCells_list (P := P) w a cs hsrc
  have hst := run_storeCells_cells (P := P) b o cs 0 w (by simpa using hc) (by simpa using hf) h1
  cases hq : P.info? elem with
  | none => simp [hq] at hs
  | some i =>
    have hi : i.size = s := by simpa [hq] using hs
    simp [Builtin.copy_, run_underlying hu, Builtin.lenOf, Builtin.firstCells, sizeOf, typeInfo, hq, hi, ← hn, hl, hst]
end
theorem ins_rows {cur cells ct : List Value} {N K S : Nat} (ht : cur.take N = cells) (hl : cells.length = N) (hK : K ≤ N) (hS : ct.length = S) (hroom : N + S ≤ cur.length) :
    (setList (setList cur (K + S) (cells.drop K)) K ct).take (N + S) = cells.take K ++ ct ++ cells.drop K := by
  apply List.ext_getElem?
  intro j
  rw [List.getElem?_take]
  by_cases hj : j < N + S
  · rw [if_pos hj, setList_get _ _ _ _ (by rw [setList_len, hS]; omega), setList_get _ _ _ _ (by rw [List.length_drop, hl]; omega), List.length_drop, hl, hS]
    by_cases h1 : j < K
    · rw [if_neg (by omega), if_neg (by omega), List.append_assoc, List.getElem?_append_left (by rw [List.length_take, hl]; omega), List.getElem?_take, if_pos h1, ← ht, List.getElem?_take, if_pos (by omega)]
    · by_cases h2 : j < K + S
      · rw [if_pos ⟨by omega, h2⟩, List.append_assoc, List.getElem?_append_right (by rw [List.length_take, hl]; omega), List.length_take, hl, Nat.min_eq_left hK, List.getElem?_append_left (by omega)]
      · rw [if_neg (by omega), if_pos (by omega), List.getElem?_append_right (by rw [List.length_append, List.length_take, hl]; omega), List.length_append, List.length_take, hl, Nat.min_eq_left hK, hS]
  · rw [if_neg hj, List.getElem?_eq_none (by rw [List.length_append, List.length_append, List.length_take, List.length_drop, hl, hS]; omega)]
theorem ins_rows' {cur cells ct : List Value} {N K S : Nat} (ht : cur.take K = cells.take K) (hl : cells.length = N) (hK : K ≤ N) (hS : ct.length = S) (hroom : N + S ≤ cur.length) :
    (setList (setList cur K ct) (K + S) (cells.drop K)).take (N + S) = cells.take K ++ ct ++ cells.drop K := by
  apply List.ext_getElem?
  intro j
  rw [List.getElem?_take]
  by_cases hj : j < N + S
  · rw [if_pos hj, setList_get _ _ _ _ (by rw [setList_len, List.length_drop, hl]; omega), setList_get _ _ _ _ (by rw [hS]; omega), List.length_drop, hl, hS]
    by_cases h1 : j < K
    · have h2 : cur[j]? = (cells.take K)[j]? := by rw [← ht, List.getElem?_take, if_pos h1]
      rw [if_neg (by omega), if_neg (by omega), List.append_assoc, List.getElem?_append_left (by rw [List.length_take, hl]; omega), h2]
    · by_cases h2 : j < K + S
      · rw [if_neg (by omega), if_pos ⟨by omega, h2⟩, List.append_assoc, List.getElem?_append_right (by rw [List.length_take, hl]; omega), List.length_take, hl, Nat.min_eq_left hK, List.getElem?_append_left (by omega)]
      · rw [if_pos (by omega), List.getElem?_append_right (by rw [List.length_append, List.length_take, hl]; omega), List.length_append, List.length_take, hl, Nat.min_eq_left hK, hS]
  · rw [if_neg hj, List.getElem?_eq_none (by rw [List.length_append, List.length_append, List.length_take, List.length_drop, hl, hS]; omega)]
/-- one element among the others, at k -/
def insertAt {α : Type} (l : List α) (k : Nat) (x : α) : List α := l.take k ++ x :: l.drop k
theorem insertAt_len {α : Type} (l : List α) (k : Nat) (x : α) : (insertAt l k x).length = l.length + 1 := by
  unfold insertAt
  rw [List.length_append, List.length_cons, ← List.take_append_drop k l, List.length_append]
  simp; omega
theorem insertAt_map {α β : Type} (f : α → β) (l : List α) (k : Nat) (x : α) : (insertAt l k x).map f = insertAt (l.map f) k (f x) := by
  unfold insertAt
  rw [List.map_append, List.map_take, List.map_cons, List.map_drop]
theorem rowsMap_take {β γ : Type} (f : β → List γ) (s : Nat) : ∀ (l : List β) (k : Nat), (∀ y ∈ l, (f y).length = s) → (l.take k).flatMap f = (l.flatMap f).take (k * s)
  | [], k, _ => by simp
  | z :: t, 0, _ => by simp
  | z :: t, k + 1, h => by
    have hz := h z (by simp)
    have e0 : (k + 1) * s = s + k * s := by rw [Nat.add_mul]; omega
    have e1 : (f z).take (s + k * s) = f z := List.take_of_length_le (by omega)
    rw [List.take_succ_cons, List.flatMap_cons, List.flatMap_cons, rowsMap_take f s t k (fun y hy => h y (by simp [hy])), List.take_append, hz, e0, e1, Nat.add_sub_cancel_left]
theorem rowsMap_drop {β γ : Type} (f : β → List γ) (s : Nat) : ∀ (l : List β) (k : Nat), (∀ y ∈ l, (f y).length = s) → (l.drop k).flatMap f = (l.flatMap f).drop (k * s)
  | [], k, _ => by simp
  | z :: t, 0, _ => by simp
  | z :: t, k + 1, h => by
    have hz := h z (by simp)
    have e0 : (k + 1) * s = s + k * s := by rw [Nat.add_mul]; omega
    have e1 : (f z).drop (s + k * s) = [] := List.drop_of_length_le (by omega)
    rw [List.drop_succ_cons, List.flatMap_cons, rowsMap_drop f s t k (fun y hy => h y (by simp [hy])), List.drop_append, hz, e0, e1, Nat.add_sub_cancel_left, List.nil_append]
theorem insertAt_flat {β γ : Type} (f : β → List γ) (s : Nat) (l : List β) (k : Nat) (x : β) (h : ∀ y ∈ l, (f y).length = s) : (insertAt l k x).flatMap f = (l.flatMap f).take (k * s) ++ f x ++ (l.flatMap f).drop (k * s) := by
  unfold insertAt
  rw [List.flatMap_append, List.flatMap_cons, rowsMap_take f s l k h, rowsMap_drop f s l k h, List.append_assoc]
theorem insertAt_get {α : Type} {l : List α} {k i : Nat} {x y : α} (hk : k ≤ l.length) (h : (insertAt l k x)[i]? = some y) : (i < k ∧ l[i]? = some y) ∨ (i = k ∧ y = x) ∨ (k < i ∧ l[i - 1]? = some y) := by
  unfold insertAt at h
  by_cases h1 : i < k
  · rw [List.getElem?_append_left (by rw [List.length_take]; omega), List.getElem?_take, if_pos h1] at h
    exact .inl ⟨h1, h⟩
  · rw [List.getElem?_append_right (by rw [List.length_take]; omega), List.length_take, Nat.min_eq_left hk] at h
    by_cases h2 : i = k
    · subst h2
      rw [Nat.sub_self] at h
      exact .inr (.inl ⟨rfl, by simpa using h.symm⟩)
    · rw [show i - k = (i - k - 1) + 1 by omega, List.getElem?_cons_succ, List.getElem?_drop, show k + (i - k - 1) = i - 1 by omega] at h
      exact .inr (.inr ⟨by omega, h⟩)
theorem insertAt_perm {α : Type} (l : List α) (k : Nat) (x : α) : (insertAt l k x).Perm (x :: l) := by
  unfold insertAt
  refine (List.perm_middle).trans ?_
  rw [List.take_append_drop]
section
variable {α : Type} {E : Rep α} {e : TypeId} {w w' : World} {xs : List α} {v v' : Value} {fp : List Nat}
/-- slices.Insert(out, k, x): what its law asks, and what its answer is worth -/
theorem SlOwn.insert (h : SlOwn E e w xs v fp) {k : Nat} (hk : k ≤ xs.length) {x : α} {cx : List Value} {fx : List Nat} (hx : E.own w x cx fx) (hnd : fp.Nodup) (hxd : fx.Nodup) (hdis : ∀ b, b ∈ fx → b ∉ fp) :
    ∃ l, w.ownsRow 0 e E.size v xs.length l ∧ (∀ u ∈ l, u.oneCell' = true) ∧ ∀ v' w', w'.ownsRow 0 e E.size v' (xs.length + 1) (l.take (k * E.size) ++ cx ++ l.drop (k * E.size)) → w.grownBy w' v.ownBlock → (v'.ownBlock = v.ownBlock ∨ ∀ g, v'.ownBlock = some g → w.heap.size ≤ g) →
      ∃ fp', SlOwn E e w' (insertAt xs k x) v' fp' ∧ fp'.Nodup ∧ ∀ b, b ∈ fp' → b ∈ fp ∨ b ∈ fx ∨ w.heap.size ≤ b := by
  have hlt := h.olt
  have hxlt := E.olt hx
  obtain ⟨es, he, ho, rfl⟩ := h
  refine ⟨_, ho, fun u hu => ?_, fun v' w' ho' hg hat => ?_⟩
  · obtain ⟨y, hy, hu⟩ := List.mem_flatMap.1 hu
    obtain ⟨z, _, hz⟩ := he.mem hy
    exact E.one hz u hu
  have hkeep : ∀ b, b ∈ es.flatMap (·.2) → w'.heap[b]? = w.heap[b]? := fun b hb => hg.block b (hlt b (List.mem_append_right _ hb)) (fun hv => by
    rw [List.nodup_append] at hnd
    exact hnd.2.2 b (by rw [← hv]; simp) b hb rfl)
  have hkx : ∀ b, b ∈ fx → w'.heap[b]? = w.heap[b]? := fun b hb => hg.block b (hxlt b hb) (fun hv => hdis b hb (List.mem_append_left _ (by rw [← hv]; simp)))
  have hke : k ≤ es.length := by rw [he.1]; exact hk
  have hp : ((insertAt es k (cx, fx)).flatMap (·.2)).Perm (fx ++ es.flatMap (·.2)) := by
    have := (insertAt_perm es k (cx, fx)).flatMap_right (fun y => y.2)
    rwa [List.flatMap_cons] at this
  refine ⟨_, ⟨insertAt es k (cx, fx), ⟨by rw [insertAt_len, insertAt_len, he.1], fun i y z hy hz => ?_⟩, ?_, rfl⟩, ?_, ?_⟩
  · rcases insertAt_get hk hy with ⟨h1, h2⟩ | ⟨h1, h2⟩ | ⟨h1, h2⟩
    · rcases insertAt_get hke hz with ⟨g1, g2⟩ | ⟨g1, g2⟩ | ⟨g1, g2⟩
      · exact E.okeep (he.2 i y z h2 g2) fun b hb => hkeep b (List.mem_flatMap.2 ⟨z, List.mem_of_getElem? g2, hb⟩)
      · omega
      · omega
    · rcases insertAt_get hke hz with ⟨g1, g2⟩ | ⟨g1, g2⟩ | ⟨g1, g2⟩
      · omega
      · subst h2; subst g2
        exact E.okeep hx hkx
      · omega
    · rcases insertAt_get hke hz with ⟨g1, g2⟩ | ⟨g1, g2⟩ | ⟨g1, g2⟩
      · omega
      · omega
      · exact E.okeep (he.2 _ y z h2 g2) fun b hb => hkeep b (List.mem_flatMap.2 ⟨z, List.mem_of_getElem? g2, hb⟩)
  · rw [insertAt_len, insertAt_flat (·.1) E.size es k (cx, fx) he.len]
    exact ho'
  · have hvn : ∀ b, b ∈ v'.ownBlock.toList → b ∉ es.flatMap (·.2) ∧ b ∉ fx := fun b hb => by
      rcases hat with hat | hat
      · rw [hat] at hb
        rw [List.nodup_append] at hnd
        exact ⟨fun hm => hnd.2.2 b hb b hm rfl, fun hm => hdis b hm (List.mem_append_left _ hb)⟩
      · have hb' := hat b (by simpa using hb)
        exact ⟨fun hm => by have := hlt _ (List.mem_append_right _ hm); omega, fun hm => by have := hxlt _ hm; omega⟩
    have h1 : v'.ownBlock.toList.Nodup := by cases v'.ownBlock <;> simp
    rw [List.nodup_append] at hnd ⊢
    refine ⟨h1, ?_, fun a ha b hb hab => ?_⟩
    · rw [hp.nodup_iff, List.nodup_append]
      exact ⟨hxd, hnd.2.1, fun a ha b hb hab => by
        subst hab
        exact hdis a ha (List.mem_append_right _ hb)⟩
    · subst hab
      rcases List.mem_append.1 (hp.mem_iff.1 hb) with hb | hb
      · exact (hvn a ha).2 hb
      · exact (hvn a ha).1 hb
  · intro b hb
    rcases List.mem_append.1 hb with hb | hb
    · rcases hat with hat | hat
      · rw [hat] at hb
        exact .inl (List.mem_append_left _ hb)
      · exact .inr (.inr (hat b (by simpa using hb)))
    · rcases List.mem_append.1 (hp.mem_iff.1 hb) with hb | hb
      · exact .inr (.inl hb)
      · exact .inl (List.mem_append_right _ hb)
end
section
variable {F : List Nat} {w0 wr W2 : World} {ts : List Thing} {s : Thing} {i j : Nat} {α : Type} {E : Rep α} {e : TypeId} {xs : List α} {v : Value} {fp : List Nat} {x : α} {cx : List Value}
/-- slices.Insert, the new element a thing of the list -/
theorem SepF.insert (h : SepF F w0 wr ts) (i j : Nat) (hij : i ≠ j) {k : Nat} (hi : ts[i]? = some (tsl E e xs v fp)) (hk : k ≤ xs.length) (hj : ts[j]? = some s) (hb : Below wr.heap.size wr W2) (hx : ∀ W, s.holds W → E.own W x cx s.fp) :
    ∃ l, W2.ownsRow 0 e E.size v xs.length l ∧ (∀ u ∈ l, u.oneCell' = true) ∧ ∀ v' w1, w1.ownsRow 0 e E.size v' (xs.length + 1) (l.take (k * E.size) ++ cx ++ l.drop (k * E.size)) → W2.grownBy w1 v.ownBlock → (v'.ownBlock = v.ownBlock ∨ ∀ g, v'.ownBlock = some g → W2.heap.size ≤ g) →
      ∃ fp', SepF F w0 w1 ((ts.set j tnil).set i (tsl E e (insertAt xs k x) v' fp')) := by
  have h2 := h.step hb
  have ho : SlOwn E e W2 xs v fp := h2.at_ i hi
  have hs := hx _ (h2.at_ j hj)
  obtain ⟨l, k1, k0, k2⟩ := ho.insert hk hs (h2.ndat hi) (h2.ndat hj) (fun b hb hm => h2.apart hi hj hij b hm hb)
  refine ⟨l, k1, k0, fun v' w1 g1 g2 g3 => ?_⟩
  obtain ⟨fp', m1, m2, m3⟩ := k2 v' w1 g1 g2 g3
  refine ⟨fp', h2.upd2 hij hi hj ?_ m1 m2 (fun b hb => ?_)⟩
  · exact ⟨g2.os, g2.tape, g2.output, g2.size, fun k hk hn => g2.block k hk (fun hh => hn (List.mem_append_left _ (row_in ho hh.symm)))⟩
  · rcases m3 b hb with h | h | h
    · exact .inl h
    · exact .inr (.inl h)
    · exact .inr (.inr (by omega))
end
end Mm
end Go.Proofs.Ytihendiakgfpcaa

/-
  Contracts: slices.Insert with one element, at ints; slices.Delete likewise. No conditions beyond those named.
-/
namespace Go.Proofs.Ytihendiakgfpcaa
open Go.RowKit
theorem Mm.Chg.grown {g : Nat} {w w' : World} (h : Mm.Chg [g] w w') : w.grownBy w' (some g) := ⟨h.os, h.tape, h.output, h.size, fun k hk hn => h.block k hk (fun hm => hn (by rw [List.mem_singleton.1 hm]))⟩
theorem Mm.Chg.grown0 {row : Option Nat} {w w' : World} (h : Below w.heap.size w w') : w.grownBy w' row := ⟨h.os, h.tape, h.output, h.size, fun k hk _ => h.block k hk⟩
theorem Mm.zeroCells_len (z : Array Value) (m : Nat) : (Builtin.zeroCells z m).size = m * z.size := by simp [Builtin.zeroCells]
theorem Try.infoInt1 : (Try.prog.info? 3).map (fun i => (i.zero, i.size, i.bytes)) = some (some (.int .i64 0), 1, 8) := by kernel_rfl
set_option maxRecDepth 100000 in
set_option maxHeartbeats 4000000 in
theorem insInt_c (cells ct : List Value) (n k vb : Nat) (A : Option Addr) (c : Nat) (w : World) (ho : w.ownsRow 0 3 1 (.slice A n c) n cells) (hk : k ≤ n) (hn : n ≤ 1000) (hct : ct.length = 1) (hvs : ∀ j u, ct[j]? = some u → w.cell? ⟨vb, j, none⟩ = some u) (h1 : ∀ u ∈ ct, u.oneCell' = true) (h1c : ∀ u ∈ cells, u.oneCell' = true)
    (hvb : ∀ g, A = some ⟨g, 0, none⟩ → vb ≠ g) (hsh : w.shape? vb = some (3, 1)) (hfz : ∀ j, w.frozen? ⟨vb, j, none⟩ = false) (hvw : vb < w.heap.size) :
    Calls Try.prog 89 #[.slice A n c, .int .i64 k, .slice (some ⟨vb, 0, none⟩) 1 1] w fun e w' => ∃ A' n' c', e = .returned (.slice A' n' c') ∧ w'.ownsRow 0 3 1 (.slice A' n' c') (n + 1) (cells.take (k) ++ (ct ++ cells.drop (k))) ∧ w.grownBy w' (Value.slice A n c).ownBlock ∧ ((Value.slice A' n' c').ownBlock = (Value.slice A n c).ownBlock ∨ (Value.slice A' n' c').ownBlock = some w.heap.size) := by
  obtain ⟨i0, hi, hz0, hzs, hzb⟩ := info_parts Try.infoInt1
  have hcl := ho.1
  rw [Nat.mul_one] at hcl
  by_cases hkn : k = n
  · subst hkn
    have e0 : cells.take (k) ++ (ct ++ cells.drop (k)) = cells ++ ct := by rw [List.take_of_length_le (by omega), List.drop_of_length_le (by omega), List.append_nil]
    have E0 := Lib.hid e0
    clear e0 hcl
    have HO := Lib.hid ho
    rcases ho.2 with ⟨hv, hn0⟩ | ⟨g, cap, cur, hv, _, hg, hnc, hcm, hcs, htake⟩
    · injection hv with e1 e2 e3
      subst e1 e3
      subst hn0
      clear ho
      go_enter Try.func89, Try.ntmps89
      go_wp2_with (at_builtin; refine wpList_append_lies _ (by rfl) _ _ _ (by rfl) 0 3 i0 _ 1 8 Try.underlying28 hi hz0 hzs hzb rfl (by omega) _ 0 cells (by rfl) HO.out ⟨vb, 0, none⟩ 1 1 ct (by rfl) (by omega) (fun j u hj => by rw [Mm.add0]; exact hvs j u hj) h1 (by omega) (by unfold maxLen; omega) (by omega) (Nat.zero_le _) _ rfl ?_; intro gg cap w3 hown hgrow hat hlt)
      go_ret
      exact ⟨_, _, _, rfl, E0.out ▸ hown, hgrow, hat.elim (fun h => .inl (by rw [h]; rfl)) (fun h => .inr (by rw [h]; rfl))⟩
    · injection hv with e1 e2 e3
      subst e1 e3
      clear ho
      unfold maxLen at hcm
      by_cases hcn : c = k
      · subst hcn
        go_enter Try.func89, Try.ntmps89
        go_wp2_with (at_builtin; refine wpList_append_lies _ (by rfl) _ _ _ (by rfl) 0 3 i0 _ 1 8 Try.underlying28 hi hz0 hzs hzb rfl (by omega) _ c cells (by rfl) HO.out ⟨vb, 0, none⟩ 1 1 ct (by rfl) (by omega) (fun j u hj => by rw [Mm.add0]; exact hvs j u hj) h1 (by omega) (by unfold maxLen; omega) (by omega) (Nat.zero_le _) _ rfl ?_; intro gg cap w3 hown hgrow hat hlt)
        go_ret
        exact ⟨_, _, _, rfl, E0.out ▸ hown, hgrow, hat.elim (fun h => .inl (by rw [h]; rfl)) (fun h => .inr (by rw [h]; rfl))⟩
      · go_enter Try.func89, Try.ntmps89
        go_wp2_with (at_builtin; refine wpList_append_lies _ (by rfl) _ _ _ (by rfl) 0 3 i0 _ 1 8 Try.underlying28 hi hz0 hzs hzb rfl (by omega) _ k cells (by rfl) HO.out ⟨vb, 0, none⟩ 1 1 ct (by rfl) (by omega) (fun j u hj => by rw [Mm.add0]; exact hvs j u hj) h1 (by omega) (by unfold maxLen; omega) (by omega) (Nat.zero_le _) _ rfl ?_; intro gg cap w3 hown hgrow hat hlt)
        go_ret
        exact ⟨_, _, _, rfl, E0.out ▸ hown, hgrow, hat.elim (fun h => .inl (by rw [h]; rfl)) (fun h => .inr (by rw [h]; rfl))⟩
  · have hkl : k < n := by omega
    rcases ho.2 with ⟨hv, hn0⟩ | ⟨g, cap, cur, hv, _, hg, hnc, hcm, hcs, htake⟩
    · omega
    injection hv with e1 e2 e3
    subst e1 e3
    rw [Nat.mul_one] at htake
    have hBg : Mm.Blk w g 3 cur.toList := by unfold Mm.Blk; rw [Array.toArray_toList]; exact hg
    have hcsl : cur.toList.length = c := by simpa using hcs
    have hne := hvb g rfl
    have hcc : ∀ j u, cells[j]? = some u → w.cell? ⟨g, j, none⟩ = some u := fun j u hj => hBg.cell (by
      have : (cur.toList.take (n))[j]? = some u := by rw [htake]; exact hj
      rw [List.getElem?_take] at this
      split at this
      · exact this
      · cases this)
    have hsp : ∀ j, j < c → (w.cell? ⟨g, j, none⟩).isSome = true := fun j hj => by
      rw [hBg.cell (List.getElem?_eq_getElem (by rw [hcsl]; exact hj))]; rfl
    have hfz2 : ∀ j, w.frozen? ⟨g, j, none⟩ = false := fun j => hBg.frozen _
    have hdl : (cells.drop (k)).length = (n - k) := by rw [List.length_drop, hcl]
    unfold maxLen at hcm
    have hw1 : IntKind.i64.wrap ((k : Int) + 1) = (k : Int) + 1 := IntWalk.i64_in _ (by omega)
    have hw2 : IntKind.i64.wrap ((n : Int) + 1) = (n : Int) + 1 := IntWalk.i64_in _ (by omega)
    have hz2 : ¬ ((k : Int) = (n : Int)) := by omega
    have hb1 : (0 : Int) ≤ (k : Int) + 1 := by omega
    have hb5 : ((k : Int) + 1).toNat = k + 1 := by omega
    have hb6 : ((n : Int) + 1).toNat = n + 1 := by omega
    by_cases hroom : n + 1 ≤ c
    · have hb2 : ¬ (c = k + 1) := by omega
      have hb4 : ¬ (c = k) := by omega
      have hb3 : (k : Int) ≤ (n : Int) + 1 := by omega
      have hov : ∀ o lb cb, (callFunc 116 #[.slice (some ⟨vb, 0, none⟩) 1 1, .slice (some ⟨g, o, none⟩) lb cb]).run Try.prog w = .ok (.value (.bool false)) w := fun o lb cb => by
        rw [run_callFunc_extern Try.func116 (by kernel_rfl) (by kernel_rfl) (by kernel_rfl) (e := Extern.SlicesOverlaps.overlaps #[28, 28] #[4]) (by kernel_rfl),
          Lib.run_overlaps_apart w 28 4 3 Try.underlying28 1 Try.sizeOf3 ⟨vb, 0, none⟩ ⟨g, o, none⟩ 1 1 lb cb hne _ _ _ _ hsh (Mm.shape_blk hBg) (by omega) (hfz _) (hfz _)]
        rfl
      have HBG := Lib.hid hBg
      clear ho hg hBg
      go_enter Try.func89, Try.ntmps89
      go_wp2_with (simp only [hov])
      have hsz : (Try.prog.info? 3).map (·.size) = some 1 := by rw [hi]; exact congrArg some hzs
      have hmin : Nat.min (n + 1 - k) (n - k) = n - k := by simp only [Nat.min_def]; split <;> omega
      have hmin2 : Nat.min 1 (n + 1 - k) = 1 := by simp only [Nat.min_def]; split <;> omega
      have hcp1 : ∀ ty dc sc, (Builtin.copy_ #[28, 28] ty #[.slice (some ⟨g, (k + 1), none⟩) (n - k) dc, .slice (some ⟨g, k, none⟩) (n + 1 - k) sc]).run Try.prog w.drew = .ok (goInt (Nat.min (n + 1 - k) (n - k))) (w.drew.setCells g ((k + 1)) (cells.drop (k))) := fun ty dc sc =>
        Mm.run_copy_k w.drew _ _ ty 3 1 g ((k + 1)) (n - k) dc ⟨g, k, none⟩ (n + 1 - k) sc (cells.drop (k)) Try.underlying28 hsz (by rw [hdl, hmin, Nat.mul_one])
          (fun j v hj => by rw [Addr.add_lit]; exact hcc _ v (by rwa [List.getElem?_drop] at hj))
          (fun j hj => hsp _ (by rw [hdl] at hj; omega)) (fun j hj => hfz2 _) (fun v hv => h1c v (List.mem_of_mem_drop hv))
      obtain ⟨W1, hW1⟩ : ∃ W1, W1 = w.drew.setCells g ((k + 1)) (cells.drop (k)) := ⟨_, rfl⟩
      have hsp1 : ∀ j, j < c → (W1.cell? ⟨g, j, none⟩).isSome = true := fun j hj => by
        rw [hW1]
        exact isSome_setCells g (cells.drop (k)) ((k + 1)) w.drew (fun j hj => hsp ((k + 1) + j) (by rw [hdl] at hj; omega)) _ (hsp j hj)
      have hcp2 : ∀ (W : World), (∀ x, W.cell? x = W1.cell? x) → (∀ x, W.frozen? x = W1.frozen? x) → ∀ ty dc, (Builtin.copy_ #[28, 28] ty #[.slice (some ⟨g, k, none⟩) (n + 1 - k) dc, .slice (some ⟨vb, 0, none⟩) 1 1]).run Try.prog W = .ok (goInt (Nat.min 1 (n + 1 - k))) (W.setCells g (k) ct) := fun W hWc hWf ty dc =>
        Mm.run_copy_k (P := Try.prog) W 28 28 ty 3 1 g (k) (n + 1 - k) dc ⟨vb, 0, none⟩ 1 1 ct Try.underlying28 hsz (by rw [hct, hmin2])
          (fun j v hj => by
            rw [Mm.add0, hWc, hW1, World.cell?_setCells_out g _ _ _ _ (fun h _ => absurd h hne)]
            exact hvs j v hj)
          (fun j hj => by rw [hWc]; exact hsp1 _ (by omega)) (fun j hj => by rw [hWf, hW1, World.frozen?_setCells]; exact hfz2 _) h1
      rw [← hW1] at hcp1
      have HW1 := Lib.hid hW1
      clear hW1
      go_region_law (refine step_copy_runI rfl _ _ 28 28 rfl (.slice (some ⟨g, (k + 1), none⟩) (n - k) (c - (k + 1))) (.slice (some ⟨g, k, none⟩) (n + 1 - k) (c - k)) (by simp [Act.eval, Act.put]) (by simp [Act.eval, Act.put]) (hcp1 _ _ _) ?_)
      go_wp2_with (at_builtin; refine wpList_copy_runI _ rfl _ _ 28 28 rfl _ _ rfl rfl (hcp2 _ (fun _ => rfl) (fun _ => rfl) _ _) ?_)
      go_ret
      have hW1 := HW1.out
      subst hW1
      have hd : Mm.Blk w.drew g 3 cur.toList := HBG.out
      have hb2 := Mm.setCells_blk ct _ (k) _ (Mm.setCells_blk (cells.drop (k)) _ ((k + 1)) _ hd)
      refine ⟨_, _, _, rfl, ⟨?_, .inr ⟨g, c, _, rfl, Nat.zero_le _, hb2, hroom, by unfold maxLen; omega, ?_, ?_⟩⟩, ?_, .inl rfl⟩
      · rw [List.length_append, List.length_append, List.length_take, hdl, hct, hcl]; omega
      · rw [List.size_toArray, Mm.setList_len, Mm.setList_len, Nat.mul_one]; exact hcsl
      · have := Mm.ins_rows (cur := cur.toList) (cells := cells) (ct := ct) (N := n) (K := k) (S := 1) htake hcl (by omega) hct (by rw [hcsl]; omega)
        rw [show k + 1 = k + 1 by rfl, show n + 1 = n + 1 by rfl]
        rw [List.append_assoc] at this
        rw [Nat.mul_one]
        exact this
      · exact Mm.Chg.grown ((Mm.Chg.of_below (Below.refl w.heap.size w).drew).trans ((Mm.setCells_chg g _ _ _).trans (Mm.setCells_chg g _ _ _)))
    · have hcn : c = n := by omega
      subst hcn
      have hsz : (Try.prog.info? 3).map (·.size) = some 1 := by rw [hi]; exact congrArg some hzs
      have hw3 : IntKind.i64.wrap ((c : Int) + 1 - (k : Int)) = (c : Int) + 1 - (k : Int) := IntWalk.i64_in _ (by omega)
      have hold : (Builtin.firstCells i0.size k (.slice (some ⟨g, 0, none⟩) k c)).run Try.prog w.drew = .ok (cells.take (k)).toArray w.drew := by
        rw [hzs]
        exact run_firstCells_some w.drew 1 k ⟨g, 0, none⟩ k c (cells.take (k)) (by rw [List.length_take, hcl]; omega) (fun j v hj => by
          rw [List.getElem?_take] at hj
          split at hj
          · rw [Mm.add0]; exact hcc j v hj
          · cases hj)
      have hik : ((c + 1 - k : Nat) : Int) = (c : Int) + 1 - (k : Int) := by omega
      have hkk : k + (c + 1 - k) = c + 1 := by omega
      obtain ⟨G, hG⟩ : ∃ G, G = grownCap w (c + 1) c 3 := ⟨_, rfl⟩
      obtain ⟨ROW, hROW⟩ : ∃ ROW : Array Value, ROW = (cells.take (k)).toArray ++ Builtin.zeroCells (Value.int .i64 0).cells (c + 1 - k) ++ Builtin.zeroCells (Value.int .i64 0).cells (G - (c + 1)) := ⟨_, rfl⟩
      have hrz : ∀ ty, (Builtin.append_ #[28, 3] ty #[.slice (some ⟨g, 0, none⟩) k c, .int .i64 ((c : Int) + 1 - (k : Int))]).run Try.prog w = .ok (.slice (some ⟨w.heap.size, 0, none⟩) (c + 1) G) (w.drew.alloc (.cells ROW 3)) := fun ty => by
        have h := Lib.run_append_grow_zeros w 28 3 ty 3 i0 _ .i64 .i64 Try.underlying28 Try.underlying3 hi hz0 (some ⟨g, 0, none⟩) k c (cells.take (k)) hold (c + 1 - k) (by omega) (by omega) (by omega) (by omega) (by rw [hzb]; omega) (by rw [hzb, hkk]; exact growslice_fits (by omega) (by omega))
        rw [hik, hkk] at h
        rw [hG, hROW, hG]
        exact h
      have hGn : c + 1 ≤ G := by rw [hG]; exact grownCap_ge w _ _ _
      have hGm : G ≤ maxLen := by rw [hG]; exact grownCap_le_maxLen w (c + 1) c 3 (by unfold maxLen; omega)
      have hRs : ROW.size = G := by
        rw [hROW]
        simp only [Array.size_append, List.size_toArray, Mm.zeroCells_len, List.length_take, hcl]
        show min k c + (c + 1 - k) * 1 + (G - (c + 1)) * 1 = _
        omega
      have hRt : ROW.toList.take (k) = cells.take (k) := by
        rw [hROW, Array.append_assoc, Array.toList_append, List.take_left' (by rw [List.length_take, hcl]; omega)]
      clear hG hROW hik hkk hold
      unfold maxLen at hGm
      obtain ⟨W1, hW1⟩ : ∃ W1, W1 = w.drew.alloc (.cells ROW 3) := ⟨_, rfl⟩
      have hgw : g < w.heap.size := hBg.lt
      have hB1 : Mm.Blk W1 w.heap.size 3 ROW.toList := by
        have := Mm.Blk.new w.drew 3 ROW.toList
        rw [Array.toArray_toList] at this
        rw [hW1]
        exact this
      have hN : ∀ j, j < G → (W1.cell? ⟨w.heap.size, j, none⟩).isSome = true := fun j hj => by
        rw [hB1.cell (List.getElem?_eq_getElem (by rw [Array.length_toList, hRs]; exact hj))]; rfl
      have hNf : ∀ j, W1.frozen? ⟨w.heap.size, j, none⟩ = false := fun j => hB1.frozen _
      have hbl : Below w.heap.size w W1 := by rw [hW1]; exact (Below.refl _ _).drew.alloc (by exact Nat.le_refl _) _
      have hOc : ∀ b j v, b < w.heap.size → w.cell? ⟨b, j, none⟩ = some v → W1.cell? ⟨b, j, none⟩ = some v := fun b j v hb h => (hbl.cell hb).trans h
      have hmin1 : Nat.min 1 (c + 1 - k) = 1 := by simp only [Nat.min_def]; split <;> omega
      have hmin2 : Nat.min (c - k) (c - k) = c - k := Nat.min_self _
      have hcpA : ∀ (W : World), (∀ x, W.cell? x = W1.cell? x) → (∀ x, W.frozen? x = W1.frozen? x) → ∀ ty dc, (Builtin.copy_ #[28, 28] ty #[.slice (some ⟨w.heap.size, k, none⟩) (c + 1 - k) dc, .slice (some ⟨vb, 0, none⟩) 1 1]).run Try.prog W = .ok (goInt (Nat.min 1 (c + 1 - k))) (W.setCells w.heap.size (k) ct) := fun W hWc hWf ty dc =>
        Mm.run_copy_k (P := Try.prog) W 28 28 ty 3 1 w.heap.size (k) (c + 1 - k) dc ⟨vb, 0, none⟩ 1 1 ct Try.underlying28 hsz (by rw [hct, hmin1])
          (fun j v hj => by rw [Mm.add0, hWc]; exact hOc _ _ v hvw (hvs j v hj))
          (fun j hj => by rw [hWc]; exact hN _ (by omega)) (fun j hj => by rw [hWf]; exact hNf _) h1
      have hcpB : ∀ (W : World), (∀ x, W.cell? x = (W1.setCells w.heap.size (k) ct).cell? x) → (∀ x, W.frozen? x = (W1.setCells w.heap.size (k) ct).frozen? x) → ∀ ty dc sc, (Builtin.copy_ #[28, 28] ty #[.slice (some ⟨w.heap.size, (k + 1), none⟩) (c - k) dc, .slice (some ⟨g, k, none⟩) (c - k) sc]).run Try.prog W = .ok (goInt (Nat.min (c - k) (c - k))) (W.setCells w.heap.size ((k + 1)) (cells.drop (k))) := fun W hWc hWf ty dc sc =>
        Mm.run_copy_k (P := Try.prog) W 28 28 ty 3 1 w.heap.size ((k + 1)) (c - k) dc ⟨g, k, none⟩ (c - k) sc (cells.drop (k)) Try.underlying28 hsz (by rw [hdl, hmin2, Nat.mul_one])
          (fun j v hj => by
            rw [Addr.add_lit, hWc, World.cell?_setCells_out _ _ _ _ _ (fun h _ => absurd h (Nat.ne_of_lt hgw))]
            exact hOc _ _ v hgw (hcc _ v (by rwa [List.getElem?_drop] at hj)))
          (fun j hj => by rw [hWc]; exact isSome_setCells _ _ _ _ (fun t ht => hN (k + t) (by omega)) _ (hN ((k + 1) + j) (by rw [hdl] at hj; omega)))
          (fun j hj => by rw [hWf, World.frozen?_setCells]; exact hNf _) (fun v hv => h1c v (List.mem_of_mem_drop hv))
      have HW1 := Lib.hid (And.intro hW1 hB1)
      have HBL := Lib.hid hbl
      subst hW1
      have hE1 : ∀ x, ((w.alloc (.cells ROW 3)).drew).cell? x = (w.drew.alloc (.cells ROW 3)).cell? x := fun x => rfl
      have hE2 : ∀ x, ((w.alloc (.cells ROW 3)).drew).frozen? x = (w.drew.alloc (.cells ROW 3)).frozen? x := fun x => rfl
      have hF1 : ∀ x, (((w.alloc (.cells ROW 3)).drew.setCells w.heap.size (k) ct).drew).cell? x = ((w.drew.alloc (.cells ROW 3)).setCells w.heap.size (k) ct).cell? x := fun x => rfl
      have hF2 : ∀ x, (((w.alloc (.cells ROW 3)).drew.setCells w.heap.size (k) ct).drew).frozen? x = ((w.drew.alloc (.cells ROW 3)).setCells w.heap.size (k) ct).frozen? x := fun x => rfl
      have hGi : ¬ (G = k) := by omega
      have hGim : ¬ (G = k + 1) := by omega
      have hci : ¬ (c = k) := by omega
      clear ho hg hBg hbl hN hNf hOc
      go_enter Try.func89, Try.ntmps89
      go_wp2_with (first
        | (at_builtin; refine Lib.wpList_append_run _ rfl _ _ _ _ rfl _ _ rfl rfl _ _ (hrz _) ?_)
        | (at_builtin; refine wpList_copy_runI _ rfl _ _ 28 28 rfl _ _ rfl rfl (hcpA _ hE1 hE2 _ _) ?_))
      go_region_law (refine step_copy_runI rfl _ _ 28 28 rfl (.slice (some ⟨w.heap.size, (k + 1), none⟩) (c - k) (G - (k + 1))) (.slice (some ⟨g, k, none⟩) (c - k) (c - k)) (by simp [Act.eval, Act.put]) (by simp [Act.eval, Act.put]) (hcpB _ hF1 hF2 3 (G - (k + 1)) (c - k)) ?_)
      go_wp2
      go_ret
      have hd : Mm.Blk (w.alloc (.cells ROW 3)).drew w.heap.size 3 ROW.toList := HW1.out.2
      have hb1' : Mm.Blk (((w.alloc (.cells ROW 3)).drew.setCells w.heap.size (k) ct).drew) w.heap.size 3 (Mm.setList ROW.toList (k) ct) := Mm.setCells_blk ct _ (k) _ hd
      have hb2' := Mm.setCells_blk (cells.drop (k)) _ ((k + 1)) _ hb1'
      refine ⟨_, _, _, rfl, ⟨?_, .inr ⟨w.heap.size, G, _, rfl, Nat.zero_le _, hb2', hGn, by unfold maxLen; omega, ?_, ?_⟩⟩, ?_, .inr rfl⟩
      · rw [List.length_append, List.length_append, List.length_take, hdl, hct, hcl]; omega
      · rw [List.size_toArray, Mm.setList_len, Mm.setList_len, Array.length_toList, Nat.mul_one]; exact hRs
      · have := Mm.ins_rows' (cur := ROW.toList) (cells := cells) (ct := ct) (N := c) (K := k) (S := 1) hRt hcl (by omega) hct (by rw [Array.length_toList, hRs]; omega)
        rw [show k + 1 = k + 1 by rfl, show c + 1 = c + 1 by rfl]
        rw [List.append_assoc] at this
        rw [Nat.mul_one]
        exact this
      · have q1 : Below w.heap.size w (w.alloc (.cells ROW 3)).drew := (below_new (Below.refl _ _) _).drew
        have q2 := Mm.Below.chg q1 (Mm.setCells_chg w.heap.size ct _ (k)) q1.size (fun b hb => by rw [List.mem_singleton.1 hb]; exact Nat.le_refl _)
        have q3 := Mm.Below.chg q2.drew (Mm.setCells_chg w.heap.size (cells.drop (k)) _ ((k + 1))) q2.drew.size (fun b hb => by rw [List.mem_singleton.1 hb]; exact Nat.le_refl _)
        exact Mm.Chg.grown0 q3
theorem Mm.flatN_int' : Mm.FlatN Mm.int (fun x : Int => [Value.int .i64 x]) := ⟨by decide, fun h => by
  obtain ⟨rfl, h1, rfl⟩ := h
  exact ⟨rfl, rfl, fun w' => ⟨rfl, h1, rfl⟩⟩⟩
theorem Try.infoDel_int : (Try.prog.info? 3).map (fun i => (i.zero, i.size, i.bytes)) = some (some (.int .i64 0), 1, 8) := by kernel_rfl
set_option maxRecDepth 100000 in
set_option maxHeartbeats 2000000 in
theorem delInt_c (xs : List Int) (g n c k : Nat) (fp : List Nat) (w : World) (hs : Mm.SlOwn Mm.int 3 w xs (.slice (some ⟨g, 0, none⟩) n c) fp) (hk : k < n) (hn : n ≤ 1000000) :
    Calls Try.prog 88 #[.slice (some ⟨g, 0, none⟩) n c, .int .i64 k, .int .i64 (k + 1 : Nat)] w fun e w' => e = .returned (.slice (some ⟨g, 0, none⟩) (n - 1) c) ∧ Mm.Chg fp w w' ∧ Mm.SlOwn Mm.int 3 w' (xs.eraseIdx k) (.slice (some ⟨g, 0, none⟩) (n - 1) c) fp := by
  obtain ⟨i0, hi, hz0, hz1, hz2⟩ := info_parts Try.infoDel_int
  have hF := Mm.flatN_int'
  obtain ⟨_, _, hown, hlen⟩ := hF.owns hs
  obtain ⟨cur, hb, hcl, ht, hnx, hnc, hcm, rfl⟩ := hF.blk hs
  have herase := hF.erase hs hk (z := ((.int .i64 0) : Value).cells.toList) (by rfl) (o1 := k) (o2 := (n - 1)) (Nat.mul_one _) (Nat.mul_one _)
  obtain ⟨news, hnews⟩ : ∃ news, (xs.drop (k + 1)).flatMap (fun x : Int => [Value.int .i64 x]) = news := ⟨_, rfl⟩
  rw [hnews] at herase
  have hln : news.length = (n - (k + 1)) := by rw [← hnews, Mm.flatMap_len (s := 1) (fun x hx => hlen x (List.mem_of_mem_drop hx)), List.length_drop, hnx, Nat.mul_one]
  have hone : Hid (∀ u ∈ news, u.oneCell' = true) := by
    intro u hu
    rw [← hnews] at hu
    obtain ⟨x, hx, hu⟩ := List.mem_flatMap.1 hu
    exact (Mm.int).one (hown x (List.mem_of_mem_drop hx) w) u hu
  have hcells : ∀ j u, news[j]? = some u → w.cell? ⟨g, (k + 1) + j, none⟩ = some u := fun j u hj => by
    refine hF.cells hs (j := (k + 1) + j) ?_
    rw [← hnews, Mm.flatMap_drop (s := 1) (k + 1) hlen, List.getElem?_drop, Nat.mul_one] at hj
    exact hj
  obtain ⟨A, hA, hsrc⟩ : ∃ A : Addr, (if c = k + 1 then (some ⟨g, 0, none⟩ : Option Addr) else some ⟨g, (k + 1), none⟩) = some A ∧ Hid (∀ j u, news[j]? = some u → w.drew.cell? (A.add j) = some u) := by
    by_cases h : c = k + 1
    · refine ⟨⟨g, 0, none⟩, by simp [h], fun t u hu => ?_⟩
      have h0 : news.length = 0 := by rw [hln]; omega
      rw [List.length_eq_zero_iff.1 h0] at hu
      simp at hu
    · refine ⟨⟨g, (k + 1), none⟩, by simp [h], fun t u hu => ?_⟩
      rw [Addr.add_lit]
      exact hcells t u hu
  have s1 : Hid (news.length = (n - (k + 1)) * 1) := by show _ = _; omega
  have hroom : Hid (∀ j, j < news.length → (w.drew.cell? ⟨g, 0 + k * 1 + j, none⟩).isSome = true ∧ w.drew.frozen? ⟨g, 0 + k * 1 + j, none⟩ = false) := by
    intro t ht
    have h1 : n ≤ cur.length := by rw [hcl]; show n ≤ c * 1; omega
    rw [hln] at ht
    have h2 : 0 + k * 1 + t < cur.length := by omega
    exact ⟨by show (w.cell? _).isSome = true; rw [hb.cell (List.getElem?_eq_getElem h2)]; rfl, hb.frozen _⟩
  obtain ⟨W1, hW1⟩ : ∃ W1, w.drew.setCells g (0 + k * 1) news = W1 := ⟨_, rfl⟩
  have hb1 : Mm.Blk W1 g 3 (Mm.setList cur (0 + k * 1) news) := by rw [← hW1]; exact Mm.setCells_blk news _ _ _ hb
  rw [Nat.zero_add, Nat.mul_one] at hW1
  rw [hW1] at herase
  have hcl1 : ∀ ty, (Builtin.clear_ #[28] ty #[.slice (some ⟨g, (k + (n - (k + 1))), none⟩) (n - (k + (n - (k + 1)))) (c - (k + (n - (k + 1))))]).run Try.prog W1 = .ok (.tuple #[]) (W1.setCells g ((n - 1)) ((.int .i64 0) : Value).cells.toList) := fun ty => by
    rw [show k + (n - (k + 1)) = n - 1 by omega, show n - (n - 1) = 1 by omega]
    have hsz : (((.int .i64 0) : Value).cells).size = 1 := by rfl
    have h1 : n ≤ cur.length := by rw [hcl]; show n ≤ c * 1; omega
    have h2 : ∀ j, j < 1 → (n - 1) + j < (Mm.setList cur (0 + k * 1) news).length := fun j hj => by rw [Mm.setList_len]; omega
    refine Mm.run_clear_one W1 _ 3 ty (.int .i64 0) Try.underlying28 (fun w => by simp [zeroValue, typeInfo, hi, hz0]) (by decide) g _ _ (fun j hj => ?_) (fun j hj => hb1.frozen _)
    rw [hsz] at hj
    rw [hb1.cell (List.getElem?_eq_getElem (h2 j hj))]; rfl
  obtain ⟨zl, hzl⟩ : ∃ zl, ((.int .i64 0) : Value).cells.toList = zl := ⟨_, rfl⟩
  rw [hzl] at herase
  simp only [hzl] at hcl1
  clear hzl
  have HE := Lib.hid herase
  have hW : Hid (w.drew.setCells g (0 + k * 1) news = W1) := by rw [Nat.zero_add, Nat.mul_one]; exact hW1
  have hkc : k ≤ c := by omega
  have hk1c : k + 1 ≤ c := by omega
  have hkn : k + 1 ≤ n := by omega
  have hc2 := hcm
  have hnx2 := Lib.hid hnx
  have f1 : (0 : Int) ≤ (k : Int) + 1 := by omega
  have f2 : (k : Int) + 1 ≤ ((n : Nat) : Int) := by omega
  have f3 : (k : Int) ≤ ((n : Nat) : Int) := by omega
  unfold maxLen at hc2
  clear hnx hW1 herase hcells hb hb1 hcl ht hown hlen hnews hs hln
  go_enter Try.func88, Try.ntmps88
  go_wp2_with fail
  go_region_law (refine step_append_room rfl (.tmp 22) (.tmp 25) 28 rfl 3 i0 1 Try.underlying28 hi hz1 g 0 k c (by simp [Act.eval, Act.put]) A (n - (k + 1)) (c - (k + 1)) news (by simp [Act.eval, Act.put]) s1.out hsrc.out hone.out (by omega) hroom.out ?_; rw [hW.out])
  go_wp2
  exact bodyPost_ret (v := .slice (some ⟨g, 0, none⟩) (k + (n - (k + 1))) c) (by simp [results, Try.results88, go_sem]) rfl ⟨by rw [show k + (n - (k + 1)) = n - 1 by omega], HE.out⟩
end Go.Proofs.Ytihendiakgfpcaa
