/-
  slices.Insert with one element, and append of zero values, on slices that the call owns and whose elements are one cell each and lead nowhere. No program in sight. No conditions.
-/
import Derived.Test.YtaepohocabealaaSx
import Derived.Test.YtaepohocabealaaPh
import Derived.Shelf.Spec.SlicesInsertGrow
import Derived.Lib.AppendZerosOnto
namespace Go.Proofs.Ytaepohocabealaa
open Go.RowKit
namespace Mm
theorem flat_sub {β γ : Type} (f : β → List γ) {us ts : List β} (h : us.Sublist ts) : (us.flatMap f).Sublist (ts.flatMap f) := by
  induction h with
  | slnil => exact List.Sublist.refl _
  | cons a _ ih => rw [List.flatMap_cons]; exact ih.trans (List.sublist_append_right _ _)
  | cons_cons a _ ih => rw [List.flatMap_cons, List.flatMap_cons]; exact (List.Sublist.refl _).append ih
/-- fewer things -/
theorem SepF.sub {F : List Nat} {w0 wr : World} {ts us : List Thing} (h : SepF F w0 wr ts) (hs : us.Sublist ts) : SepF F w0 wr us :=
  ⟨h.chg, h.nd.sublist (flat_sub (·.fp) hs), fun b hb => h.new b ((flat_sub (·.fp) hs).subset hb), fun u hu => h.hold u (hs.subset hu)⟩
/-- elements of one cell that lead nowhere -/
structure Flat1 {α : Type} (E : Rep α) (val : α → Value) : Prop where
  size : E.size = 1
  one : ∀ x, (val x).oneCell' = true
  inv : ∀ {w x cs fx}, E.own w x cs fx → cs = [val x] ∧ fx = [] ∧ ∀ w', E.own w' x [val x] []
theorem flat1_int : Flat1 int (fun x => .int .i64 x) := ⟨rfl, fun _ => rfl, fun h => ⟨h.1, h.2.2, fun _ => ⟨rfl, h.2.1, rfl⟩⟩⟩
theorem flat1_str : Flat1 str (fun x => .string x) := ⟨rfl, fun _ => rfl, fun h => ⟨h.1, h.2.2, fun _ => ⟨rfl, h.2.1, rfl⟩⟩⟩
theorem fm_val {α : Type} (val : α → Value) : ∀ xs : List α, xs.flatMap (fun x => [val x]) = xs.map val
  | [] => rfl
  | a :: t => by rw [List.flatMap_cons, fm_val val t]; rfl
theorem shape_blk {w : World} {g : Nat} {t : TypeId} {cs : List Value} (h : Blk w g t cs) : w.shape? g = some (t, cs.length) := by
  unfold Blk at h
  unfold World.shape?
  rw [h]
  simp
section
variable {α : Type} {E : Rep α} {val : α → Value} {e : TypeId} {w w' : World} {xs : List α} {v : Value} {fp : List Nat} {g n c : Nat}
theorem Flat1.owns (hF : Flat1 E val) (h : SlOwn E e w xs v fp) : w.ownsRow 0 e 1 v xs.length (xs.map val) ∧ fp = v.ownBlock.toList ∧ ∀ x, x ∈ xs → ∀ w', E.own w' x [val x] [] := by
  obtain ⟨es, he, ho, rfl⟩ := h
  have h1 : es = xs.map fun x => ([val x], ([] : List Nat)) := by
    apply List.ext_getElem?
    intro i
    rw [List.getElem?_map]
    rcases Nat.lt_or_ge i xs.length with hi | hi
    · have hx := List.getElem?_eq_getElem hi
      have hy := List.getElem?_eq_getElem (show i < es.length by rw [he.1]; exact hi)
      have h2 := hF.inv (he.2 i _ _ hx hy)
      rw [hx, hy]
      exact congrArg some (Prod.ext h2.1 h2.2.1)
    · rw [List.getElem?_eq_none hi, List.getElem?_eq_none (by rw [he.1]; exact hi)]
      rfl
  have h3 : (xs.map fun x => ([val x], ([] : List Nat))).flatMap (·.1) = xs.map val := by rw [List.flatMap_map]; exact fm_val val xs
  have h4 : (xs.map fun x => ([val x], ([] : List Nat))).flatMap (·.2) = [] := by simp [List.flatMap_map]
  refine ⟨?_, by rw [h1, h4]; simp, fun x hx w' => ?_⟩
  · rw [h1, h3, hF.size] at ho
    exact ho
  · obtain ⟨i, hi, rfl⟩ := List.mem_iff_getElem.1 hx
    exact (hF.inv (he.2 i _ _ (List.getElem?_eq_getElem hi) (List.getElem?_eq_getElem (show i < es.length by rw [he.1]; exact hi)))).2.2 w'
theorem Flat1.row (hF : Flat1 E val) (ho : w.ownsRow 0 e 1 v xs.length (xs.map val)) (hE : ∀ x, x ∈ xs → E.own w x [val x] []) : SlOwn E e w xs v v.ownBlock.toList :=
  SlOwn.of_row (enc := fun x => [val x]) (by
    rw [hF.size, show xs.flatMap (fun x => [val x]) = xs.map val from fm_val val xs]
    exact ho) hE rfl
theorem Flat1.blk (hF : Flat1 E val) (h : SlOwn E e w xs (.slice (some ⟨g, 0, none⟩) n c) fp) : ∃ cur, Blk w g e cur ∧ cur.length = c ∧ cur.take n = xs.map val ∧ n = xs.length ∧ n ≤ c ∧ c ≤ maxLen ∧ fp = [g] := by
  obtain ⟨h1, h2, _⟩ := hF.owns h
  rcases h1.2 with ⟨h3, _⟩ | ⟨g', cap, cur, h3, _, hg, hnc, hcm, hcs, htake⟩
  · simp at h3
  · simp only [Value.slice.injEq, Option.some.injEq, Addr.mk.injEq, and_true] at h3
    obtain ⟨rfl, rfl, rfl⟩ := h3
    refine ⟨cur.toList, by unfold Blk; rw [Array.toArray_toList]; exact hg, by simpa using hcs, by simpa using htake, rfl, hnc, hcm, by rw [h2]; simp [Value.ownBlock]⟩
theorem Flat1.of_blk (hF : Flat1 E val) {cur : List Value} (h : Blk w g e cur) (hl : cur.length = c) (ht : cur.take n = xs.map val) (hn : xs.length = n) (hnc : n ≤ c) (hc : c ≤ maxLen) (hE : ∀ x, x ∈ xs → E.own w x [val x] []) : SlOwn E e w xs (.slice (some ⟨g, 0, none⟩) n c) [g] := by
  subst hn
  exact hF.row ⟨by simp, .inr ⟨g, c, cur.toArray, rfl, Nat.zero_le _, h, hnc, hc, by simpa using hl, by simpa using ht⟩⟩ hE
theorem Flat1.cell (hF : Flat1 E val) (h : SlOwn E e w xs (.slice (some ⟨g, 0, none⟩) n c) fp) {k : Nat} {x : α} (hk : xs[k]? = some x) : w.cell? ⟨g, k, none⟩ = some (val x) := by
  obtain ⟨cur, hb, hcl, ht, hn, hnc, _⟩ := hF.blk h
  have hkn := (List.getElem?_eq_some_iff.1 hk).1
  refine hb.cell ?_
  have h1 : (cur.take n)[k]? = some (val x) := by rw [ht, List.getElem?_map, hk]; rfl
  rw [List.getElem?_take, if_pos (by omega)] at h1
  exact h1
theorem setCells_blk : ∀ (vs : List Value) (w : World) (o : Nat) (cs : List Value), Blk w g e cs → Blk (w.setCells g o vs) g e (setList cs o vs)
  | [], _, _, _, h => h
  | v :: r, w, o, cs, h => setCells_blk r _ (o + 1) _ (h.set_ o v)
theorem setCells_chg (g : Nat) : ∀ (vs : List Value) (w : World) (o : Nat), Chg [g] w (w.setCells g o vs)
  | [], w, _ => Chg.refl _ _
  | v :: r, w, o => ((Chg.refl [g] w).setCell (p := ⟨g, o, none⟩) (by simp) v).trans (setCells_chg g r _ (o + 1))
theorem ins_cells {cur ys : List Value} {u : Value} {i : Nat} (ht : cur.take n = ys) (hn : ys.length = n) (hi : i < n) (hroom : n + 1 ≤ cur.length) :
    (setList (setList cur (i + 1) (ys.drop i)) i [u]).take n = Pl.insAt ys i u := by
  apply List.ext_getElem?
  intro j
  rw [Pl.insAt_get _ _ _ (by omega), List.getElem?_take, hn]
  by_cases hj : n ≤ j
  · rw [if_neg (by omega), if_pos hj]
  · rw [if_pos (by omega), if_neg hj, setList_get _ _ _ _ (by rw [setList_len]; simp; omega)]
    by_cases h1 : j < i
    · rw [if_pos h1, if_neg (by omega), setList_get _ _ _ _ (by rw [List.length_drop]; omega), if_neg (by omega), ← ht, List.getElem?_take, if_pos (by omega)]
    · rw [if_neg h1]
      by_cases h2 : j = i
      · subst h2
        rw [if_pos rfl, if_pos (by simp), Nat.sub_self]; rfl
      · rw [if_neg h2, if_neg (by simp; omega), setList_get _ _ _ _ (by rw [List.length_drop]; omega), if_pos (by rw [List.length_drop]; omega), List.getElem?_drop]
        congr 1; omega
theorem ins_cells' {rest ys : List Value} {z u : Value} {i k : Nat} (hn : ys.length = n) (hi : i < n) (hk : (ys.take i ++ List.replicate (n + 1 - i) z ++ rest).length = k) :
    (setList (setList (ys.take i ++ List.replicate (n + 1 - i) z ++ rest) i [u]) (i + 1) (ys.drop i)).take n = Pl.insAt ys i u := by
  have hl : n + 1 ≤ (ys.take i ++ List.replicate (n + 1 - i) z ++ rest).length := by
    rw [List.length_append, List.length_append, List.length_take, List.length_replicate]; omega
  apply List.ext_getElem?
  intro j
  rw [Pl.insAt_get _ _ _ (by omega), List.getElem?_take, hn]
  by_cases hj : n ≤ j
  · rw [if_neg (by omega), if_pos hj]
  · rw [if_pos (by omega), if_neg hj, setList_get _ _ _ _ (by rw [setList_len, List.length_drop]; omega)]
    by_cases h1 : j < i
    · rw [if_pos h1, if_neg (by omega), setList_get _ _ _ _ (by simp only [List.length_singleton]; omega), if_neg (by omega), List.getElem?_append_left (by rw [List.length_append, List.length_take, List.length_replicate]; omega), List.getElem?_append_left (by rw [List.length_take]; omega), List.getElem?_take, if_pos h1]
    · rw [if_neg h1]
      by_cases h2 : j = i
      · subst h2
        rw [if_pos rfl, if_neg (by omega), setList_get _ _ _ _ (by simp only [List.length_singleton]; omega), if_pos (by simp), Nat.sub_self]; rfl
      · rw [if_neg h2, if_pos (by rw [List.length_drop]; omega), List.getElem?_drop]
        congr 1; omega
/-- behind slices.Insert of one element, where there was room: the slice cut back to its old length -/
theorem ins_shift {F : List Nat} {w0 wr : World} {ts : List Thing} {i k : Nat} {x : α} (hF : Flat1 E val) (h : SepF F w0 wr ts) (hi : ts[i]? = some (tsl E e xs (.slice (some ⟨g, 0, none⟩) n c) fp)) (hk : k < n) (hroom : n + 1 ≤ c) (hx : ∀ w, E.own w x [val x] []) {off1 off2 : Nat} (h1 : k + 1 = off1) (h2 : k = off2) :
    SepF F w0 ((wr.drew.setCells g off1 ((xs.map val).drop k)).setCells g off2 [val x]) (ts.set i (tsl E e (Pl.insAt xs k x) (.slice (some ⟨g, 0, none⟩) n c) fp)) := by
  subst h1; subst h2
  have hs : SlOwn E e wr xs (.slice (some ⟨g, 0, none⟩) n c) fp := h.at_ i hi
  obtain ⟨cur, hb, hcl, ht, hn, hnc, hcm, rfl⟩ := hF.blk hs
  have hxs := (hF.owns hs).2.2
  have hd : Blk wr.drew g e cur := hb
  have hb2 := setCells_blk [val x] _ k _ (setCells_blk ((xs.map val).drop k) _ (k + 1) _ hd)
  refine h.upd hi (((Chg.of_below (Below.refl wr.heap.size wr).drew).trans (setCells_chg g _ _ _)).trans (setCells_chg g _ _ _)) (t' := tsl E e (Pl.insAt xs k x) (.slice (some ⟨g, 0, none⟩) n c) [g]) ?_ (by simp [tsl]) (fun b hb => .inl hb)
  refine hF.of_blk hb2 (by rw [setList_len, setList_len, hcl]) ?_ (by rw [Pl.insAt_len _ _ _ (by omega)]; omega) hnc hcm (fun y hy => ?_)
  · rw [ins_cells ht (by rw [List.length_map]; omega) hk (by omega), Pl.insAt_map]
  · rcases Pl.insAt_mem hy with hy | rfl
    · exact hxs y hy _
    · exact hx _
/-- the same, where it has moved -/
theorem ins_grow {F : List Nat} {w0 wr : World} {ts : List Thing} {i k : Nat} {x : α} {z : Value} {ROW : Array Value} {G : Nat} (hF : Flat1 E val) (h : SepF F w0 wr ts) (hi : ts[i]? = some (tsl E e xs (.slice (some ⟨g, 0, none⟩) n c) fp)) (hk : k < n) (hx : ∀ w, E.own w x [val x] []) {off1 off2 : Nat} (h1 : k = off1) (h2 : k + 1 = off2) (hG : n + 1 ≤ G) (hGm : G ≤ maxLen)
    (hR : ROW = ((xs.map val).take k).toArray ++ Builtin.zeroCells #[z] (n + 1 - k) ++ Builtin.zeroCells #[z] (G - (n + 1))) :
    SepF F w0 ((((wr.alloc (.cells ROW e)).drew.setCells wr.heap.size off1 [val x]).drew).setCells wr.heap.size off2 ((xs.map val).drop k)) (ts.set i (tsl E e (Pl.insAt xs k x) (.slice (some ⟨wr.heap.size, 0, none⟩) n G) [wr.heap.size])) := by
  subst h1; subst h2
  have hs : SlOwn E e wr xs (.slice (some ⟨g, 0, none⟩) n c) fp := h.at_ i hi
  obtain ⟨cur, hb, hcl, ht, hn, hnc, hcm, rfl⟩ := hF.blk hs
  have hxs := (hF.owns hs).2.2
  have hz : ∀ m, (Builtin.zeroCells #[z] m).toList = List.replicate m z := fun m => by
    apply List.ext_getElem?
    intro j
    by_cases hj : j < m <;> simp [Builtin.zeroCells, hj, Nat.mod_one]
  have hRl : ROW.toList = (xs.map val).take k ++ List.replicate (n + 1 - k) z ++ List.replicate (G - (n + 1)) z := by
    rw [hR]; simp [hz]
  have hRs : ROW.toList.length = G := by
    rw [hRl]; simp; omega
  have hd : Blk (wr.alloc (.cells ROW e)).drew wr.heap.size e ROW.toList := by
    have := Blk.new wr e ROW.toList
    rw [Array.toArray_toList] at this
    exact this
  have hb1 : Blk (((wr.alloc (.cells ROW e)).drew.setCells wr.heap.size k [val x]).drew) wr.heap.size e (setList ROW.toList k [val x]) := setCells_blk [val x] _ k _ hd
  have hb2 := setCells_blk ((xs.map val).drop k) _ (k + 1) _ hb1
  have hch : Below wr.heap.size wr ((((wr.alloc (.cells ROW e)).drew.setCells wr.heap.size k [val x]).drew).setCells wr.heap.size (k + 1) ((xs.map val).drop k)) := by
    have q1 : Below wr.heap.size wr (wr.alloc (.cells ROW e)).drew := (below_new (Below.refl _ _) _).drew
    have q2 := Below.chg q1 (setCells_chg wr.heap.size [val x] _ k) q1.size (fun b hb => by rw [List.mem_singleton.1 hb]; exact Nat.le_refl _)
    have q3 := Below.chg q2.drew (setCells_chg wr.heap.size ((xs.map val).drop k) _ (k + 1)) q2.drew.size (fun b hb => by rw [List.mem_singleton.1 hb]; exact Nat.le_refl _)
    exact q3
  refine h.upd hi (Chg.of_below hch) (t' := tsl E e (Pl.insAt xs k x) (.slice (some ⟨wr.heap.size, 0, none⟩) n G) [wr.heap.size]) ?_ (by simp [tsl]) (fun b hb => .inr (by simp [tsl] at hb; omega))
  refine hF.of_blk hb2 (by rw [setList_len, setList_len, hRs]) ?_ (by rw [Pl.insAt_len _ _ _ (by omega)]; omega) (by omega) hGm (fun y hy => ?_)
  · rw [hRl, ins_cells' (by rw [List.length_map]; omega) hk rfl, Pl.insAt_map]
  · rcases Pl.insAt_mem hy with hy | rfl
    · exact hxs y hy _
    · exact hx _
end
section
variable {P : Program} (w : World)
/-- append(s, make([]T, k)...) on a slice that the call owns -/
theorem run_append_own_zeros (t tn ty e : TypeId) (i : TypeInfo) (z : Value) (bytes : Nat) (ht : P.underlying t = some (.slice e)) (htn : P.underlying tn = some (.int .i64)) (hi : P.info? e = some i) (hz : i.zero = some z) (hsize : i.size = 1) (hby : i.bytes = bytes) (hzs : z.cells = #[z]) (hz1 : z.oneCell' = true)
    (v : Value) (n : Nat) (xs : List Value) (hown : w.ownsRow 0 e 1 v n xs) (k : Nat) (hnk : n + k ≤ maxLen) (hbytes : (n + k) * bytes ≤ 140737488355328) :
    ∃ v' w', (Builtin.append_ #[t, tn] ty #[v, .int .i64 k]).run P w = .ok v' w' ∧ w'.ownsRow 0 e 1 v' (n + k) (xs ++ List.replicate k z) ∧ w.grownBy w' v.ownBlock ∧ (v'.ownBlock = v.ownBlock ∨ v'.ownBlock = some w.heap.size) := by
  subst hby
  have hzc : ∀ m, (Builtin.zeroCells z.cells m).toList = List.replicate m z := fun m => by
    rw [hzs]
    apply List.ext_getElem?
    intro j
    by_cases hj : j < m <;> simp [Builtin.zeroCells, hj, Nat.mod_one]
  have hlen : (xs ++ List.replicate k z).length = n + k := by rw [List.length_append, hown.1, List.length_replicate]; omega
  have hm63 : n + k ≤ 9223372036854775807 := by unfold maxLen at hnk; omega
  have hkb : k * i.bytes ≤ 281474976710656 := by
    have := Nat.mul_le_mul_right i.bytes (show k ≤ n + k by omega)
    omega
  have grown : ∀ (old : Nat) (row : Option Nat),
      (w.drew.alloc (.cells (xs.toArray ++ Builtin.zeroCells z.cells k ++ Builtin.zeroCells z.cells (grownCap w (n + k) old e - (n + k))) e)).ownsRow 0 e 1
        (.slice (some ⟨w.heap.size, 0, none⟩) (n + k) (grownCap w (n + k) old e)) (n + k) (xs ++ List.replicate k z) ∧
      w.grownBy (w.drew.alloc (.cells (xs.toArray ++ Builtin.zeroCells z.cells k ++ Builtin.zeroCells z.cells (grownCap w (n + k) old e - (n + k))) e)) row := by
    intro old row
    have hge := grownCap_ge w (n + k) old e
    have hcm : grownCap w (n + k) old e ≤ maxLen := grownCap_le_maxLen w (n + k) old e hnk
    refine ⟨⟨by rw [hlen]; omega, .inr ⟨w.heap.size, _, _, rfl, Nat.zero_le _, heap_alloc_new w.drew _, hge, hcm, ?_, ?_⟩⟩, ⟨rfl, rfl, rfl, by simp, fun k hk _ => heap_alloc_old w.drew _ hk⟩⟩
    · have := hown.1
      simp only [Array.size_append, List.size_toArray, size_zeroCells, hzs, Nat.mul_one, List.size_toArray]
      simp
      omega
    · simp only [Array.toList_append, hzc]
      rw [Nat.mul_one, ← hlen]
      exact List.take_left
  rcases hown.2 with ⟨rfl, rfl⟩ | ⟨g, cap, cur, rfl, hbg, hg, hnc, hcm, hcs, htake⟩
  · have hx : xs = [] := List.eq_nil_of_length_eq_zero (by simpa using hown.1)
    subst hx
    rcases Nat.eq_zero_or_pos k with rfl | hk
    · refine ⟨_, w, ?_, by simpa using World.ownsRow_nil w 0 e 1, ⟨rfl, rfl, rfl, Nat.le_refl _, fun _ _ _ => rfl⟩, .inl rfl⟩
      have hw : IntKind.i64.wrap 0 = 0 := by decide
      simp [Builtin.append_, run_underlying ht, run_underlying htn, sizeOf, typeInfo, hi, asInt, asIntOf, hw]
    · have hr := Lib.run_append_nil_zeros (P := P) w t tn ty e i z .i64 .i64 ht htn hi hz k hk (by omega) (by omega) hkb
      obtain ⟨g1, g2⟩ := grown 0 none
      simp only [Nat.zero_add] at g1 g2
      refine ⟨_, _, hr, ?_, ?_, .inr rfl⟩
      · have : (([] : List Value).toArray ++ Builtin.zeroCells z.cells k) = Builtin.zeroCells z.cells k := by simp
        rw [this] at g1
        rw [Nat.zero_add]
        exact g1
      · have : (([] : List Value).toArray ++ Builtin.zeroCells z.cells k) = Builtin.zeroCells z.cells k := by simp
        rw [this] at g2
        exact g2
  · have hw : IntKind.i64.wrap (k : Int) = k := by rw [IntKind.wrap_i64]; omega
    have hcl : cur.toList.length = cap := by rw [Array.length_toList, hcs, Nat.mul_one]
    have hxl : xs.length = n := by rw [hown.1, Nat.mul_one]
    rcases Nat.lt_or_ge cap (n + k) with hlt | hroom
    · have hold : (Builtin.firstCells i.size n (.slice (some ⟨g, 0, none⟩) n cap)).run P w.drew = .ok xs.toArray w.drew := by
        rw [hsize]
        exact run_firstCells_some w.drew 1 n ⟨g, 0, none⟩ n cap xs (by rw [hxl]; omega) (fun j v hj => by
          have := hown.cells (g := g) rfl j v hj
          exact this)
      have hr := Lib.run_append_grow_zeros (P := P) w t tn ty e i z .i64 .i64 ht htn hi hz (some ⟨g, 0, none⟩) n cap xs hold k (by omega) (by omega) hlt (by omega) hkb (growslice_fits hlt hbytes)
      obtain ⟨g1, g2⟩ := grown cap (some g)
      exact ⟨_, _, hr, g1, g2, .inr rfl⟩
    · rcases Nat.eq_zero_or_pos k with rfl | hk
      · refine ⟨.slice (some ⟨g, 0, none⟩) (n + 0) cap, w, ?_, by simpa using hown, ⟨rfl, rfl, rfl, Nat.le_refl _, fun _ _ _ => rfl⟩, .inl rfl⟩
        have hw0 : IntKind.i64.wrap 0 = 0 := by decide
        simp [Builtin.append_, run_underlying ht, run_underlying htn, sizeOf, typeInfo, hi, asInt, asIntOf, hw0, hnc, storeCells]
      · have hst := run_storeCells_at P g n e (List.replicate k z) 0 cur w hg (by rw [List.length_replicate]; have := hcs; omega) (fun v hv => by rw [(List.mem_replicate.1 hv).2]; exact hz1)
        simp only [Nat.add_zero, List.length_replicate] at hst
        have hks : ¬ (k = 0) := by omega
        have hneg : ¬ ((k : Int) < 0) := by omega
        have h48i : ¬ (281474976710656 < (k : Int) * (i.bytes : Int)) := by
          rw [← Int.natCast_mul]
          omega
        have hr : (Builtin.append_ #[t, tn] ty #[.slice (some ⟨g, 0, none⟩) n cap, .int .i64 k]).run P w = .ok (.slice (some ⟨g, 0, none⟩) (n + k) cap) (w.setRow g (cur.toList.take n ++ List.replicate k z ++ cur.toList.drop (n + k)).toArray) := by
          simp [Builtin.append_, run_underlying ht, run_underlying htn, sizeOf, typeInfo, zeroValue, hi, hz, asInt, asIntOf, hw, hneg, h48i, hsize, hks, hroom, Addr.add_lit, hzc, hst]
        refine ⟨_, _, hr, ⟨by rw [hlen]; omega, .inr ⟨g, cap, _, rfl, hbg, setRow_heap w g cur _ e _ hg, hroom, hcm, ?_, ?_⟩⟩, ⟨rfl, rfl, rfl, by simp, fun k hk hn => setRow_other w g k _ (fun e => hn (by simp [e, Value.ownBlock]))⟩, .inl rfl⟩
        · simp only [List.size_toArray, List.length_append, List.length_take, List.length_drop, List.length_replicate, hcl]
          omega
        · rw [Nat.mul_one] at htake ⊢
          show ((cur.toList.take n ++ List.replicate k z) ++ cur.toList.drop (n + k)).take (n + k) = _
          rw [htake, ← hlen]
          exact List.take_left
end
theorem SepF.perm {F : List Nat} {w0 wr : World} {ts us : List Thing} (h : SepF F w0 wr ts) (hp : us.Perm ts) : SepF F w0 wr us :=
  h.conv (List.Perm.flatMap_right _ hp) fun u hu => h.hold u (hp.mem_iff.1 hu)
/-- the third thing in front -/
theorem SepF.front3 {F : List Nat} {w0 wr : World} {ts : List Thing} {a b c : Thing} (h : SepF F w0 wr (a :: b :: c :: ts)) : SepF F w0 wr (c :: a :: b :: ts) :=
  h.perm (List.perm_middle (l₁ := [a, b])).symm
/-- append of zero values, on one of the things -/
theorem SepF.zeros {P : Program} {α : Type} {E : Rep α} {val : α → Value} {F : List Nat} {w0 w : World} {ts : List Thing} {i : Nat} {xs : List α} {v : Value} {fp : List Nat} {z0 : α} (hF : Flat1 E val) (h : SepF F w0 w ts) (t tn ty e : TypeId) (ii : TypeInfo) (z : Value) (bytes : Nat) (hi : ts[i]? = some (tsl E e xs v fp)) (ht : P.underlying t = some (.slice e)) (htn : P.underlying tn = some (.int .i64)) (hin : P.info? e = some ii) (hz : ii.zero = some z) (hsize : ii.size = 1) (hby : ii.bytes = bytes) (hzs : z.cells = #[z]) (hz1 : z.oneCell' = true)
    (hv : val z0 = z) (hz0 : ∀ w, E.own w z0 [z] []) (k : Nat) (hnk : xs.length + k ≤ maxLen) (hbytes : (xs.length + k) * bytes ≤ 140737488355328) :
    ∃ v' w' fp', (Builtin.append_ #[t, tn] ty #[v, .int .i64 k]).run P w = .ok v' w' ∧ SepF F w0 w' (ts.set i (tsl E e (xs ++ List.replicate k z0) v' fp')) := by
  have hs : SlOwn E e w xs v fp := h.at_ i hi
  obtain ⟨ho, hfp, hx⟩ := hF.owns hs
  obtain ⟨v', w', h1, h2, h3, h4⟩ := run_append_own_zeros (P := P) w (ty := ty) t tn e ii z bytes ht htn hin hz hsize hby hzs hz1 v _ _ ho k hnk hbytes
  refine ⟨v', w', v'.ownBlock.toList, h1, h.upd hi ⟨h3.os, h3.tape, h3.output, h3.size, fun b hb hn => h3.block b hb (fun e => hn (by rw [hfp]; show b ∈ v.ownBlock.toList; rw [← e]; simp))⟩ (t' := tsl E e (xs ++ List.replicate k z0) v' v'.ownBlock.toList) ?_ (by simp only [tsl]; cases v'.ownBlock <;> simp) (fun b hb => ?_)⟩
  · refine hF.row ?_ (fun x hm => ?_)
    · rw [List.length_append, List.length_replicate, List.map_append, List.map_replicate, hv]
      exact h2
    · rcases List.mem_append.1 hm with hm | hm
      · exact hx x hm _
      · rw [(List.mem_replicate.1 hm).2, hv]; exact hz0 _
  · simp only [tsl] at hb ⊢
    rw [hfp]
    rcases h4 with h4 | h4
    · rw [h4] at hb; exact .inl hb
    · rw [h4] at hb; simp at hb; exact .inr (by omega)
end Mm
end Go.Proofs.Ytaepohocabealaa
