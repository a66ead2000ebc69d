/-
  Joined texts, in build order: K9, Ka, Kb, Jv, Jx, Jz, M0, M1. Each part says what it proves; no conditions beyond those that a part names.
-/
import Derived.Test.YtbhmdnjammnlnaaGreatDoorZ06
set_option linter.unusedVariables false
set_option linter.unusedSimpArgs false
/-
  Memory: an element put among others by three appends, the element laid between them. No conditions beyond those named.
-/
namespace Go.Proofs.YtbhmdnjammnlnaaGreatDoor
open Go.RowKit
namespace Mm
section
variable {α : Type} {E : Rep α} {e : TypeId} {w : World} {xs : List α} {v : Value} {fp : List Nat}
/-- the element laid later than the slice, the new slice later than both or between them -/
theorem SlOwn.insLate (h : SlOwn E e w xs v fp) {k : Nat} (hk : k ≤ xs.length) (hnd : fp.Nodup) :
    ∃ l, w.ownsRow 0 e E.size v xs.length l ∧ (∀ u ∈ l, u.oneCell' = true) ∧ ∀ w' v' x cx fx, Below w.heap.size w w' → E.own w' x cx fx → fx.Nodup → (∀ b, b ∈ fx → w.heap.size ≤ b) → w'.ownsRow 0 e E.size v' (xs.length + 1) (l.take (k * E.size) ++ cx ++ l.drop (k * E.size)) → (∀ g, v'.ownBlock = some g → w.heap.size ≤ g ∧ g ∉ fx) →
      ∃ fp', SlOwn E e w' (insertAt xs k x) v' fp' ∧ fp'.Nodup ∧ ∀ b, b ∈ fp' → b ∈ fp ∨ w.heap.size ≤ b := by
  have hlt := h.olt
  obtain ⟨es, he, ho, rfl⟩ := h
  refine ⟨_, ho, fun u hu => ?_, fun w' v' x cx fx hb hx hxd hxf ho' hat => ?_⟩
  · obtain ⟨y, hy, hu⟩ := List.mem_flatMap.1 hu
    obtain ⟨z, _, hz⟩ := he.mem hy
    exact E.one hz u hu
  have hkeep : ∀ b, b ∈ es.flatMap (·.2) → w'.heap[b]? = w.heap[b]? := fun b hb' => hb.block b (hlt b (List.mem_append_right _ hb'))
  have hke : k ≤ es.length := by rw [he.1]; exact hk
  have hp : ((insertAt es k (cx, fx)).flatMap (·.2)).Perm (fx ++ es.flatMap (·.2)) := by
    have := (insertAt_perm es k (cx, fx)).flatMap_right (fun y => y.2)
    rwa [List.flatMap_cons] at this
  refine ⟨_, ⟨insertAt es k (cx, fx), ⟨by rw [insertAt_len, insertAt_len, he.1], fun i y z hy hz => ?_⟩, ?_, rfl⟩, ?_, ?_⟩
  · rcases insertAt_get hk hy with ⟨h1, h2⟩ | ⟨h1, h2⟩ | ⟨h1, h2⟩
    · rcases insertAt_get hke hz with ⟨g1, g2⟩ | ⟨g1, g2⟩ | ⟨g1, g2⟩
      · exact E.okeep (he.2 i y z h2 g2) fun b hb => hkeep b (List.mem_flatMap.2 ⟨z, List.mem_of_getElem? g2, hb⟩)
      · omega
      · omega
    · rcases insertAt_get hke hz with ⟨g1, g2⟩ | ⟨g1, g2⟩ | ⟨g1, g2⟩
      · omega
      · subst h2; subst g2
        exact hx
      · omega
    · rcases insertAt_get hke hz with ⟨g1, g2⟩ | ⟨g1, g2⟩ | ⟨g1, g2⟩
      · omega
      · omega
      · exact E.okeep (he.2 _ y z h2 g2) fun b hb => hkeep b (List.mem_flatMap.2 ⟨z, List.mem_of_getElem? g2, hb⟩)
  · rw [insertAt_len, insertAt_flat (·.1) E.size es k (cx, fx) he.len]
    exact ho'
  · have h1 : v'.ownBlock.toList.Nodup := by cases v'.ownBlock <;> simp
    rw [List.nodup_append] at hnd ⊢
    refine ⟨h1, ?_, fun a ha b hb hab => ?_⟩
    · rw [hp.nodup_iff, List.nodup_append]
      exact ⟨hxd, hnd.2.1, fun a ha b hb hab => by
        subst hab
        have := hxf a ha
        have := hlt a (List.mem_append_right _ hb)
        omega⟩
    · subst hab
      have h2 := hat a (by simpa using ha)
      rcases List.mem_append.1 (hp.mem_iff.1 hb) with hb | hb
      · exact h2.2 hb
      · have := hlt a (List.mem_append_right _ hb); omega
  · intro b hb
    rcases List.mem_append.1 hb with hb | hb
    · exact .inr (hat b (by simpa using hb)).1
    · rcases List.mem_append.1 (hp.mem_iff.1 hb) with hb | hb
      · exact .inr (hxf b hb)
      · exact .inl (List.mem_append_right _ hb)
theorem SepF.insLate {F : List Nat} {w0 wr : World} {ts : List Thing} (h : SepF F w0 wr ts) (i : Nat) {k : Nat} (hi : ts[i]? = some (tsl E e xs v fp)) (hk : k ≤ xs.length) :
    ∃ l, wr.ownsRow 0 e E.size v xs.length l ∧ (∀ u ∈ l, u.oneCell' = true) ∧ ∀ w' v' x cx fx, Below wr.heap.size wr w' → E.own w' x cx fx → fx.Nodup → (∀ b, b ∈ fx → wr.heap.size ≤ b) → w'.ownsRow 0 e E.size v' (xs.length + 1) (l.take (k * E.size) ++ cx ++ l.drop (k * E.size)) → (∀ g, v'.ownBlock = some g → wr.heap.size ≤ g ∧ g ∉ fx) →
      ∃ fp', SepF F w0 w' (ts.set i (tsl E e (insertAt xs k x) v' fp')) := by
  obtain ⟨l, k1, k2, k3⟩ := (h.sl i hi).insLate hk (h.ndat hi)
  refine ⟨l, k1, k2, fun w' v' x cx fx hb hx hxd hxf ho' hat => ?_⟩
  obtain ⟨fp', m1, m2, m3⟩ := k3 w' v' x cx fx hb hx hxd hxf ho' hat
  exact ⟨fp', h.upd hi (Chg.of_below hb) m1 m2 m3⟩
end
theorem rowKeepK {w w' : World} {base S : Nat} {e : TypeId} {v : Value} {n : Nat} {xs : List Value} (h : w.ownsRow base e S v n xs) (hk : ∀ g, v.ownBlock = some g → w'.heap[g]? = w.heap[g]?) : w'.ownsRow base e S v n xs := by
  refine ⟨h.1, h.2.imp id ?_⟩
  rintro ⟨g, cap, cur, rfl, h1, h2, h3⟩
  exact ⟨g, cap, cur, rfl, h1, (hk g rfl).trans h2, h3⟩
theorem rowFormK {w : World} {S : Nat} {e : TypeId} {v : Value} {n : Nat} {xs : List Value} (h : w.ownsRow 0 e S v n xs) : ∃ A c, v = .slice A n c := by
  rcases h.2 with ⟨h1, h2⟩ | ⟨g', cap, cur, h1, _⟩
  · exact ⟨none, 0, by rw [h1, h2]⟩
  · exact ⟨_, cap, h1⟩
end Mm
set_option maxRecDepth 100000 in
theorem put3R (W : World) (A1 A3 : Option Addr) (n p m3 c1 c3 : Nat) (lc : List Value) (ho : W.ownsRow 0 139 2 (.slice A1 n c1) n lc) (h1c : ∀ u ∈ lc, u.oneCell' = true) (hp : p ≤ n) (hn : n ≤ 100) (hA1 : A1 = none → p = 0 ∧ c1 = 0) (hm : m3 = n - p) (hA3 : A3 = none → m3 = 0 ∧ c3 = 0) (hs1 : ∀ a, A1 = some a → ∀ j u, (lc.take (p * 2))[j]? = some u → W.cell? (a.add j) = some u) (hs3 : ∀ a, A3 = some a → ∀ j u, (lc.drop (p * 2))[j]? = some u → W.cell? (a.add j) = some u) :
    ∃ A8 c8 w8, (∀ ty, (Builtin.append_ #[71, 71] ty #[.slice (some ⟨W.heap.size, 0, none⟩) 0 0, .slice A1 p c1]).run Tryz.prog (W.alloc (.cells #[] 139)) = .ok (.slice A8 p c8) w8) ∧ Below W.heap.size W w8 ∧ (∀ g, (Value.slice A8 p c8).ownBlock = some g → W.heap.size ≤ g ∧ g < w8.heap.size) ∧
    ∀ V (ct : List Value), Below w8.heap.size w8 V → ct.length = 2 → (∀ u ∈ ct, u.oneCell' = true) →
    ∃ A10 c10 w10, (∀ ty, (Builtin.append_ #[71, 71] ty #[.slice A8 p c8, .slice (some ⟨V.heap.size, 0, none⟩) 1 1]).run Tryz.prog (V.alloc (.cells ct.toArray 139)) = .ok (.slice A10 (p + 1) c10) w10) ∧
    (∀ k, k < V.heap.size → (Value.slice A8 p c8).ownBlock ≠ some k → w10.heap[k]? = V.heap[k]?) ∧
    ∃ A11 c11 w11, (∀ ty, (Builtin.append_ #[71, 71] ty #[.slice A10 (p + 1) c10, .slice A3 m3 c3]).run Tryz.prog w10 = .ok (.slice A11 (n + 1) c11) w11) ∧
      w11.ownsRow 0 139 2 (.slice A11 (n + 1) c11) (n + 1) (lc.take (p * 2) ++ ct ++ lc.drop (p * 2)) ∧ Below W.heap.size W w11 ∧ (∀ k, k < V.heap.size → (Value.slice A8 p c8).ownBlock ≠ some k → w11.heap[k]? = V.heap[k]?) ∧ (∀ g, (Value.slice A11 (n + 1) c11).ownBlock = some g → (Value.slice A8 p c8).ownBlock = some g ∨ V.heap.size ≤ g) := by
  obtain ⟨i0, hi, hz0, hzs, hzb⟩ := info_parts Tryz.infoRowI
  have hcl := ho.1
  have hU := Tryz.underlying71
  have k0 : Below W.heap.size W (W.alloc (.cells #[] 139)) := below_new (Below.refl _ _) _
  have hblk : ∀ {V : World}, Below W.heap.size W V → ∀ (a : Addr) j u, W.cell? (a.add j) = some u → V.cell? (a.add j) = some u := fun hb a j u h => below_some hb h
  have r0 : (W.alloc (.cells #[] 139)).ownsRow 0 139 2 (.slice (some ⟨W.heap.size, 0, none⟩) 0 0) 0 [] := ⟨rfl, .inr ⟨W.heap.size, 0, #[], rfl, Nat.zero_le _, heap_alloc_new W _, Nat.le_refl _, Nat.zero_le _, rfl, rfl⟩⟩
  have ap : ∀ {V : World} {v : Value} {nn : Nat} {xs news : List Value} {A : Option Addr} {mm cc : Nat}, V.ownsRow 0 139 2 v nn xs → (A = none → mm = 0 ∧ cc = 0) → news.length = mm * 2 → (∀ a, A = some a → ∀ j u, news[j]? = some u → V.cell? (a.add j) = some u) → (∀ u ∈ news, u.oneCell' = true) → nn + mm ≤ 1000 →
      ∃ v' w', (∀ ty, (Builtin.append_ #[71, 71] ty #[v, .slice A mm cc]).run Tryz.prog V = .ok v' w') ∧ w'.ownsRow 0 139 2 v' (nn + mm) (xs ++ news) ∧ V.grownBy w' v.ownBlock ∧ (v'.ownBlock = v.ownBlock ∨ v'.ownBlock = some V.heap.size) := by
    intro V v nn xs news A mm cc q1 q2 q3 q4 q5 q6
    obtain ⟨v', w', hr, h2, h3, h4⟩ := Mm.run_append_row (P := Tryz.prog) (w := V) 71 0 i0 _ 2 40 hU hi hz0 hzs hzb rfl (by omega) q1 q2 q3 q4 q5 (by unfold maxLen; omega) (by omega)
    exact ⟨v', w', fun ty => hr, h2, h3, h4⟩
  obtain ⟨v8, w8, e1, r1, g1, o1⟩ := ap r0 hA1 (by rw [List.length_take, hcl]; omega) (fun a ha j u hj => hblk k0 a j u (hs1 a ha j u hj)) (fun u hu => h1c u (List.mem_of_mem_take hu)) (by omega)
  rw [Nat.zero_add, List.nil_append] at r1
  obtain ⟨A8, c8, rfl⟩ := Mm.rowFormK r1
  have k1 : Below W.heap.size W w8 := k0.grown g1 k0.size (fun k hk => by simp [Value.ownBlock] at hk; omega)
  have n1 : ∀ g, (Value.slice A8 p c8).ownBlock = some g → W.heap.size ≤ g ∧ g < w8.heap.size := fun g hg => ⟨by
    rcases o1 with h | h
    · rw [hg] at h; simp [Value.ownBlock] at h; omega
    · rw [hg] at h; injection h with h; have := k0.size; omega, (r1.lt g hg).2⟩
  refine ⟨A8, c8, w8, e1, k1, n1, fun V ct hV hct h1 => ?_⟩
  have kV : Below W.heap.size W V := below_step k1 hV
  have k2 : Below W.heap.size W (V.alloc (.cells ct.toArray 139)) := below_new kV _
  have hsz : w8.heap.size ≤ V.heap.size := hV.size
  have r2 : (V.alloc (.cells ct.toArray 139)).ownsRow 0 139 2 (.slice A8 p c8) p (lc.take (p * 2)) := Mm.rowKeepK r1 (fun g hg => (heap_alloc_old V _ (Nat.lt_of_lt_of_le (n1 g hg).2 hsz)).trans (hV.block g (n1 g hg).2))
  have nb := Mm.Blk.new V 139 ct
  obtain ⟨v10, w10, e2, r3, g2, o2⟩ := ap (A := some ⟨V.heap.size, 0, none⟩) (mm := 1) (cc := 1) (news := ct) r2 (fun h => by cases h) (by omega) (fun a ha j u hj => by injection ha with ha; subst ha; rw [Mm.add0]; exact nb.cell hj) h1 (by omega)
  obtain ⟨A10, c10, rfl⟩ := Mm.rowFormK r3
  have k3 : Below W.heap.size W w10 := k2.grown g2 k2.size (fun k hk => (n1 k hk).1)
  have hs2 : (V.alloc (.cells ct.toArray 139)).heap.size = V.heap.size + 1 := Mm.sz1 _ _
  have hK1 : ∀ k, k < V.heap.size → (Value.slice A8 p c8).ownBlock ≠ some k → w10.heap[k]? = V.heap[k]? := fun k hk hn => (g2.block k (by omega) (fun hh => hn hh.symm)).trans (heap_alloc_old V _ hk)
  have n2 : ∀ g, (Value.slice A10 (p + 1) c10).ownBlock = some g → (Value.slice A8 p c8).ownBlock = some g ∨ V.heap.size ≤ g := fun g hg => by
    rcases o2 with h | h
    · rw [hg] at h; exact .inl h.symm
    · rw [hg] at h; injection h with h; exact .inr (by omega)
  have n2' : ∀ g, (Value.slice A10 (p + 1) c10).ownBlock = some g → W.heap.size ≤ g := fun g hg => by
    rcases n2 g hg with h | h
    · exact (n1 g h).1
    · have := kV.size; omega
  refine ⟨A10, c10, w10, e2, hK1, ?_⟩
  obtain ⟨v11, w11, e3, r4, g3, o3⟩ := ap r3 hA3 (by rw [List.length_drop, hcl, hm]; omega) (fun a ha j u hj => hblk k3 a j u (hs3 a ha j u hj)) (fun u hu => h1c u (List.mem_of_mem_drop hu)) (by omega)
  rw [show p + 1 + m3 = n + 1 by omega] at r4
  obtain ⟨A11, c11, rfl⟩ := Mm.rowFormK r4
  have hs10 : V.heap.size < w10.heap.size := by have := g2.size; omega
  refine ⟨A11, c11, w11, e3, r4, k3.grown g3 k3.size (fun k hk => n2' k hk), fun k hk hn => ?_, fun g hg => ?_⟩
  · refine (g3.block k (by omega) (fun hh => ?_)).trans (hK1 k hk hn)
    rcases n2 k hh.symm with h | h
    · exact hn h
    · omega
  · rcases o3 with h | h
    · rw [hg] at h; exact n2 g h.symm
    · rw [hg] at h; injection h with h; exact .inr (by omega)
end Go.Proofs.YtbhmdnjammnlnaaGreatDoor

/-
  Contract: a measurement put into a head, the reference's (l13Take). No conditions beyond those named.
-/
namespace Go.Proofs.YtbhmdnjammnlnaaGreatDoor
open Go.RowKit
attribute [local go_sem] und_cell cha_cell World.cell?_alloc_some
def TakeR (h : Head) (x : Say) (fp : List Nat) (w : World) (e : Ending) (w' : World) : Prop :=
  ∃ A' m' d' fp', e = .returned (.tuple #[.agg #[.slice A' m' d', .int .i64 (h.Offset + 1)], .int .i64 (Pl.takeS h x).2]) ∧ Mm.SepF fp w w' [Mm.tsl rRow 139 (Pl.takeS h x).1.Rows (.slice A' m' d') fp']
theorem Mm.oneSmp {w : World} {g : Nat} {x : Sample} (hb : Mm.Blk w g 124 [.int .i64 x.At, .int .i64 x.Value]) (hi : Mm.I64 x.At ∧ Mm.I64 x.Value) : Mm.SlOwn smp 124 w [x] (.slice (some ⟨g, 0, none⟩) 1 1) [g] := by
  refine ⟨[([.int .i64 x.At, .int .i64 x.Value], [])], ⟨rfl, fun i a b ha hb => ?_⟩, ?_, by simp [Value.ownBlock]⟩
  · cases i with
    | zero => simp at ha hb; subst ha; subst hb; exact smp_own_mk hi
    | succ i => simp at ha
  · exact ⟨rfl, .inr ⟨g, 1, _, rfl, Nat.zero_le _, hb, Nat.le_refl _, by unfold maxLen; omega, rfl, rfl⟩⟩
set_option maxRecDepth 100000 in
set_option maxHeartbeats 4000000 in
theorem l13Take_c (h : Head) (x : Say) (A : Option Addr) (m d : Nat) (fp : List Nat) (w : World) (hs : Mm.SlOwn rRow 139 w h.Rows (.slice A m d) fp) (hnd : fp.Nodup) (hw : Pl.HW h) (off : 0 ≤ h.Offset ∧ h.Offset ≤ 1000000) (nm : x.Name.size ≤ maxLen) (ia : Mm.I64 x.At) (iv : Mm.I64 x.Value) :
    Calls Tryz.prog 128 #[.agg #[.slice A m d, .int .i64 h.Offset], .agg #[.string x.Name, .int .i64 x.At, .int .i64 x.Value]] w (TakeR h x fp w) := by
  have HML : Hid (m = h.Rows.length) := by obtain ⟨_, _, _, hv, q1, _⟩ := hs.form; injection hv with _ q2 _; exact q2.trans q1
  have HW := Lib.hid hw
  have hm8 : m ≤ 8 := by rw [HML.out]; exact hw.len
  have hf0 := off.1
  have hf1 := off.2
  have HI := Lib.hid (show Mm.I64 x.At ∧ Mm.I64 x.Value from ⟨ia, iv⟩)
  have HNM := Lib.hid nm
  obtain ⟨o1, ho1⟩ : ∃ o1, h.Offset + 1 = o1 := ⟨_, rfl⟩
  have f1 : IntKind.i64.wrap (h.Offset + 1) = o1 := by rw [IntWalk.i64_in _ (by omega)]; exact ho1
  have HO1 := Lib.hid ho1
  obtain ⟨p, hp⟩ : ∃ p, Pl.rpos x.Name h.Rows = p := ⟨_, rfl⟩
  have HP := Lib.hid hp
  have hpm : p ≤ m := by rw [HML.out, ← hp]; exact Pl.rpos_le _ _
  have HS0 : Mm.SepF fp w w [Mm.tsl rRow 139 h.Rows (.slice A m d) fp] := Mm.SepF.one (Mm.tsl rRow 139 h.Rows (.slice A m d) fp) w hs hnd
  obtain ⟨gh, hgh⟩ : ∃ g, w.heap.size = g := ⟨_, rfl⟩
  obtain ⟨gx, hgx⟩ : ∃ g, gh + 1 = g := ⟨_, rfl⟩
  obtain ⟨gr, hgr⟩ : ∃ g, gx + 1 = g := ⟨_, rfl⟩
  obtain ⟨W0, hW0⟩ : ∃ W, ((w.alloc (.cells #[.slice A m d, .int .i64 h.Offset] 73)).alloc (.cells #[.string x.Name, .int .i64 x.At, .int .i64 x.Value] 55)).alloc (.cells #[.slice none 0 0, .int .i64 0] 73) = W := ⟨_, rfl⟩
  have HS := Lib.hid ((((HS0.alloc' hgh 73 [.slice A m d, .int .i64 h.Offset]).alloc' (g := gx) (by rw [Mm.sz1, hgh, hgx]) 55 [.string x.Name, .int .i64 x.At, .int .i64 x.Value]).alloc' (g := gr) (by rw [Mm.sz1, Mm.sz1, hgh, hgx, hgr]) 73 [.slice none 0 0, .int .i64 0]).atW hW0)
  clear HS0 hs hnd hw off nm ia iv ho1 hp
  go_enter Tryz.func128, Tryz.ntmps128
  go_upto_region 1 with fail
  clear hW0 hgh hgx hgr
  have b1 := HS.out.cell (k := 1) 2 rfl rfl
  have z1 := HS.out.frz (k := 1) 2 rfl
  go_upto_region 2 with fail
  obtain ⟨W2, hW2⟩ : ∃ W, W0.setCell ⟨gh, 1, none⟩ (.int .i64 o1) = W := ⟨_, rfl⟩
  have HS2 := Lib.hid ((HS.out.setBlk (k := 1) 2 rfl (.int .i64 o1)).atW hW2)
  rw [hW2]
  clear hW2 HS b1 z1 f1
  go_upto_block 0 with fail
  go_cut [6] (fun s6 wx => s6 = .int .i64 p ∧ Hid (Below W2.heap.size W2 wx))
  case first =>
    go_wp2_with fail
    go_loopg [6] m (fun g i wr => ∃ k : Nat, m - k ≤ g ∧ k ≤ p ∧ i = .int .i64 k ∧ Hid (Below W2.heap.size W2 wr))
    case atStart => exact ⟨0, Nat.le_refl _, Nat.zero_le _, rfl, Below.refl _ _⟩
    case round =>
      obtain ⟨k, hg, hk, rfl, HB⟩ := hrel
      obtain ⟨W, rfl⟩ : ∃ W : World, W = wr := ⟨_, rfl⟩
      have HSW := Lib.hid (HS2.out.step HB.out)
      have c0 := HSW.out.cell (k := 0) 2 rfl rfl
      by_cases hlt : k < m
      · obtain ⟨y, b, off, A4, n4, c4, hy, rfl, hb, hnm, hrd, e0, -⟩ := rRow_get ((HSW.out.sl 3 rfl).weak (HSW.out.sl 3 rfl).olt) hlt
        have s0 := HSW.out.cell (k := 0) 1 rfl rfl
        have HY := Lib.hid hy
        have f1 : (k : Int) < (m : Nat) := by omega
        have f2 : (0 : Int) ≤ (k : Nat) := by omega
        have f3 : ((k : Nat) : Int).toNat = k := by omega
        clear hy hb hnm hrd
        cases hls : Pl.lessB (Pl.rnm y) x.Name with
        | true =>
          have hkp : k < p := by
            apply Classical.byContradiction
            intro hh
            have := Pl.rpos_ge x.Name h.Rows HW.out.srt k y (by have := HP.out; omega) HY.out
            rw [hls] at this; cases this
          have hq : Op.bytesLess y.Name.toList x.Name.toList = true := hls
          clear hls
          go_wp2
          refine wp_region_und (by kernel_rfl) (by kernel_rfl) ?_
          repeat (go_big_quiet_step ((first | fail)))
          refine wpQuiet_nil ?_
          intro X hX
          go_wp2
          go_roundg (m - (k + 1))
          case measure => omega
          case rel => exact ⟨k + 1, Nat.le_refl _, by omega, by go_num, below_step HB.out hX⟩
        | false =>
          have HKP : Hid (k = p) := by
            show k = p
            apply Classical.byContradiction
            intro hh
            have := Pl.rpos_lt x.Name h.Rows k y (by have := HP.out; omega) HY.out
            rw [hls] at this; cases this
          have hq : Op.bytesLess y.Name.toList x.Name.toList = false := hls
          clear hls
          go_wp2
          refine wp_region_und (by kernel_rfl) (by kernel_rfl) ?_
          repeat (go_big_quiet_step ((first | fail)))
          refine wpQuiet_nil ?_
          intro X hX
          go_wp2
          go_meet
          exact ⟨by rw [HKP.out], below_step HB.out hX⟩
      · have f1 : ¬ (k : Int) < (m : Nat) := by omega
        have f4 : decide (k < m) = false := by simp; omega
        have HKP : Hid (k = p) := by show k = p; omega
        clear hlt
        go_wp2
        refine wp_region_und (by kernel_rfl) (by kernel_rfl) ?_
        repeat (go_big_quiet_step ((first | fail)))
        refine wpQuiet_nil ?_
        intro X hX
        go_wp2
        go_meet
        exact ⟨by rw [HKP.out], below_step HB.out hX⟩
  case rest =>
  obtain ⟨rfl, HB⟩ := hcut
  obtain ⟨W, rfl⟩ : ∃ W : World, W = wc := ⟨_, rfl⟩
  have HS := Lib.hid (HS2.out.step HB.out)
  clear HS2 HB
  have s1 := HS.out.cell (k := 1) 1 rfl rfl
  have s2 := HS.out.cell (k := 2) 1 rfl rfl
  go_upto_region 6 with fail
  obtain ⟨gs, hgs⟩ : ∃ g, W.heap.size = g := ⟨_, rfl⟩
  obtain ⟨W3, hW3⟩ : ∃ V, W.alloc (.cells #[.int .i64 x.At, .int .i64 x.Value] 124) = V := ⟨_, rfl⟩
  have HS3 := Lib.hid ((HS.out.alloc' hgs 124 [.int .i64 x.At, .int .i64 x.Value]).atW hW3)
  rw [hW3, hgs]
  clear hW3 hgs HS s1 s2
  have c0 := HS3.out.cell (k := 0) 3 rfl rfl
  have s0 := HS3.out.cell (k := 0) 2 rfl rfl
  by_cases hit : ∃ r, h.Rows[p]? = some r ∧ r.Name = x.Name
  · obtain ⟨r, hr, hrn⟩ := hit
    have hne := HW.out.ne r (List.mem_of_getElem? hr)
    have HNE := Lib.hid hne
    have HMS : Hid (Pl.takeS h x = Pl.hitS h p r x) := Lib.hid (by rw [← HP.out]; exact Pl.takeS_hit (by rw [HP.out]; exact hr) hrn)
    have HR := Lib.hid hr
    have hpl : p < m := by have := (List.getElem?_eq_some_iff.1 hr).1; have := HML.out; omega
    obtain ⟨g2, rfl, -, -⟩ := Mm.sl_addr (HS3.out.sl 4 rfl) (by show 0 < h.Rows.length; have := HML.out; omega)
    obtain ⟨_, _, _, _, r0, -⟩ := HS3.out.rowSam 4 rfl hr
    rw [hrn] at r0
    have HRN := Lib.hid hrn
    have f1 : (p : Int) < (m : Nat) := by omega
    have f2 : (0 : Int) ≤ (p : Nat) := by omega
    have f3 : ((p : Nat) : Int).toNat = p := by omega
    clear hr hrn hne
    refine wp_region_und (by kernel_rfl) (by kernel_rfl) ?_
    repeat (go_big_quiet_step ((first | fail)))
    refine wpQuiet_nil ?_
    intro X hX
    have HZ := Lib.hid (HS3.out.step hX)
    clear hX HS3 c0 s0 r0
    obtain ⟨As, ms, ds, fx2, -, r1, hsl, hso2, hfn2, hfx2, hrow⟩ := HZ.out.rowSam 4 rfl HR.out
    have HROW := Lib.hid hrow
    have HSO2 := Lib.hid (And.intro hso2 hfn2)
    have HFX := Lib.hid hfx2
    have HSL : Hid (ms = r.Samples.length) := hsl
    have c0 := HZ.out.cell (k := 0) 3 rfl rfl
    have s1 := HZ.out.cell (k := 1) 2 rfl rfl
    have hms0 : 0 < ms := by
      have h1 := HSL.out
      have h2 : r.Samples.length ≠ 0 := fun hh => HNE.out.1 (List.length_eq_zero_iff.1 hh)
      omega
    have hms40 : ms ≤ 40 := by have := HSL.out; have := HNE.out.2; omega
    obtain ⟨q, hq⟩ : ∃ q, ms - 1 = q := ⟨_, rfl⟩
    have hrd := HSO2.out.1.weak HSO2.out.1.olt
    obtain ⟨y, bm, om, hy, hAs, hbm, -, -, d0, -⟩ := smp_get hrd (show q < ms by omega)
    subst hAs
    have HLA : Hid (Pl.lastAt r = y.At) := Lib.hid (by unfold Pl.lastAt; rw [← HSL.out, hq, Pl.sampleAt_of hy])
    have g1 : (0 : Int) < (ms : Nat) := by omega
    have g2' : IntKind.i64.wrap ((ms : Int) - 1) = (q : Int) := by rw [IntWalk.i64_in _ (by omega)]; omega
    have g3 : (0 : Int) ≤ (q : Nat) := by omega
    have g4 : ((q : Nat) : Int).toNat = q := by omega
    have g5 : (q : Int) < (ms : Nat) := by omega
    clear hrd hy hbm hq hsl hso2 hfn2 hfx2 hrow
    by_cases c1 : y.At = x.At
    · as_aux_lemma =>
      have HF : Hid (Pl.takeS h x = (⟨h.Rows, o1⟩, 2)) := Lib.hid (by rw [HMS.out, ← HO1.out]; exact if_pos (by rw [HLA.out]; exact c1))
      have q1 : (y.At == x.At) = true := by simp [c1]
      clear c1
      have z0 := HZ.out.frz (k := 0) 1 rfl
      have z1 := HZ.out.frz (k := 1) 1 rfl
      have b0 := HZ.out.cell (k := 0) 1 rfl rfl
      have b1 := HZ.out.cell (k := 1) 1 rfl rfl
      have h0 := HZ.out.cell (k := 0) 3 rfl rfl
      have h1 := HZ.out.cell (k := 1) 3 rfl rfl
      have HSF := Lib.hid ((HZ.out.setBlk (k := 0) 1 rfl ((.slice (some ⟨g2, 0, none⟩) m d))).setBlk (k := 1) 1 rfl (.int .i64 o1))
      have u0 := HSF.out.cell (k := 0) 1 rfl rfl
      have u1 := HSF.out.cell (k := 1) 1 rfl rfl
      go_wp2
      exact bodyPost_ret (v := .tuple #[.agg #[(.slice (some ⟨g2, 0, none⟩) m d), .int .i64 o1], .int .i64 2]) (by simp [results, Tryz.results128, go_sem, u0, u1]) rfl ⟨_, _, _, _, by rw [HO1.out, HF.out], by rw [HF.out]; exact HSF.out.sel [4] (by decide) rfl⟩
    · have q1 : (y.At == x.At) = false := by simp [c1]
      by_cases c2 : x.At < y.At
      · as_aux_lemma =>
        have HF : Hid (Pl.takeS h x = (⟨h.Rows, o1⟩, 3)) := Lib.hid (by rw [HMS.out, ← HO1.out]; exact (if_neg (by rw [HLA.out]; exact c1)).trans (if_pos (by rw [HLA.out]; exact c2)))
        clear c1
        have z0 := HZ.out.frz (k := 0) 1 rfl
        have z1 := HZ.out.frz (k := 1) 1 rfl
        have b0 := HZ.out.cell (k := 0) 1 rfl rfl
        have b1 := HZ.out.cell (k := 1) 1 rfl rfl
        have h0 := HZ.out.cell (k := 0) 3 rfl rfl
        have h1 := HZ.out.cell (k := 1) 3 rfl rfl
        have HSF := Lib.hid ((HZ.out.setBlk (k := 0) 1 rfl ((.slice (some ⟨g2, 0, none⟩) m d))).setBlk (k := 1) 1 rfl (.int .i64 o1))
        have u0 := HSF.out.cell (k := 0) 1 rfl rfl
        have u1 := HSF.out.cell (k := 1) 1 rfl rfl
        go_wp2
        exact bodyPost_ret (v := .tuple #[.agg #[(.slice (some ⟨g2, 0, none⟩) m d), .int .i64 o1], .int .i64 3]) (by simp [results, Tryz.results128, go_sem, u0, u1]) rfl ⟨_, _, _, _, by rw [HO1.out, HF.out], by rw [HF.out]; exact HSF.out.sel [4] (by decide) rfl⟩
      · by_cases c3 : ms = 40
        · as_aux_lemma =>
          have HF : Hid (Pl.takeS h x = (⟨h.Rows, o1⟩, 4)) := Lib.hid (by rw [HMS.out, ← HO1.out]; exact (if_neg (by rw [HLA.out]; exact c1)).trans ((if_neg (by rw [HLA.out]; exact c2)).trans (if_pos (by rw [← HSL.out]; exact c3))))
          have q3 : ((ms : Int) == 40) = true := by rw [c3]; rfl
          clear c1 c3
          have z0 := HZ.out.frz (k := 0) 1 rfl
          have z1 := HZ.out.frz (k := 1) 1 rfl
          have b0 := HZ.out.cell (k := 0) 1 rfl rfl
          have b1 := HZ.out.cell (k := 1) 1 rfl rfl
          have h0 := HZ.out.cell (k := 0) 3 rfl rfl
          have h1 := HZ.out.cell (k := 1) 3 rfl rfl
          have HSF := Lib.hid ((HZ.out.setBlk (k := 0) 1 rfl ((.slice (some ⟨g2, 0, none⟩) m d))).setBlk (k := 1) 1 rfl (.int .i64 o1))
          have u0 := HSF.out.cell (k := 0) 1 rfl rfl
          have u1 := HSF.out.cell (k := 1) 1 rfl rfl
          go_wp2
          exact bodyPost_ret (v := .tuple #[.agg #[(.slice (some ⟨g2, 0, none⟩) m d), .int .i64 o1], .int .i64 4]) (by simp [results, Tryz.results128, go_sem, u0, u1]) rfl ⟨_, _, _, _, by rw [HO1.out, HF.out], by rw [HF.out]; exact HSF.out.sel [4] (by decide) rfl⟩
        · as_aux_lemma =>
          have HF : Hid (Pl.takeS h x = (⟨h.Rows.set p ⟨r.Name, r.Samples ++ [⟨x.At, x.Value⟩]⟩, o1⟩, 1)) := Lib.hid (by rw [HMS.out, ← HO1.out]; exact (if_neg (by rw [HLA.out]; exact c1)).trans ((if_neg (by rw [HLA.out]; exact c2)).trans (if_neg (by rw [← HSL.out]; exact c3))))
          have q3 : ((ms : Int) == 40) = false := by rw [beq_eq_false_iff_ne]; omega
          clear c1 c3
          go_upto_region 15 with fail
          clear d0 s1 q1 q3 c2 g1 g2' g3 g4 g5
          obtain ⟨i0, hi, hz0, hz1, hz2⟩ := info_parts Tryz.infoSmpK
          have s1 := HZ.out.cell (k := 0) 0 rfl rfl
          have s2 := HZ.out.cell (k := 1) 0 rfl rfl
          have n1' : gs ∉ fx2 := fun hh => HZ.out.apart (i := 0) (j := 4) rfl rfl (by decide) gs (by simp [Mm.tblk]) (HFX.out _ hh).1
          have n2' : gh ∉ fx2 := fun hh => HZ.out.apart (i := 3) (j := 4) rfl rfl (by decide) gh (by simp [Mm.tblk]) (HFX.out _ hh).1
          have hg2 : g2 ∉ fx2 := fun hh => (HFX.out _ hh).2 rfl
          have zr := (HZ.out.sl 4 rfl).frozen (p * 2 + 1)
          have hg2l : g2 < X.heap.size := (HZ.out.sl 4 rfl).olt g2 (HZ.out.sl 4 rfl).mem_block
          have hslm : r.Samples.length ≤ 40 := HNE.out.2
          refine Mm.wp_region_give 9 (fun i => match i with | 5 => some (Mm.gBs 124 [.int .i64 x.At, .int .i64 x.Value]) | 6 => some (Mm.gSl smp 124 (r.Samples ++ [⟨x.At, x.Value⟩])) | _ => none) (fun i => match i with | 6 => [5, 10] | _ => []) (fun i => match i with | 10 => [Mm.tsl smp 124 r.Samples (.slice (some ⟨bm, om, none⟩) ms ds) fx2] | _ => []) (F := fx2) (D := fun w' => ∃ z : Cha fx2 X, w' = cha fx2 X z) (fun X us h => Mm.sep_cha h) (by kernel_rfl) (by kernel_rfl) (by kernel_rfl) (Mm.sep_eq ((Mm.SepF.one (Mm.tsl smp 124 r.Samples (.slice (some ⟨bm, om, none⟩) ms ds) fx2) X HSO2.out.1 HSO2.out.2).step (Below.refl _ _).drew) rfl) ?_
          repeat (refine Mm.give_det (by rfl) (by rfl) (by rfl) (fun K hK => ?_); go_big_quiet_op; refine hK _ ?_; clear hK K)
          refine Mm.give_op0 89 (by rfl) rfl (by rfl) (by rfl) (by rfl) (by rfl) Mm.gBs_in (fun others X6 hX6 => ?_) ?_
          · go_wp2
            exact Mm.gvq_bs hX6 rfl rfl rfl
          rintro v ds' ⟨gb, rfl, rfl⟩
          simp only [Act.put, List.setIfInBounds_toArray, List.set_cons_succ, List.set_cons_zero]
          refine Mm.give_op2 90 5 10 (by rfl) rfl (by rfl) (by rfl) (by rfl) rfl (by rfl) (by rfl) (by rfl) _ _ rfl rfl Mm.gSl_in (fun others X6 hX6 => Mm.app_gvq rfl (.tmp 87) (.tmp 89) 62 rfl 90 rfl (by rfl) i0 _ 16 Tryz.underlying62 hi hz0 hz1 hz2 rfl (by decide) rfl rfl (fun W => smp_own_mk (x := ⟨x.At, x.Value⟩) HI.out) (by unfold maxLen; omega) (by omega) hX6) ?_
          rintro v ds' ⟨A8, n8, c8, f8', rfl, rfl, hn8⟩
          simp only [Act.put, List.setIfInBounds_toArray, List.set_cons_succ, List.set_cons_zero]
          repeat (refine Mm.give_det (by rfl) (by rfl) (by rfl) (fun K hK => ?_); go_big_quiet_op; refine hK _ ?_; clear hK K)
          refine Mm.give_nil ?_
          rintro X7 hX7
          have hx7 : Mm.SepF fx2 X X7 [Mm.tsl smp 124 (r.Samples ++ [⟨x.At, x.Value⟩]) (.slice A8 n8 c8) f8'] := Mm.sep_eq hX7 rfl
          have HS4 := Lib.hid hx7
          have d4 : X7.cell? ⟨g2, p * 2 + 1, none⟩ = some (.slice (some ⟨bm, om, none⟩) ms ds) := (World.cell?_of_block (hx7.chg.block g2 hg2l hg2)).trans r1
          have z4 : X7.frozen? ⟨g2, p * 2 + 1, none⟩ = false := (World.frozen?_of_block (hx7.chg.block g2 hg2l hg2)).trans zr
          clear hX7 hx7 r1 zr s1 s2 n1' n2' hg2 hg2l c0
          obtain ⟨fp5, hs5⟩ := HROW.out _ _ _ _ _ _ HS4.out
          obtain ⟨XT, hXT⟩ : ∃ XT, X7.setCell ⟨g2, p * 2 + 1, none⟩ (.slice A8 n8 c8) = XT := ⟨_, rfl⟩
          replace HZ := Lib.hid (hs5.atW hXT)
          clear hs5
          go_upto_region 16 with fail
          clear hXT d4 z4
          have z0 := HZ.out.frz (k := 0) 1 rfl
          have z1 := HZ.out.frz (k := 1) 1 rfl
          have b0 := HZ.out.cell (k := 0) 1 rfl rfl
          have b1 := HZ.out.cell (k := 1) 1 rfl rfl
          have h0 := HZ.out.cell (k := 0) 3 rfl rfl
          have h1 := HZ.out.cell (k := 1) 3 rfl rfl
          have HSF := Lib.hid ((HZ.out.setBlk (k := 0) 1 rfl ((.slice (some ⟨g2, 0, none⟩) m d))).setBlk (k := 1) 1 rfl (.int .i64 o1))
          have u0 := HSF.out.cell (k := 0) 1 rfl rfl
          have u1 := HSF.out.cell (k := 1) 1 rfl rfl
          go_wp2
          exact bodyPost_ret (v := .tuple #[.agg #[(.slice (some ⟨g2, 0, none⟩) m d), .int .i64 o1], .int .i64 1]) (by simp [results, Tryz.results128, go_sem, u0, u1]) rfl ⟨_, _, _, _, by rw [HO1.out, HF.out], by rw [HF.out]; exact HSF.out.sel [4] (by decide) rfl⟩
  · have HMS : Hid (Pl.takeS h x = Pl.missS h p x) := Lib.hid (by rw [← HP.out]; exact Pl.takeS_miss (fun o ho he => by rw [HP.out] at ho; exact hit ⟨o, ho, he⟩))
    have f2 : (0 : Int) ≤ (p : Nat) := by omega
    have f3 : ((p : Nat) : Int).toNat = p := by omega
    by_cases hpl : p < m
    · obtain ⟨g2, rfl, -, -⟩ := Mm.sl_addr (HS3.out.sl 4 rfl) (by show 0 < h.Rows.length; have := HML.out; omega)
      obtain ⟨r, hr⟩ : ∃ r, h.Rows[p]? = some r := ⟨_, List.getElem?_eq_getElem (by have := HML.out; omega)⟩
      obtain ⟨_, _, _, _, r0, -⟩ := HS3.out.rowSam 4 rfl hr
      have f1 : (p : Int) < (m : Nat) := by omega
      have q1 : (r.Name.toList == x.Name.toList) = false := by
        rw [beq_eq_false_iff_ne]
        exact fun hh => hit ⟨r, hr, Pl.ba_inj hh⟩
      clear hr hit
      refine wp_region_und (by kernel_rfl) (by kernel_rfl) ?_
      repeat (go_big_quiet_step ((first | fail)))
      refine wpQuiet_nil ?_
      intro X hX
      clear r0 q1
      have HZ := Lib.hid (HS3.out.step hX)
      clear hX HS3 c0 s0
      have c0 := HZ.out.cell (k := 0) 3 rfl rfl
      by_cases h8 : m = 8
      · as_aux_lemma =>
        have HF : Hid (Pl.takeS h x = (⟨h.Rows, o1⟩, 4)) := Lib.hid (by rw [HMS.out, ← HO1.out]; exact if_pos (by have := HML.out; omega))
        have f8 : ((m : Int) == 8) = true := by rw [h8]; rfl
        clear h8
        have z0 := HZ.out.frz (k := 0) 1 rfl
        have z1 := HZ.out.frz (k := 1) 1 rfl
        have b0 := HZ.out.cell (k := 0) 1 rfl rfl
        have b1 := HZ.out.cell (k := 1) 1 rfl rfl
        have h0 := HZ.out.cell (k := 0) 3 rfl rfl
        have h1 := HZ.out.cell (k := 1) 3 rfl rfl
        have HSF := Lib.hid ((HZ.out.setBlk (k := 0) 1 rfl ((.slice (some ⟨g2, 0, none⟩) m d))).setBlk (k := 1) 1 rfl (.int .i64 o1))
        have u0 := HSF.out.cell (k := 0) 1 rfl rfl
        have u1 := HSF.out.cell (k := 1) 1 rfl rfl
        go_wp2
        exact bodyPost_ret (v := .tuple #[.agg #[(.slice (some ⟨g2, 0, none⟩) m d), .int .i64 o1], .int .i64 4]) (by simp [results, Tryz.results128, go_sem, u0, u1]) rfl ⟨_, _, _, _, by rw [HO1.out, HF.out], by rw [HF.out]; exact HSF.out.sel [4] (by decide) rfl⟩
      have HF : Hid (Pl.takeS h x = (⟨Mm.insertAt h.Rows p ⟨x.Name, [⟨x.At, x.Value⟩]⟩, o1⟩, 1)) := Lib.hid (by rw [HMS.out, ← HO1.out]; exact if_neg (by have := HML.out; omega))
      have f8 : ((m : Int) == 8) = false := by rw [beq_eq_false_iff_ne]; omega
      go_upto_region 19 with fail
      clear f8 h8
      have s0 := HZ.out.cell (k := 0) 2 rfl rfl
      have t0 := HZ.out.cell (k := 0) 0 rfl rfl
      have t1 := HZ.out.cell (k := 1) 0 rfl rfl
      have hghl : gh < X.heap.size := World.block_lt_of_cell? X ⟨gh, 0, none⟩ c0
      obtain ⟨lc, ho, h1c, hnext⟩ := HZ.out.insLate 4 rfl (k := p) (by rw [← HML.out]; exact hpm)
      rw [← HML.out] at ho hnext
      have ho : X.ownsRow 0 139 2 (.slice (some ⟨g2, 0, none⟩) m d) m lc := ho
      have HNX := Lib.hid hnext
      clear hnext
      have hcc : ∀ j u, lc[j]? = some u → X.cell? ⟨g2, j, none⟩ = some u := fun j u hj => by
        have := ho.cells (g := g2) rfl j u hj
        rwa [Mm.add0] at this
      have hmd : m ≤ d := by
        rcases ho.2 with ⟨hv, _⟩ | ⟨g, cap, cur, hv, _, _, hnc, _⟩
        · cases hv
        · injection hv with _ _ e3
          subst e3
          exact hnc
      have hcl := ho.1
      as_aux_lemma =>
      obtain ⟨A8, c8, w8, e1, kk1, nn8, hV⟩ := put3R X ((some ⟨g2, 0, none⟩)) ((some ⟨g2, p * 2, none⟩)) m p ((m - p)) (d) ((d - p)) lc ho h1c hpm (by omega) (fun hh => by cases hh) (by omega) (fun hh => by cases hh) (fun a ha j u hj => by injection ha with ha; subst ha; rw [Mm.add0]; rw [List.getElem?_take] at hj; split at hj; exact hcc j u hj; cases hj) (fun a ha j u hj => by injection ha with ha; subst ha; rw [Addr.add_lit]; rw [List.getElem?_drop] at hj; exact hcc _ u hj)
      obtain ⟨g8, hg8⟩ : ∃ g, w8.heap.size = g := ⟨_, rfl⟩
      obtain ⟨V, hVd⟩ : ∃ V, w8.alloc (.cells #[.int .i64 x.At, .int .i64 x.Value] 124) = V := ⟨_, rfl⟩
      have hVs : V.heap.size = g8 + 1 := by rw [← hVd, Mm.sz1, hg8]
      have hVb : Below w8.heap.size w8 V := by rw [← hVd]; exact below_new (Below.refl _ _) _
      obtain ⟨A10, c10, w10, e2, k10, A11, c11, w11, e3, r4, kb, k11, n11⟩ := hV V [.string x.Name, .slice (some ⟨g8, 0, none⟩) 1 1] hVb rfl (by simp [Value.oneCell'])
      rw [hVs] at e2 k10 k11 n11
      have hX8 := kk1.size
      have hn8 : (Value.slice A8 p c8).ownBlock ≠ some g8 := fun hh => by have := (nn8 _ hh).2; omega
      have hbl : Mm.Blk w11 g8 124 [.int .i64 x.At, .int .i64 x.Value] := Mm.Blk.keep (by have h9 := Mm.Blk.new w8 124 [.int .i64 x.At, .int .i64 x.Value]; rw [hg8] at h9; rw [← hVd]; exact h9) (k11 g8 (by omega) hn8)
      obtain ⟨fp', hsE⟩ := HNX.out w11 (.slice A11 (m + 1) c11) ⟨x.Name, [⟨x.At, x.Value⟩]⟩ [.string x.Name, .slice (some ⟨g8, 0, none⟩) 1 1] [g8] kb (rRow_own_mk (x := ⟨x.Name, [⟨x.At, x.Value⟩]⟩) HNM.out (Mm.oneSmp (x := ⟨x.At, x.Value⟩) hbl HI.out)) (by simp) (fun b hb => by simp at hb; omega) r4 (fun g hg => by
        rcases n11 g hg with hh | hh
        · have := nn8 g hh
          exact ⟨this.1, by simp; omega⟩
        · exact ⟨by omega, by simp; omega⟩)
      have HSE := Lib.hid hsE
      have HK := Lib.hid (And.intro e1 (And.intro e2 e3))
      have s8 := below_some kk1 s0
      have t80 := below_some kk1 t0
      have t81 := below_some kk1 t1
      have c10' : w10.cell? ⟨gh, 0, none⟩ = some (.slice (some ⟨g2, 0, none⟩) m d) := (World.cell?_of_block (k10 gh (by omega) (fun hh => by have := (nn8 _ hh).1; omega))).trans (below_some (below_step kk1 hVb) c0)
      obtain ⟨XT, hXT⟩ : ∃ XT, w11.setCell ⟨gh, 0, none⟩ (.slice A11 (m + 1) c11) = XT := ⟨_, rfl⟩
      replace HZ := Lib.hid ((HSE.out.setBlk (k := 0) 3 rfl (.slice A11 (m + 1) c11)).atW hXT)
      have h11 := HSE.out.cell (k := 0) 3 rfl rfl
      have z11 := HSE.out.frz (k := 0) 3 rfl
      clear hsE e1 e2 e3 r4 kk1 kb k10 k11 n11 nn8 hV hVb hX8 hn8 hbl HSE HNX h1c ho s0 t0 t1
      go_upto_region 20 with (at_builtin; refine Lib.wpList_append_run _ rfl _ _ _ _ rfl _ _ rfl rfl _ _ (HK.out.1 _) ?_)
      clear c0
      go_upto_region 21 with (at_builtin; refine Lib.wpList_append_run _ rfl _ _ _ _ rfl _ _ rfl rfl _ _ (HK.out.2.1 _) ?_)
      go_upto_region 22 with (at_builtin; refine Lib.wpList_append_run _ rfl _ _ _ _ rfl _ _ rfl rfl _ _ (HK.out.2.2 _) ?_)
      clear hXT h11 z11 c10' s8 t80 t81 HK
      have z0 := HZ.out.frz (k := 0) 1 rfl
      have z1 := HZ.out.frz (k := 1) 1 rfl
      have b0 := HZ.out.cell (k := 0) 1 rfl rfl
      have b1 := HZ.out.cell (k := 1) 1 rfl rfl
      have h0 := HZ.out.cell (k := 0) 3 rfl rfl
      have h1 := HZ.out.cell (k := 1) 3 rfl rfl
      have HSF := Lib.hid ((HZ.out.setBlk (k := 0) 1 rfl ((.slice A11 (m + 1) c11))).setBlk (k := 1) 1 rfl (.int .i64 o1))
      have u0 := HSF.out.cell (k := 0) 1 rfl rfl
      have u1 := HSF.out.cell (k := 1) 1 rfl rfl
      go_wp2
      exact bodyPost_ret (v := .tuple #[.agg #[(.slice A11 (m + 1) c11), .int .i64 o1], .int .i64 1]) (by simp [results, Tryz.results128, go_sem, u0, u1]) rfl ⟨_, _, _, _, by rw [HO1.out, HF.out], by rw [HF.out]; exact HSF.out.sel [4] (by decide) rfl⟩
    · have f1 : ¬ (p : Int) < (m : Nat) := by omega
      have f4 : decide (p < m) = false := by simp; omega
      clear hit hpl
      refine wp_region_und (by kernel_rfl) (by kernel_rfl) ?_
      repeat (go_big_quiet_step ((first | fail)))
      refine wpQuiet_nil ?_
      intro X hX
      have HZ := Lib.hid (HS3.out.step hX)
      clear hX HS3 c0 s0
      have c0 := HZ.out.cell (k := 0) 3 rfl rfl
      by_cases h8 : m = 8
      · as_aux_lemma =>
        have HF : Hid (Pl.takeS h x = (⟨h.Rows, o1⟩, 4)) := Lib.hid (by rw [HMS.out, ← HO1.out]; exact if_pos (by have := HML.out; omega))
        have f8 : ((m : Int) == 8) = true := by rw [h8]; rfl
        clear h8
        have z0 := HZ.out.frz (k := 0) 1 rfl
        have z1 := HZ.out.frz (k := 1) 1 rfl
        have b0 := HZ.out.cell (k := 0) 1 rfl rfl
        have b1 := HZ.out.cell (k := 1) 1 rfl rfl
        have h0 := HZ.out.cell (k := 0) 3 rfl rfl
        have h1 := HZ.out.cell (k := 1) 3 rfl rfl
        have HSF := Lib.hid ((HZ.out.setBlk (k := 0) 1 rfl ((.slice A m d))).setBlk (k := 1) 1 rfl (.int .i64 o1))
        have u0 := HSF.out.cell (k := 0) 1 rfl rfl
        have u1 := HSF.out.cell (k := 1) 1 rfl rfl
        go_wp2
        exact bodyPost_ret (v := .tuple #[.agg #[(.slice A m d), .int .i64 o1], .int .i64 4]) (by simp [results, Tryz.results128, go_sem, u0, u1]) rfl ⟨_, _, _, _, by rw [HO1.out, HF.out], by rw [HF.out]; exact HSF.out.sel [4] (by decide) rfl⟩
      have HF : Hid (Pl.takeS h x = (⟨Mm.insertAt h.Rows p ⟨x.Name, [⟨x.At, x.Value⟩]⟩, o1⟩, 1)) := Lib.hid (by rw [HMS.out, ← HO1.out]; exact if_neg (by have := HML.out; omega))
      have f8 : ((m : Int) == 8) = false := by rw [beq_eq_false_iff_ne]; omega
      go_upto_region 19 with fail
      clear f8 h8
      have s0 := HZ.out.cell (k := 0) 2 rfl rfl
      have t0 := HZ.out.cell (k := 0) 0 rfl rfl
      have t1 := HZ.out.cell (k := 1) 0 rfl rfl
      have hghl : gh < X.heap.size := World.block_lt_of_cell? X ⟨gh, 0, none⟩ c0
      obtain ⟨lc, ho, h1c, hnext⟩ := HZ.out.insLate 4 rfl (k := p) (by rw [← HML.out]; exact hpm)
      rw [← HML.out] at ho hnext
      have ho : X.ownsRow 0 139 2 (.slice A m d) m lc := ho
      have HNX := Lib.hid hnext
      clear hnext
      rcases ho.2 with ⟨hv, hn0⟩ | ⟨g2, cap, cur, hv, _, hg, hnc, hcm, hcs, htake⟩
      · injection hv with e1 e2 e3
        subst e1 e3
        subst hn0
        obtain rfl : p = 0 := by omega
        as_aux_lemma =>
        obtain ⟨A8, c8, w8, e1, kk1, nn8, hV⟩ := put3R X (none) (none) 0 0 (0) (0) (0) lc ho h1c hpm (by omega) (fun _ => ⟨rfl, rfl⟩) rfl (fun _ => ⟨rfl, rfl⟩) (fun a hh => by cases hh) (fun a hh => by cases hh)
        obtain ⟨g8, hg8⟩ : ∃ g, w8.heap.size = g := ⟨_, rfl⟩
        obtain ⟨V, hVd⟩ : ∃ V, w8.alloc (.cells #[.int .i64 x.At, .int .i64 x.Value] 124) = V := ⟨_, rfl⟩
        have hVs : V.heap.size = g8 + 1 := by rw [← hVd, Mm.sz1, hg8]
        have hVb : Below w8.heap.size w8 V := by rw [← hVd]; exact below_new (Below.refl _ _) _
        obtain ⟨A10, c10, w10, e2, k10, A11, c11, w11, e3, r4, kb, k11, n11⟩ := hV V [.string x.Name, .slice (some ⟨g8, 0, none⟩) 1 1] hVb rfl (by simp [Value.oneCell'])
        rw [hVs] at e2 k10 k11 n11
        have hX8 := kk1.size
        have hn8 : (Value.slice A8 0 c8).ownBlock ≠ some g8 := fun hh => by have := (nn8 _ hh).2; omega
        have hbl : Mm.Blk w11 g8 124 [.int .i64 x.At, .int .i64 x.Value] := Mm.Blk.keep (by have h9 := Mm.Blk.new w8 124 [.int .i64 x.At, .int .i64 x.Value]; rw [hg8] at h9; rw [← hVd]; exact h9) (k11 g8 (by omega) hn8)
        obtain ⟨fp', hsE⟩ := HNX.out w11 (.slice A11 (0 + 1) c11) ⟨x.Name, [⟨x.At, x.Value⟩]⟩ [.string x.Name, .slice (some ⟨g8, 0, none⟩) 1 1] [g8] kb (rRow_own_mk (x := ⟨x.Name, [⟨x.At, x.Value⟩]⟩) HNM.out (Mm.oneSmp (x := ⟨x.At, x.Value⟩) hbl HI.out)) (by simp) (fun b hb => by simp at hb; omega) r4 (fun g hg => by
          rcases n11 g hg with hh | hh
          · have := nn8 g hh
            exact ⟨this.1, by simp; omega⟩
          · exact ⟨by omega, by simp; omega⟩)
        have HSE := Lib.hid hsE
        have HK := Lib.hid (And.intro e1 (And.intro e2 e3))
        have s8 := below_some kk1 s0
        have t80 := below_some kk1 t0
        have t81 := below_some kk1 t1
        have c10' : w10.cell? ⟨gh, 0, none⟩ = some (.slice none 0 0) := (World.cell?_of_block (k10 gh (by omega) (fun hh => by have := (nn8 _ hh).1; omega))).trans (below_some (below_step kk1 hVb) c0)
        obtain ⟨XT, hXT⟩ : ∃ XT, w11.setCell ⟨gh, 0, none⟩ (.slice A11 (0 + 1) c11) = XT := ⟨_, rfl⟩
        replace HZ := Lib.hid ((HSE.out.setBlk (k := 0) 3 rfl (.slice A11 (0 + 1) c11)).atW hXT)
        have h11 := HSE.out.cell (k := 0) 3 rfl rfl
        have z11 := HSE.out.frz (k := 0) 3 rfl
        clear hsE e1 e2 e3 r4 kk1 kb k10 k11 n11 nn8 hV hVb hX8 hn8 hbl HSE HNX h1c ho s0 t0 t1
        go_upto_region 20 with (at_builtin; refine Lib.wpList_append_run _ rfl _ _ _ _ rfl _ _ rfl rfl _ _ (HK.out.1 _) ?_)
        clear c0
        go_upto_region 21 with (at_builtin; refine Lib.wpList_append_run _ rfl _ _ _ _ rfl _ _ rfl rfl _ _ (HK.out.2.1 _) ?_)
        go_upto_region 22 with (at_builtin; refine Lib.wpList_append_run _ rfl _ _ _ _ rfl _ _ rfl rfl _ _ (HK.out.2.2 _) ?_)
        clear hXT h11 z11 c10' s8 t80 t81 HK
        have z0 := HZ.out.frz (k := 0) 1 rfl
        have z1 := HZ.out.frz (k := 1) 1 rfl
        have b0 := HZ.out.cell (k := 0) 1 rfl rfl
        have b1 := HZ.out.cell (k := 1) 1 rfl rfl
        have h0 := HZ.out.cell (k := 0) 3 rfl rfl
        have h1 := HZ.out.cell (k := 1) 3 rfl rfl
        have HSF := Lib.hid ((HZ.out.setBlk (k := 0) 1 rfl ((.slice A11 (0 + 1) c11))).setBlk (k := 1) 1 rfl (.int .i64 o1))
        have u0 := HSF.out.cell (k := 0) 1 rfl rfl
        have u1 := HSF.out.cell (k := 1) 1 rfl rfl
        go_wp2
        exact bodyPost_ret (v := .tuple #[.agg #[(.slice A11 (0 + 1) c11), .int .i64 o1], .int .i64 1]) (by simp [results, Tryz.results128, go_sem, u0, u1]) rfl ⟨_, _, _, _, by rw [HO1.out, HF.out], by rw [HF.out]; exact HSF.out.sel [4] (by decide) rfl⟩
      · injection hv with e1 e2 e3
        subst e1 e3
        have hcc : ∀ j u, lc[j]? = some u → X.cell? ⟨g2, j, none⟩ = some u := fun j u hj => by
          have := ho.cells (g := g2) rfl j u hj
          rwa [Mm.add0] at this
        have hcl := ho.1
        unfold maxLen at hcm
        clear hg hcs htake
        by_cases hcp : d = p
        · subst hcp
          as_aux_lemma =>
          obtain ⟨A8, c8, w8, e1, kk1, nn8, hV⟩ := put3R X ((some ⟨g2, 0, none⟩)) ((some ⟨g2, 0, none⟩)) m d (0) (d) (0) lc ho h1c hpm (by omega) (fun hh => by cases hh) (by omega) (fun hh => by cases hh) (fun a ha j u hj => by injection ha with ha; subst ha; rw [Mm.add0]; rw [List.getElem?_take] at hj; split at hj; exact hcc j u hj; cases hj) (fun a ha j u hj => by rw [List.drop_of_length_le (by omega)] at hj; simp at hj)
          obtain ⟨g8, hg8⟩ : ∃ g, w8.heap.size = g := ⟨_, rfl⟩
          obtain ⟨V, hVd⟩ : ∃ V, w8.alloc (.cells #[.int .i64 x.At, .int .i64 x.Value] 124) = V := ⟨_, rfl⟩
          have hVs : V.heap.size = g8 + 1 := by rw [← hVd, Mm.sz1, hg8]
          have hVb : Below w8.heap.size w8 V := by rw [← hVd]; exact below_new (Below.refl _ _) _
          obtain ⟨A10, c10, w10, e2, k10, A11, c11, w11, e3, r4, kb, k11, n11⟩ := hV V [.string x.Name, .slice (some ⟨g8, 0, none⟩) 1 1] hVb rfl (by simp [Value.oneCell'])
          rw [hVs] at e2 k10 k11 n11
          have hX8 := kk1.size
          have hn8 : (Value.slice A8 d c8).ownBlock ≠ some g8 := fun hh => by have := (nn8 _ hh).2; omega
          have hbl : Mm.Blk w11 g8 124 [.int .i64 x.At, .int .i64 x.Value] := Mm.Blk.keep (by have h9 := Mm.Blk.new w8 124 [.int .i64 x.At, .int .i64 x.Value]; rw [hg8] at h9; rw [← hVd]; exact h9) (k11 g8 (by omega) hn8)
          obtain ⟨fp', hsE⟩ := HNX.out w11 (.slice A11 (m + 1) c11) ⟨x.Name, [⟨x.At, x.Value⟩]⟩ [.string x.Name, .slice (some ⟨g8, 0, none⟩) 1 1] [g8] kb (rRow_own_mk (x := ⟨x.Name, [⟨x.At, x.Value⟩]⟩) HNM.out (Mm.oneSmp (x := ⟨x.At, x.Value⟩) hbl HI.out)) (by simp) (fun b hb => by simp at hb; omega) r4 (fun g hg => by
            rcases n11 g hg with hh | hh
            · have := nn8 g hh
              exact ⟨this.1, by simp; omega⟩
            · exact ⟨by omega, by simp; omega⟩)
          have HSE := Lib.hid hsE
          have HK := Lib.hid (And.intro e1 (And.intro e2 e3))
          have s8 := below_some kk1 s0
          have t80 := below_some kk1 t0
          have t81 := below_some kk1 t1
          have c10' : w10.cell? ⟨gh, 0, none⟩ = some (.slice (some ⟨g2, 0, none⟩) m d) := (World.cell?_of_block (k10 gh (by omega) (fun hh => by have := (nn8 _ hh).1; omega))).trans (below_some (below_step kk1 hVb) c0)
          obtain ⟨XT, hXT⟩ : ∃ XT, w11.setCell ⟨gh, 0, none⟩ (.slice A11 (m + 1) c11) = XT := ⟨_, rfl⟩
          replace HZ := Lib.hid ((HSE.out.setBlk (k := 0) 3 rfl (.slice A11 (m + 1) c11)).atW hXT)
          have h11 := HSE.out.cell (k := 0) 3 rfl rfl
          have z11 := HSE.out.frz (k := 0) 3 rfl
          clear hsE e1 e2 e3 r4 kk1 kb k10 k11 n11 nn8 hV hVb hX8 hn8 hbl HSE HNX h1c ho s0 t0 t1
          go_upto_region 20 with (at_builtin; refine Lib.wpList_append_run _ rfl _ _ _ _ rfl _ _ rfl rfl _ _ (HK.out.1 _) ?_)
          clear c0
          go_upto_region 21 with (at_builtin; refine Lib.wpList_append_run _ rfl _ _ _ _ rfl _ _ rfl rfl _ _ (HK.out.2.1 _) ?_)
          go_upto_region 22 with (at_builtin; refine Lib.wpList_append_run _ rfl _ _ _ _ rfl _ _ rfl rfl _ _ (HK.out.2.2 _) ?_)
          clear hXT h11 z11 c10' s8 t80 t81 HK
          have z0 := HZ.out.frz (k := 0) 1 rfl
          have z1 := HZ.out.frz (k := 1) 1 rfl
          have b0 := HZ.out.cell (k := 0) 1 rfl rfl
          have b1 := HZ.out.cell (k := 1) 1 rfl rfl
          have h0 := HZ.out.cell (k := 0) 3 rfl rfl
          have h1 := HZ.out.cell (k := 1) 3 rfl rfl
          have HSF := Lib.hid ((HZ.out.setBlk (k := 0) 1 rfl ((.slice A11 (m + 1) c11))).setBlk (k := 1) 1 rfl (.int .i64 o1))
          have u0 := HSF.out.cell (k := 0) 1 rfl rfl
          have u1 := HSF.out.cell (k := 1) 1 rfl rfl
          go_wp2
          exact bodyPost_ret (v := .tuple #[.agg #[(.slice A11 (m + 1) c11), .int .i64 o1], .int .i64 1]) (by simp [results, Tryz.results128, go_sem, u0, u1]) rfl ⟨_, _, _, _, by rw [HO1.out, HF.out], by rw [HF.out]; exact HSF.out.sel [4] (by decide) rfl⟩
        · have hcp2 : ¬ (d = p) := hcp
          as_aux_lemma =>
          obtain ⟨A8, c8, w8, e1, kk1, nn8, hV⟩ := put3R X ((some ⟨g2, 0, none⟩)) ((some ⟨g2, p * 2, none⟩)) m p ((m - p)) (d) ((d - p)) lc ho h1c hpm (by omega) (fun hh => by cases hh) (by omega) (fun hh => by cases hh) (fun a ha j u hj => by injection ha with ha; subst ha; rw [Mm.add0]; rw [List.getElem?_take] at hj; split at hj; exact hcc j u hj; cases hj) (fun a ha j u hj => by injection ha with ha; subst ha; rw [Addr.add_lit]; rw [List.getElem?_drop] at hj; exact hcc _ u hj)
          obtain ⟨g8, hg8⟩ : ∃ g, w8.heap.size = g := ⟨_, rfl⟩
          obtain ⟨V, hVd⟩ : ∃ V, w8.alloc (.cells #[.int .i64 x.At, .int .i64 x.Value] 124) = V := ⟨_, rfl⟩
          have hVs : V.heap.size = g8 + 1 := by rw [← hVd, Mm.sz1, hg8]
          have hVb : Below w8.heap.size w8 V := by rw [← hVd]; exact below_new (Below.refl _ _) _
          obtain ⟨A10, c10, w10, e2, k10, A11, c11, w11, e3, r4, kb, k11, n11⟩ := hV V [.string x.Name, .slice (some ⟨g8, 0, none⟩) 1 1] hVb rfl (by simp [Value.oneCell'])
          rw [hVs] at e2 k10 k11 n11
          have hX8 := kk1.size
          have hn8 : (Value.slice A8 p c8).ownBlock ≠ some g8 := fun hh => by have := (nn8 _ hh).2; omega
          have hbl : Mm.Blk w11 g8 124 [.int .i64 x.At, .int .i64 x.Value] := Mm.Blk.keep (by have h9 := Mm.Blk.new w8 124 [.int .i64 x.At, .int .i64 x.Value]; rw [hg8] at h9; rw [← hVd]; exact h9) (k11 g8 (by omega) hn8)
          obtain ⟨fp', hsE⟩ := HNX.out w11 (.slice A11 (m + 1) c11) ⟨x.Name, [⟨x.At, x.Value⟩]⟩ [.string x.Name, .slice (some ⟨g8, 0, none⟩) 1 1] [g8] kb (rRow_own_mk (x := ⟨x.Name, [⟨x.At, x.Value⟩]⟩) HNM.out (Mm.oneSmp (x := ⟨x.At, x.Value⟩) hbl HI.out)) (by simp) (fun b hb => by simp at hb; omega) r4 (fun g hg => by
            rcases n11 g hg with hh | hh
            · have := nn8 g hh
              exact ⟨this.1, by simp; omega⟩
            · exact ⟨by omega, by simp; omega⟩)
          have HSE := Lib.hid hsE
          have HK := Lib.hid (And.intro e1 (And.intro e2 e3))
          have s8 := below_some kk1 s0
          have t80 := below_some kk1 t0
          have t81 := below_some kk1 t1
          have c10' : w10.cell? ⟨gh, 0, none⟩ = some (.slice (some ⟨g2, 0, none⟩) m d) := (World.cell?_of_block (k10 gh (by omega) (fun hh => by have := (nn8 _ hh).1; omega))).trans (below_some (below_step kk1 hVb) c0)
          obtain ⟨XT, hXT⟩ : ∃ XT, w11.setCell ⟨gh, 0, none⟩ (.slice A11 (m + 1) c11) = XT := ⟨_, rfl⟩
          replace HZ := Lib.hid ((HSE.out.setBlk (k := 0) 3 rfl (.slice A11 (m + 1) c11)).atW hXT)
          have h11 := HSE.out.cell (k := 0) 3 rfl rfl
          have z11 := HSE.out.frz (k := 0) 3 rfl
          clear hsE e1 e2 e3 r4 kk1 kb k10 k11 n11 nn8 hV hVb hX8 hn8 hbl HSE HNX h1c ho s0 t0 t1
          go_upto_region 20 with (at_builtin; refine Lib.wpList_append_run _ rfl _ _ _ _ rfl _ _ rfl rfl _ _ (HK.out.1 _) ?_)
          clear c0
          go_upto_region 21 with (at_builtin; refine Lib.wpList_append_run _ rfl _ _ _ _ rfl _ _ rfl rfl _ _ (HK.out.2.1 _) ?_)
          go_upto_region 22 with (at_builtin; refine Lib.wpList_append_run _ rfl _ _ _ _ rfl _ _ rfl rfl _ _ (HK.out.2.2 _) ?_)
          clear hXT h11 z11 c10' s8 t80 t81 HK
          have z0 := HZ.out.frz (k := 0) 1 rfl
          have z1 := HZ.out.frz (k := 1) 1 rfl
          have b0 := HZ.out.cell (k := 0) 1 rfl rfl
          have b1 := HZ.out.cell (k := 1) 1 rfl rfl
          have h0 := HZ.out.cell (k := 0) 3 rfl rfl
          have h1 := HZ.out.cell (k := 1) 3 rfl rfl
          have HSF := Lib.hid ((HZ.out.setBlk (k := 0) 1 rfl ((.slice A11 (m + 1) c11))).setBlk (k := 1) 1 rfl (.int .i64 o1))
          have u0 := HSF.out.cell (k := 0) 1 rfl rfl
          have u1 := HSF.out.cell (k := 1) 1 rfl rfl
          go_wp2
          exact bodyPost_ret (v := .tuple #[.agg #[(.slice A11 (m + 1) c11), .int .i64 o1], .int .i64 1]) (by simp [results, Tryz.results128, go_sem, u0, u1]) rfl ⟨_, _, _, _, by rw [HO1.out, HF.out], by rw [HF.out]; exact HSF.out.sel [4] (by decide) rfl⟩
end Go.Proofs.YtbhmdnjammnlnaaGreatDoor

/-
  Contracts: measurements put into a head one after another, the reference's (l17Fold); PlayPlain of the reference. No conditions beyond those named.
-/
namespace Go.Proofs.YtbhmdnjammnlnaaGreatDoor
open Go.RowKit
attribute [local go_sem] und_cell cha_cell World.cell?_alloc_some
def FoldR (l : List Say) (w : World) (e : Ending) (w' : World) : Prop :=
  ∃ A n c fp, e = .returned (.agg #[.slice A n c, .int .i64 (Pl.foldS ⟨[], 0⟩ l).Offset]) ∧ Mm.SepF [] w w' [Mm.tsl rRow 139 (Pl.foldS ⟨[], 0⟩ l).Rows (.slice A n c) fp]
set_option maxRecDepth 100000 in
set_option maxHeartbeats 4000000 in
theorem l17Fold_c (l : List Say) (A : Option Addr) (n c : Nat) (w : World) (B : Nat) (hl : Mm.SlAt rSay w B l A n c) (hB : B ≤ w.heap.size) (hn : n ≤ 1000) :
    Calls Tryz.prog 73 #[.slice A n c] w (FoldR l w) := by
  have HL := Lib.hid hl
  have HLN : Hid (l.length = n) := hl.1
  have HBW := Lib.hid hB
  have HFO : Hid ((Pl.foldS ⟨[], 0⟩ l).Offset = (n : Nat)) := Lib.hid (by rw [Pl.foldS_off, HLN.out]; simp)
  clear hl hB
  obtain ⟨gr, hgr⟩ : ∃ g, w.heap.size = g := ⟨_, rfl⟩
  obtain ⟨gh, hgh⟩ : ∃ g, gr + 1 = g := ⟨_, rfl⟩
  obtain ⟨W0, hW0⟩ : ∃ W, (w.alloc (.cells #[.slice none 0 0, .int .i64 0] 73)).alloc (.cells #[.slice none 0 0, .int .i64 0] 73) = W := ⟨_, rfl⟩
  have HS := Lib.hid ((((Mm.SepF.start w).alloc' hgr 73 [.slice none 0 0, .int .i64 0]).alloc' (g := gh) (by rw [Mm.sz1, hgr, hgh]) 73 [.slice none 0 0, .int .i64 0]).atW hW0)
  go_enter Tryz.func73, Tryz.ntmps73
  go_upto_region 1 with fail
  go_upto_region 2 with fail
  clear hW0 hgr hgh
  have KS := Lib.hid (HS.out.add (Below.refl _ _) (t := Mm.tsl rRow 139 [] (.slice none 0 0) []) Mm.SlOwn.nil List.nodup_nil (fun b hb => by cases hb))
  go_wp2
  clear HS
  go_loopg [10] n (fun gg i wr => ∃ (k : Nat) (A' : Option Addr) (m' c' : Nat) (o : Int) (fp : List Nat), n - k ≤ gg ∧ k ≤ n ∧ i = .int .i64 k ∧ Hid (o = (k : Nat)) ∧ Hid (Mm.SepF [] w wr [Mm.tsl rRow 139 (Pl.foldS ⟨[], 0⟩ (l.take k)).Rows (.slice A' m' c') fp, Mm.tblk gh 73 [.slice A' m' c', .int .i64 o], Mm.tblk gr 73 [.slice none 0 0, .int .i64 0]]))
  case atStart => exact ⟨0, none, 0, 0, 0, [], Nat.le_refl _, Nat.zero_le _, rfl, rfl, KS.out⟩
  case round =>
    clear KS
    obtain ⟨k, A', m', c', o, fp, hgk, hk', rfl, HO, HS⟩ := hrel
    obtain ⟨W, rfl⟩ : ∃ W : World, W = wr := ⟨_, rfl⟩
    by_cases hlt : k < n
    · as_aux_lemma =>
      have fc : (k : Int) < (n : Nat) := by omega
      obtain ⟨x, b, off, hx, rfl, hb, hnm, ia, iv, e0, e1, e2⟩ := rSay_get (HL.out.keep (w' := W) fun b hb => HS.out.bel0.block b (by have := HBW.out; omega)) hlt
      have HNX := Lib.hid (Pl.fold_next (h := ⟨[], 0⟩) hx)
      have HIX := Lib.hid (And.intro hnm (And.intro ia iv))
      clear hx hnm ia iv
      go_upto_region 5 with fail
      obtain ⟨gn, hgn⟩ : ∃ g, W.heap.size = g := ⟨_, rfl⟩
      obtain ⟨W1, hW1⟩ : ∃ V, W.alloc (.cells #[.string x.Name, .int .i64 x.At, .int .i64 x.Value] 55) = V := ⟨_, rfl⟩
      have HS1 := Lib.hid ((HS.out.alloc' hgn 55 [.string x.Name, .int .i64 x.At, .int .i64 x.Value]).atW hW1)
      rw [hW1, hgn]
      clear hW1 e0 e1 e2 HS hgn
      obtain ⟨fk, hfk⟩ : ∃ fk, Pl.foldS ⟨[], 0⟩ (l.take k) = fk := ⟨_, rfl⟩
      have hof : fk.Offset = o := by rw [← hfk, Pl.foldS_off, List.length_take, HO.out]; have := HLN.out; simp; omega
      have HFW : Hid (Pl.HW fk) := Lib.hid (by rw [← hfk]; exact Pl.HW.zero.fold _)
      rw [hfk] at HS1 HNX
      have HS1 : Hid (Mm.SepF [] w W1 [Mm.tblk gn 55 [.string x.Name, .int .i64 x.At, .int .i64 x.Value], Mm.tsl rRow 139 fk.Rows (.slice A' m' c') fp, Mm.tblk gh 73 [.slice A' m' c', .int .i64 o], Mm.tblk gr 73 [.slice none 0 0, .int .i64 0]]) := HS1
      have CT := l13Take_c fk x A' m' c' fp W1 (HS1.out.sl 1 rfl) (HS1.out.ndat (i := 1) rfl) HFW.out (by rw [hof, HO.out]; omega) HIX.out.1 HIX.out.2.1 HIX.out.2.2
      unfold TakeR at CT
      rw [hof] at CT
      obtain ⟨o1, ho1⟩ : ∃ o1, o + 1 = o1 := ⟨_, rfl⟩
      rw [ho1] at CT
      have HO1 : Hid (o1 = ((k + 1 : Nat) : Int)) := Lib.hid (by have := HO.out; omega)
      obtain ⟨cd, hcd⟩ : ∃ cd, (Pl.takeS fk x).2 = cd := ⟨_, rfl⟩
      rw [hcd] at CT
      have q0 := HS1.out.cell (k := 0) 0 rfl rfl
      have q1 := HS1.out.cell (k := 1) 0 rfl rfl
      have q2 := HS1.out.cell (k := 2) 0 rfl rfl
      have h0 := HS1.out.cell (k := 0) 2 rfl rfl
      have h1 := HS1.out.cell (k := 1) 2 rfl rfl
      clear hfk hof hcd ho1
      go_upto_region 6 with (go_at_call 128; (with_reducible refine CT.mono ?_); clear CT; rintro e w3 ⟨A2, m2, d2, fp3, rfl, hS⟩; (have HS3 := Lib.hid (HS1.out.call 1 rfl hS.left)); clear hS q0 q1 q2 h0 h1)
      obtain ⟨gy, hgy⟩ : ∃ g, w3.heap.size = g := ⟨_, rfl⟩
      obtain ⟨W4, hW4⟩ : ∃ V, w3.alloc (.cells #[.slice A2 m2 d2, .int .i64 o1] 73) = V := ⟨_, rfl⟩
      have HS4 := Lib.hid ((HS3.out.alloc' hgy 73 [.slice A2 m2 d2, .int .i64 o1]).atW hW4)
      rw [hW4, hgy]
      clear hW4 hgy HS3 HS1
      have y0 := HS4.out.cell (k := 0) 0 rfl rfl
      have y1 := HS4.out.cell (k := 1) 0 rfl rfl
      have h0 := HS4.out.cell (k := 0) 3 rfl rfl
      have h1 := HS4.out.cell (k := 1) 3 rfl rfl
      have z0 := HS4.out.frz (k := 0) 3 rfl
      have z1 := HS4.out.frz (k := 1) 3 rfl
      obtain ⟨W5, hW5⟩ : ∃ V, (W4.setCell ⟨gh, 0, none⟩ (.slice A2 m2 d2)).setCell ⟨gh, 1, none⟩ (.int .i64 o1) = V := ⟨_, rfl⟩
      have HS5 := Lib.hid (((HS4.out.setBlk (k := 0) 3 rfl (.slice A2 m2 d2)).setBlk (k := 1) 3 rfl (.int .i64 o1)).atW hW5)
      go_wp2
      go_roundg (n - (k + 1))
      case measure => omega
      case rel => exact ⟨k + 1, A2, m2, d2, o1, fp3, Nat.le_refl _, by omega, by go_num, HO1, by rw [HNX.out.1]; exact HS5.out.sel [2, 3, 4] (by decide) rfl⟩
    · as_aux_lemma =>
      obtain rfl : k = n := by omega
      have HE : Hid (l.take k = l) := Lib.hid (List.take_of_length_le (by have := HLN.out; omega))
      rw [HE.out] at HS
      have fc : ¬ ((k : Nat) : Int) < (k : Nat) := by omega
      have b0 := HS.out.cell (k := 0) 1 rfl rfl
      have b1 := HS.out.cell (k := 1) 1 rfl rfl
      have o0 := HS.out.cell (k := 0) 2 rfl rfl
      have o1 := HS.out.cell (k := 1) 2 rfl rfl
      have z0 := HS.out.frz (k := 0) 2 rfl
      have z1 := HS.out.frz (k := 1) 2 rfl
      have HSF := Lib.hid ((HS.out.setBlk (k := 0) 2 rfl (.slice A' m' c')).setBlk (k := 1) 2 rfl (.int .i64 o))
      have u0 := HSF.out.cell (k := 0) 2 rfl rfl
      have u1 := HSF.out.cell (k := 1) 2 rfl rfl
      go_wp2
      exact bodyPost_ret (v := .agg #[.slice A' m' c', .int .i64 o]) (by simp [results, Tryz.results73, go_sem, u0, u1]) rfl ⟨A', m', c', fp, by rw [HFO.out, HO.out], HSF.out.sel [0] (by decide) rfl⟩
end Go.Proofs.YtbhmdnjammnlnaaGreatDoor

/-
  Contracts: whether a store is good, the reference's. Conditions: those named.
-/
namespace Go.Proofs.YtbhmdnjammnlnaaGreatDoor
open Go.RowKit
attribute [local go_sem] und_cell cha_cell World.cell?_alloc_some
theorem Pl.LogOkR.zero {g : Log} (h : Pl.LogOkR g) (hb : g.Begin = 0) : Pl.LogOk g ∧ Pl.from0 g.Pieces = 0 := by
  refine ⟨h.1, ?_⟩
  have h1 := h.1.bg.1
  have h2 := h.1.from0.1
  rw [hb] at h1
  omega
theorem Pl.LogOkR.of {g : Log} (h : Pl.LogOk g) (hf : Pl.from0 g.Pieces = 0) (hb : g.Begin = 0) : Pl.LogOkR g :=
  ⟨h, fun p hp => by rw [hb]; have := Pl.from0_get hp; omega⟩
def gFoldH (x : Head) : Mm.Rel := fun _ _ v ds => ∃ A n c f, v = .agg #[.slice A n c, .int .i64 x.Offset] ∧ ds = [Mm.tow rHead x [.slice A n c, .int .i64 x.Offset] f]
theorem gFoldH_in {x : Head} {vals : List Value} {tk : List Mm.Thing} : ∃ v ds, gFoldH x vals tk v ds := ⟨_, _, none, 0, 0, [], rfl, rfl⟩
set_option maxRecDepth 100000 in
set_option maxHeartbeats 8000000 in
theorem goodHouse_c (h : House) (cs : List Value) (w : World) (B : Nat) (hh : rHouse.at_ w B h cs) (hB : B ≤ w.heap.size) (hsz : ∀ g, g ∈ h.Logs → ∀ p, p ∈ g.Pieces → p.Bytes.size ≤ 2000000) :
    Calls Tryz.prog 23 #[.agg cs.toArray] w (BoolAns (Pl.HouseOk h) w) := by
  obtain ⟨A0, n0, c0, A1, n1, c1, A2, n2, c2, rfl, r0, r1, r2⟩ := rHouse_at hh
  have R0 := Lib.hid r0
  have R1 := Lib.hid r1
  have R2 := Lib.hid r2
  have HSZ := Lib.hid hsz
  have HN0 : Hid (h.Logs.length = n0) := r0.1
  have HN1 : Hid (h.Heads.length = n1) := r1.1
  have HN2 : Hid (h.Kept.length = n2) := r2.1
  have HBW := Lib.hid hB
  have hnm0 : n0 ≤ maxLen := Nat.le_trans r0.2.1 r0.2.2.1
  have hnm1 : n1 ≤ maxLen := Nat.le_trans r1.2.1 r1.2.2.1
  have hnm2 : n2 ≤ maxLen := Nat.le_trans r2.2.1 r2.2.2.1
  unfold maxLen at hnm0 hnm1 hnm2
  clear hh r0 r1 r2 hB hsz
  obtain ⟨ga, hga⟩ : ∃ g, w.heap.size = g := ⟨_, rfl⟩
  obtain ⟨W0, hW0⟩ : ∃ W, w.alloc (.cells #[.slice A0 n0 c0, .slice A1 n1 c1, .slice A2 n2 c2] 27) = W := ⟨_, rfl⟩
  have KS0 := Lib.hid (((Mm.SepF.start w).alloc' hga 27 [.slice A0 n0 c0, .slice A1 n1 c1, .slice A2 n2 c2]).atW hW0)
  have d0 := KS0.out.cell (k := 0) 0 rfl rfl
  have d1 := KS0.out.cell (k := 1) 0 rfl rfl
  have d2 := KS0.out.cell (k := 2) 0 rfl rfl
  have HBL := Lib.hid KS0.out.bel0
  go_enter Tryz.func23, Tryz.ntmps23
  by_cases hn : 1 ≤ n0 ∧ n0 ≤ 3
  · obtain ⟨hn1, hn3⟩ := hn
    have hin : Pl.isIn (n0 : Int) 1 3 = true := by unfold Pl.isIn; simp; omega
    by_cases h1 : n1 = n0
    · by_cases h2 : n2 = n0
      · subst h1
        subst h2
        have hz : ((n2 : Int) != (n2 : Int)) = false := by simp
        go_upto_region 5 with (go_at_call 68; (with_reducible refine (l1In_isJ hin _).mono ?_); rintro e w' ⟨rfl, rfl⟩)
        clear d0 d1 d2 hin HBL hW0 hga hnm0 hnm1 hnm2
        obtain ⟨n0, rfl⟩ : ∃ n, n = n2 := ⟨_, rfl⟩
        go_loopg [31] n0 (fun gg i_ wr => ∃ (k : Nat), n0 - k ≤ gg ∧ k ≤ n0 ∧ i_ = .int .i64 (k : Nat) ∧ Hid (∀ i g a b, i < k → h.Logs[i]? = some g → h.Heads[i]? = some a → h.Kept[i]? = some b → ∃ l, Pl.PartOk n0 i g a b l) ∧ Hid (Mm.SepF [] w wr [Mm.tblk ga 27 [.slice A0 n0 c0, .slice A1 n0 c1, .slice A2 n0 c2]]))
        case atStart => exact ⟨0, by omega, by omega, rfl, (fun i g a b hi => absurd hi (by omega)), KS0.out⟩
        case round =>
          clear KS0
          obtain ⟨k, hgk, hk', rfl, HU, HS⟩ := hrel
          obtain ⟨W, rfl⟩ : ∃ W : World, W = wr := ⟨_, rfl⟩
          by_cases hlt : k < n0
          · have fc : (k : Int) < (n0 : Nat) := by omega
            have hbw := Lib.hid (fun b (hb : b < B) => HS.out.bel0.block b (by have := HBW.out; omega))
            obtain ⟨x, b0, o0, AP, mP, dP, hx, rfl, hb0, hrp, hbg, e0, e1⟩ := rLog_get (R0.out.keep (w' := W) hbw.out) hlt
            have HX := Lib.hid hx
            have HRP := Lib.hid hrp
            obtain ⟨bg, hbe⟩ : ∃ b : Int, x.Begin = b := ⟨_, rfl⟩
            rw [hbe] at e1 hbg
            have HBE := Lib.hid hbe
            have HPS := Lib.hid (HSZ.out x (List.mem_of_getElem? hx))
            clear hx hrp hbe
            obtain ⟨gl, hgl⟩ : ∃ g, W.heap.size = g := ⟨_, rfl⟩
            obtain ⟨W2, hW2⟩ : ∃ V, W.alloc (.cells #[.slice AP mP dP, .int .i64 bg] 80) = V := ⟨_, rfl⟩
            have KS2 := Lib.hid ((HS.out.alloc' hgl 80 [.slice AP mP dP, .int .i64 bg]).atW hW2)
            have hbw2 := Lib.hid (fun b (hb : b < B) => KS2.out.bel0.block b (by have := HBW.out; omega))
            have hBW2 : B ≤ W2.heap.size := by have := HBW.out; have := KS2.out.bel0.size; omega
            have HRP2 : Hid (Mm.SlAt rPiece W2 B x.Pieces AP mP dP) := HRP.out.keep fun b hb => (hbw2.out b hb).trans (hbw.out b hb).symm
            have CL := goodLog_c x [.slice AP mP dP, .int .i64 bg] W2 B (by rw [← HBE.out]; exact rLog_at_mk HRP2.out (by rw [HBE.out]; exact hbg)) hBW2 HPS.out
            go_upto_region 7 with fail
            clear hW2 hgl e0 e1 HS
            have q0 := KS2.out.cell (k := 0) 0 rfl rfl
            have q1 := KS2.out.cell (k := 1) 0 rfl rfl
            go_wp2_with fail
            refine CL.mono ?_
            rintro e w3 ⟨lok, rfl, hlok, hb3⟩
            obtain ⟨W3, rfl⟩ : ∃ W : World, W = w3 := ⟨_, rfl⟩
            have KS3 := Lib.hid (KS2.out.step hb3)
            have HLOK := Lib.hid hlok
            clear CL q0 q1 hb3 hlok KS2
            have q0 := KS3.out.cell (k := 0) 0 rfl rfl
            have q1 := KS3.out.cell (k := 1) 0 rfl rfl
            have d1 := KS3.out.cell (k := 1) 1 rfl rfl
            have d2 := KS3.out.cell (k := 2) 1 rfl rfl
            have HBL := Lib.hid KS3.out.bel0
            have hbw3 := Lib.hid (fun b (hb : b < B) => KS3.out.bel0.block b (by have := HBW.out; omega))
            have hBW3 : B ≤ W3.heap.size := by have := HBW.out; have := KS3.out.bel0.size; omega
            obtain ⟨hd, b1, o1, AH, mH, dH, hxh, hA1, -, hrh, hoi, h0, h1⟩ := rHead_get (R1.out.keep (w' := W3) hbw3.out) hlt
            subst hA1
            obtain ⟨kp, b2, o2, AK, mK, dK, hxk, hA2, -, hrk, hoj, k0, k1⟩ := rHead_get (R2.out.keep (w' := W3) hbw3.out) hlt
            subst hA2
            have HXH := Lib.hid hxh
            have HXK := Lib.hid hxk
            have HH3 := Lib.hid (rHead_at_mk (hrh.more hBW3) hoi)
            have HK3 := Lib.hid (rHead_at_mk (hrk.more hBW3) hoj)
            obtain ⟨oh, hoh⟩ : ∃ o : Int, hd.Offset = o := ⟨_, rfl⟩
            obtain ⟨ok, hok⟩ : ∃ o : Int, kp.Offset = o := ⟨_, rfl⟩
            rw [hoh] at h1 HH3
            rw [hok] at k1 HK3
            have HOH := Lib.hid hoh
            have HOK2 := Lib.hid hok
            clear hxh hxk hrh hrk hoi hoj hoh hok
            cases lok with
            | false =>
              have HNL : Hid (¬ Pl.HouseOk h) := fun hk => by
                obtain ⟨l, hl⟩ := hk.part k x hd kp HX.out HXH.out HXK.out
                (exact absurd (HLOK.out.2 (Pl.LogOkR.of hl.log hl.fr hl.bg)) (by simp))
              go_wp2
              go_ret
              exact BoolAns.no HNL.out HBL.out
            | true =>
              by_cases hbg0 : bg = 0
              · have z2 : (bg != 0) = false := by simp [hbg0]
                have HBG : Hid (x.Begin = 0) := HBE.out.trans hbg0
                have HLG := Lib.hid ((HLOK.out.1 (by simp)).zero HBG.out)
                clear hbg0
                have CH1 := goodHead_c hd [.slice AH mH dH, .int .i64 oh] W3 W3.heap.size HH3.out (Nat.le_refl _)
                clear HBL
                go_wp2_with fail
                refine CH1.mono ?_
                rintro e w5 ⟨hok1, rfl, hh1, hb5⟩
                obtain ⟨W5, rfl⟩ : ∃ W : World, W = w5 := ⟨_, rfl⟩
                have KS5 := Lib.hid (KS3.out.step hb5)
                replace h0 := below_some hb5 h0
                replace h1 := below_some hb5 h1
                replace k0 := below_some hb5 k0
                replace k1 := below_some hb5 k1
                have HB5 := Lib.hid hb5
                have HHD1 := Lib.hid hh1
                clear CH1 q0 q1 d1 d2 hb5 hh1 KS3
                have q0 := KS5.out.cell (k := 0) 0 rfl rfl
                have q1 := KS5.out.cell (k := 1) 0 rfl rfl
                have d1 := KS5.out.cell (k := 1) 1 rfl rfl
                have d2 := KS5.out.cell (k := 2) 1 rfl rfl
                have HBL := Lib.hid KS5.out.bel0
                cases hok1 with
                | false =>
                  have HNL : Hid (¬ Pl.HouseOk h) := fun hk => by
                    obtain ⟨l, hl⟩ := hk.part k x hd kp HX.out HXH.out HXK.out
                    (exact absurd (HHD1.out.2 (hl.hdf.ok hl.sayOk (by have := hl.len; omega)).1) (by simp))
                  go_wp2
                  go_ret
                  exact BoolAns.no HNL.out HBL.out
                | true =>
                  have CH2 := goodHead_c kp [.slice AK mK dK, .int .i64 ok] W5 W3.heap.size (rHead.keep HK3.out fun b hb => HB5.out.block b hb) HB5.out.size
                  clear HBL
                  go_wp2_with fail
                  refine CH2.mono ?_
                  rintro e w6 ⟨hok2, rfl, hh2, hb6⟩
                  obtain ⟨W6, rfl⟩ : ∃ W : World, W = w6 := ⟨_, rfl⟩
                  have KS6 := Lib.hid (KS5.out.step hb6)
                  replace h0 := below_some hb6 h0
                  replace h1 := below_some hb6 h1
                  replace k0 := below_some hb6 k0
                  replace k1 := below_some hb6 k1
                  have HB6 : Hid (Below W3.heap.size W3 W6) := HB5.out.trans (below_le hb6 HB5.out.size)
                  have HHD2 := Lib.hid hh2
                  clear CH2 q0 q1 d1 d2 hb6 hh2 KS5
                  have q0 := KS6.out.cell (k := 0) 0 rfl rfl
                  have q1 := KS6.out.cell (k := 1) 0 rfl rfl
                  have HBL := Lib.hid KS6.out.bel0
                  cases hok2 with
                  | false =>
                    have HNL : Hid (¬ Pl.HouseOk h) := fun hk => by
                      obtain ⟨l, hl⟩ := hk.part k x hd kp HX.out HXH.out HXK.out
                      (exact absurd (HHD2.out.2 (hl.kpf.ok hl.sayOk (by have := hl.len; omega)).1) (by simp))
                    go_wp2
                    go_ret
                    exact BoolAns.no HNL.out HBL.out
                  | true =>
                    have HKH : Hid (Pl.HeadOk hd) := HHD1.out.1 (by simp)
                    have HKK : Hid (Pl.HeadOk kp) := HHD2.out.1 (by simp)
                    have HAT : Hid (rLog.at_ W6 B x [.slice AP mP dP, .int .i64 bg]) := by rw [← HBE.out]; exact rLog_at_mk (HRP.out.keep (w' := W6) fun b hb => (HBL.out.block b (by have := HBW.out; omega)).trans (hbw.out b hb).symm) (by rw [HBE.out]; exact hbg)
                    have CS := l17Says_c x (k : Int) (n0 : Int) [.slice AP mP dP, .int .i64 bg] W6 B HAT.out (by have := HBL.out.size; have := HBW.out; omega) HLG.out.1 HBG.out ⟨by omega, by omega⟩
                    clear HBL
                    go_wp2_with fail
                    refine CS.mono ?_
                    rintro e w4 hans
                    clear CS q0 q1
                    cases hso : Pl.saysOf (n0 : Int) (k : Int) (Pl.lRecs x.Pieces) with
                    | none =>
                      rw [hso] at hans
                      obtain ⟨rfl, hb4⟩ := hans
                      have HSO := Lib.hid hso
                      have HNL : Hid (¬ Pl.HouseOk h) := fun hk => by
                        obtain ⟨l, hl⟩ := hk.part k x hd kp HX.out HXH.out HXK.out
                        (have h9 := hl.txt; rw [HN0.out, HSO.out] at h9; cases h9)
                      obtain ⟨W4, rfl⟩ : ∃ W : World, W = w4 := ⟨_, rfl⟩
                      have KS4 := Lib.hid (KS6.out.step hb4)
                      clear hb4 hso KS6
                      go_upto_region 10 with fail
                      refine wp_region_und (by kernel_rfl) (by kernel_rfl) ?_
                      repeat (go_big_quiet_step ((first | fail)))
                      refine wpQuiet_nil ?_
                      intro X hX
                      have HBL := Lib.hid (below_step KS4.out.bel0 hX)
                      clear hX
                      go_wp2
                      go_ret
                      exact BoolAns.no HNL.out HBL.out
                    | some r =>
                      rw [hso] at hans
                      obtain ⟨A9, n9, c9, f9, rfl, hn9, hs9⟩ := hans
                      obtain ⟨W4, rfl⟩ : ∃ W : World, W = w4 := ⟨_, rfl⟩
                      have KS4 := Lib.hid (KS6.out.join hs9)
                      have hb4 := hs9.bel0
                      replace h0 := below_some hb4 h0
                      replace h1 := below_some hb4 h1
                      replace k0 := below_some hb4 k0
                      replace k1 := below_some hb4 k1
                      have HSA := Lib.hid hso
                      have hsi := Pl.saysOf_iff.1 hso
                      have HSY : Hid (∀ y, y ∈ r → Pl.sayOk y = true) := fun y hy => (hsi.2 y hy).1
                      have hr60 : n9 ≤ 60 := by have h1 := HLG.out.1.sum; rw [hsi.1, List.length_map] at h1; omega
                      have HN9 : Hid (n9 = r.length) := hn9
                      have HB34 : Hid (Below W3.heap.size W3 W4) := HB6.out.trans (below_le hb4 HB6.out.size)
                      clear hs9 hso hsi hn9 hb4 KS6
                      have hofh := HKH.out.off
                      have hofk := HKK.out.off
                      rw [HOH.out] at hofh
                      rw [HOK2.out] at hofk
                      obtain ⟨mh, rfl⟩ : ∃ m : Nat, oh = (m : Int) := ⟨oh.toNat, by omega⟩
                      obtain ⟨mk, rfl⟩ : ∃ m : Nat, ok = (m : Int) := ⟨ok.toNat, by omega⟩
                      go_upto_region 10 with fail
                      have d1 := KS4.out.cell (k := 1) 2 rfl rfl
                      have d2 := KS4.out.cell (k := 2) 2 rfl rfl
                      by_cases hmh9 : mh ≤ n9
                      · have l1 : decide ((n9 : Int) < (mh : Nat)) = false := decide_eq_false (by omega)
                        have l1n : decide (n9 < mh) = false := decide_eq_false (by omega)
                        by_cases hmk : mk ≤ mh
                        · have l2 : decide ((mh : Int) < (mk : Nat)) = false := decide_eq_false (by omega)
                          have l2n : decide (mh < mk) = false := decide_eq_false (by omega)
                          refine wp_region_und (by kernel_rfl) (by kernel_rfl) ?_
                          repeat (go_big_quiet_step ((first | fail)))
                          refine wpQuiet_nil ?_
                          intro X hX
                          obtain ⟨V4, rfl⟩ : ∃ W : World, W = X := ⟨_, rfl⟩
                          have KS7 := Lib.hid (KS4.out.step hX)
                          replace h0 := below_some hX h0
                          replace h1 := below_some hX h1
                          replace k0 := below_some hX k0
                          replace k1 := below_some hX k1
                          have HB7 : Hid (Below W3.heap.size W3 V4) := HB34.out.trans (below_le hX HB34.out.size)
                          have HSR := Lib.hid (KS7.out.rdSl 0 rfl)
                          have hsz7 := HB7.out.size
                          have HHD : Hid (rHead.at_ V4 V4.heap.size hd [.slice AH mH dH, .int .i64 hd.Offset]) := by
                            have hA := rHead.keep HH3.out fun b hb => HB7.out.block b hb
                            obtain ⟨A8, n8, c8, hcs8, g8, i8⟩ := rHead_at hA
                            simp only [List.cons.injEq, Value.slice.injEq, and_true] at hcs8
                            obtain ⟨⟨rfl, rfl, rfl⟩, -⟩ := hcs8
                            exact rHead_at_mk (g8.more hsz7) i8
                          have HKP : Hid (rHead.at_ V4 V4.heap.size kp [.slice AK mK dK, .int .i64 kp.Offset]) := by
                            have hA := rHead.keep HK3.out fun b hb => HB7.out.block b hb
                            obtain ⟨A8, n8, c8, hcs8, g8, i8⟩ := rHead_at hA
                            simp only [List.cons.injEq, Value.slice.injEq, and_true] at hcs8
                            obtain ⟨⟨rfl, rfl, rfl⟩, -⟩ := hcs8
                            exact rHead_at_mk (g8.more hsz7) i8
                          clear d1 d2 hX KS4 l1 l1n l2 l2n
                          have d1 := KS7.out.cell (k := 1) 2 rfl rfl
                          have d2 := KS7.out.cell (k := 2) 2 rfl rfl
                          have hmk9 : mk ≤ n9 := by omega
                          obtain ⟨FH, hFH⟩ : ∃ F, Pl.foldS ⟨[], 0⟩ (r.take mh) = F := ⟨_, rfl⟩
                          obtain ⟨FG, hFG⟩ : ∃ F, Pl.foldS ⟨[], 0⟩ (r.take mk) = F := ⟨_, rfl⟩
                          have HFK : Hid (Pl.HeadOk FH) := by rw [← hFH]; exact Pl.fold_ok HSY.out (by have := HN9.out; omega) mh
                          have HGK : Hid (Pl.HeadOk FG) := by rw [← hFG]; exact Pl.fold_ok HSY.out (by have := HN9.out; omega) mk
                          have HFO : Hid (FH.Offset = (mh : Int)) := by rw [← hFH]; exact Pl.fold_off0 r mh (by have := HN9.out; omega)
                          have HGO : Hid (FG.Offset = (mk : Int)) := by rw [← hFG]; exact Pl.fold_off0 r mk (by have := HN9.out; omega)
                          have HFH := Lib.hid hFH
                          have HFG := Lib.hid hFG
                          obtain ⟨sb1, HQ1⟩ := exists_bool (hd = FH)
                          obtain ⟨sb2, HQ2⟩ := exists_bool (kp = FG)
                          have HSB1 := Lib.hid HQ1
                          have HSB2 := Lib.hid HQ2
                          have hm0 : (0 : Int) ≤ (mh : Nat) := by omega
                          have hmt : ((mh : Nat) : Int).toNat = mh := by omega
                          have hk00 : (0 : Int) ≤ (mk : Nat) := by omega
                          have hkt : ((mk : Nat) : Int).toNat = mk := by omega
                          have hnc : n9 ≤ c9 := HSR.out.2.1
                          have hmc : mh ≤ c9 := by omega
                          have hkc : mk ≤ c9 := by omega
                          have hcm : c9 ≤ maxLen := HSR.out.2.2.1
                          have HFHD : Hid (Pl.FoldOf hd r ↔ hd = FH) := ⟨fun hf => by
                              have h3 := (hf.ok HSY.out (by have := HN9.out; omega)).2.2
                              rw [HOH.out] at h3
                              exact h3.symm.trans HFH.out, fun e => ⟨mh, by have := HN9.out; omega, by rw [HFH.out]; exact e⟩⟩
                          have HFKP : Hid (Pl.FoldOf kp r ↔ kp = FG) := ⟨fun hf => by
                              have h3 := (hf.ok HSY.out (by have := HN9.out; omega)).2.2
                              rw [HOK2.out] at h3
                              exact h3.symm.trans HFG.out, fun e => ⟨mk, by have := HN9.out; omega, by rw [HFG.out]; exact e⟩⟩
                          clear hFH hFG HQ1 HQ2
                          go_upto_region 12 with fail
                          cases sb1 with
                          | false =>
                            refine Mm.wp_region_give_all (fun i => match i with | 13 => some (gFoldH FH) | 14 => some (Mm.gVal (.bool false)) | 30 => none | 31 => none | _ => none) (fun i => match i with | 14 => [13] | 31 => [30] | _ => []) (fun _ => []) (F := []) (D := fun w' => ∃ z : Und V4, w' = und V4 z) (fun X us h => Mm.sep_und h) (by kernel_rfl) (by kernel_rfl) (by kernel_rfl) (Mm.SepF.startDrew _) ?_
                            repeat (refine Mm.give_det (by rfl) (by rfl) (by rfl) (fun K hK => ?_); go_big_quiet_op; refine hK _ ?_; clear hK K)
                            refine Mm.give_op0 110 (by rfl) rfl (by rfl) (by rfl) (by rfl) (by rfl) gFoldH_in (fun others X hX => ?_) ?_
                            · go_wp2_with (go_at_call 73; refine (l17Fold_c (r.take mh) A9 mh c9 X V4.heap.size ((HSR.out.keep fun b hb => hX.bel0.block b hb).take hmh9) hX.chg.size (by omega)).mono ?_; rintro e w5 ⟨A5, n5, c5, f5, rfl, hs5⟩)
                              rw [HFH.out] at hs5 ⊢
                              exact ⟨rfl, rfl, _, ⟨A5, n5, c5, f5, rfl, rfl⟩, (hX.join hs5).toOw (R := rHead) (x := FH) (cs := [.slice A5 n5 c5, .int .i64 FH.Offset]) (fun W hw => rHead_own_mk hw (by rw [HFO.out]; unfold Mm.I64; omega))⟩
                            rintro v ds ⟨A5, n5, c5, f5, rfl, rfl⟩
                            simp only [Act.put, List.setIfInBounds_toArray, List.set_cons_succ, List.set_cons_zero]
                            repeat (refine Mm.give_det (by rfl) (by rfl) (by rfl) (fun K hK => ?_); go_big_quiet_op; refine hK _ ?_; clear hK K)
                            refine Mm.give_op1 111 13 (by rfl) rfl (by rfl) (by rfl) (by rfl) rfl (by rfl) _ rfl Mm.gVal_in (fun others X hX => ?_) ?_
                            · have hA := (rHead.keep HHD.out fun b hb => hX.bel0.block b hb)
                              obtain ⟨A8, n8, c8, hcs8, g8, i8⟩ := rHead_at hA
                              have hA' : rHead.at_ X X.heap.size hd [.slice AH mH dH, .int .i64 hd.Offset] := by
                                rw [hcs8]; exact rHead_at_mk (g8.more hX.chg.size) i8
                              have hB' : rHead.at_ X X.heap.size FH [.slice A5 n5 c5, .int .i64 FH.Offset] := hX.rdHead 0 rfl
                              have CSM := BoolAns.fix HSB1.out (l17Same_c hd FH [.slice AH mH dH, .int .i64 hd.Offset] [.slice A5 n5 c5, .int .i64 FH.Offset] X X.heap.size hA' hB' (Nat.le_refl _) HKH.out HFK.out)
                              rw [HOH.out] at CSM
                              change Calls Tryz.prog 72 #[.agg #[.slice AH mH dH, .int .i64 ((mh : Nat) : Int)], .agg #[.slice A5 n5 c5, .int .i64 FH.Offset]] X _ at CSM
                              go_wp2_with (go_at_call 72; refine CSM.mono ?_; rintro e w6 ⟨rfl, hb6⟩)
                              exact Mm.gvq_val hX.tail hb6 rfl rfl
                            rintro v ds ⟨rfl, rfl⟩
                            simp only [Act.put, List.setIfInBounds_toArray, List.set_cons_succ, List.set_cons_zero]
                            repeat (refine Mm.give_det (by rfl) (by rfl) (by rfl) (fun K hK => ?_); go_big_quiet_op; refine hK _ ?_; clear hK K)
                            repeat (refine Mm.give_skip (by rfl) ?_; simp only [Act.put, List.setIfInBounds_toArray, List.set_cons_succ, List.set_cons_zero])
                            repeat (refine Mm.give_det (by rfl) (by rfl) (by rfl) (fun K hK => ?_); go_big_quiet_op; refine hK _ ?_; clear hK K)
                            refine Mm.give_nil ?_
                            rintro X hX
                            have HBL := Lib.hid (below_step KS7.out.bel0 hX.bel0)
                            clear hX
                            have HNL : Hid (¬ Pl.HouseOk h) := fun hk => by
                              obtain ⟨l, hl⟩ := hk.part k x hd kp HX.out HXH.out HXK.out
                              (have e1 := hl.txt; rw [HN0.out] at e1; have e2 := Option.some.inj (HSA.out.symm.trans e1); have e3 := hl.hdf; rw [← e2] at e3; exact absurd (HSB1.out.2 (HFHD.out.1 e3)) (by simp))
                            go_wp2
                            go_ret
                            exact BoolAns.no HNL.out HBL.out
                          | true =>
                            refine Mm.wp_region_give_all (fun i => match i with | 13 => some (gFoldH FH) | 14 => some (Mm.gVal (.bool true)) | 30 => (some (gFoldH FG)) | 31 => (some (Mm.gVal (.bool sb2))) | _ => none) (fun i => match i with | 14 => [13] | 31 => [30] | _ => []) (fun _ => []) (F := []) (D := fun w' => ∃ z : Und V4, w' = und V4 z) (fun X us h => Mm.sep_und h) (by kernel_rfl) (by kernel_rfl) (by kernel_rfl) (Mm.SepF.startDrew _) ?_
                            repeat (refine Mm.give_det (by rfl) (by rfl) (by rfl) (fun K hK => ?_); go_big_quiet_op; refine hK _ ?_; clear hK K)
                            refine Mm.give_op0 110 (by rfl) rfl (by rfl) (by rfl) (by rfl) (by rfl) gFoldH_in (fun others X hX => ?_) ?_
                            · go_wp2_with (go_at_call 73; refine (l17Fold_c (r.take mh) A9 mh c9 X V4.heap.size ((HSR.out.keep fun b hb => hX.bel0.block b hb).take hmh9) hX.chg.size (by omega)).mono ?_; rintro e w5 ⟨A5, n5, c5, f5, rfl, hs5⟩)
                              rw [HFH.out] at hs5 ⊢
                              exact ⟨rfl, rfl, _, ⟨A5, n5, c5, f5, rfl, rfl⟩, (hX.join hs5).toOw (R := rHead) (x := FH) (cs := [.slice A5 n5 c5, .int .i64 FH.Offset]) (fun W hw => rHead_own_mk hw (by rw [HFO.out]; unfold Mm.I64; omega))⟩
                            rintro v ds ⟨A5, n5, c5, f5, rfl, rfl⟩
                            simp only [Act.put, List.setIfInBounds_toArray, List.set_cons_succ, List.set_cons_zero]
                            repeat (refine Mm.give_det (by rfl) (by rfl) (by rfl) (fun K hK => ?_); go_big_quiet_op; refine hK _ ?_; clear hK K)
                            refine Mm.give_op1 111 13 (by rfl) rfl (by rfl) (by rfl) (by rfl) rfl (by rfl) _ rfl Mm.gVal_in (fun others X hX => ?_) ?_
                            · have hA := (rHead.keep HHD.out fun b hb => hX.bel0.block b hb)
                              obtain ⟨A8, n8, c8, hcs8, g8, i8⟩ := rHead_at hA
                              have hA' : rHead.at_ X X.heap.size hd [.slice AH mH dH, .int .i64 hd.Offset] := by
                                rw [hcs8]; exact rHead_at_mk (g8.more hX.chg.size) i8
                              have hB' : rHead.at_ X X.heap.size FH [.slice A5 n5 c5, .int .i64 FH.Offset] := hX.rdHead 0 rfl
                              have CSM := BoolAns.fix HSB1.out (l17Same_c hd FH [.slice AH mH dH, .int .i64 hd.Offset] [.slice A5 n5 c5, .int .i64 FH.Offset] X X.heap.size hA' hB' (Nat.le_refl _) HKH.out HFK.out)
                              rw [HOH.out] at CSM
                              change Calls Tryz.prog 72 #[.agg #[.slice AH mH dH, .int .i64 ((mh : Nat) : Int)], .agg #[.slice A5 n5 c5, .int .i64 FH.Offset]] X _ at CSM
                              go_wp2_with (go_at_call 72; refine CSM.mono ?_; rintro e w6 ⟨rfl, hb6⟩)
                              exact Mm.gvq_val hX.tail hb6 rfl rfl
                            rintro v ds ⟨rfl, rfl⟩
                            simp only [Act.put, List.setIfInBounds_toArray, List.set_cons_succ, List.set_cons_zero]
                            repeat (refine Mm.give_det (by rfl) (by rfl) (by rfl) (fun K hK => ?_); go_big_quiet_op; refine hK _ ?_; clear hK K)
                            refine Mm.give_op0 127 (by rfl) rfl (by rfl) (by rfl) (by rfl) (by rfl) gFoldH_in (fun others X hX => ?_) ?_
                            · go_wp2_with (go_at_call 73; refine (l17Fold_c (r.take mk) A9 mk c9 X V4.heap.size ((HSR.out.keep fun b hb => hX.bel0.block b hb).take hmk9) hX.chg.size (by omega)).mono ?_; rintro e w5 ⟨A5, n5, c5, f5, rfl, hs5⟩)
                              rw [HFG.out] at hs5 ⊢
                              exact ⟨rfl, rfl, _, ⟨A5, n5, c5, f5, rfl, rfl⟩, (hX.join hs5).toOw (R := rHead) (x := FG) (cs := [.slice A5 n5 c5, .int .i64 FG.Offset]) (fun W hw => rHead_own_mk hw (by rw [HGO.out]; unfold Mm.I64; omega))⟩
                            rintro v ds ⟨A6, n6, c6, f6, rfl, rfl⟩
                            simp only [Act.put, List.setIfInBounds_toArray, List.set_cons_succ, List.set_cons_zero]
                            repeat (refine Mm.give_det (by rfl) (by rfl) (by rfl) (fun K hK => ?_); go_big_quiet_op; refine hK _ ?_; clear hK K)
                            refine Mm.give_op1 128 30 (by rfl) rfl (by rfl) (by rfl) (by rfl) rfl (by rfl) _ rfl Mm.gVal_in (fun others X hX => ?_) ?_
                            · have hA := (rHead.keep HKP.out fun b hb => hX.bel0.block b hb)
                              obtain ⟨A8, n8, c8, hcs8, g8, i8⟩ := rHead_at hA
                              have hA' : rHead.at_ X X.heap.size kp [.slice AK mK dK, .int .i64 kp.Offset] := by
                                rw [hcs8]; exact rHead_at_mk (g8.more hX.chg.size) i8
                              have hB' : rHead.at_ X X.heap.size FG [.slice A6 n6 c6, .int .i64 FG.Offset] := hX.rdHead 0 rfl
                              have CSM := BoolAns.fix HSB2.out (l17Same_c kp FG [.slice AK mK dK, .int .i64 kp.Offset] [.slice A6 n6 c6, .int .i64 FG.Offset] X X.heap.size hA' hB' (Nat.le_refl _) HKK.out HGK.out)
                              rw [HOK2.out] at CSM
                              change Calls Tryz.prog 72 #[.agg #[.slice AK mK dK, .int .i64 ((mk : Nat) : Int)], .agg #[.slice A6 n6 c6, .int .i64 FG.Offset]] X _ at CSM
                              go_wp2_with (go_at_call 72; refine CSM.mono ?_; rintro e w6 ⟨rfl, hb6⟩)
                              exact Mm.gvq_val hX.tail hb6 rfl rfl
                            rintro v ds ⟨rfl, rfl⟩
                            simp only [Act.put, List.setIfInBounds_toArray, List.set_cons_succ, List.set_cons_zero]
                            repeat (refine Mm.give_det (by rfl) (by rfl) (by rfl) (fun K hK => ?_); go_big_quiet_op; refine hK _ ?_; clear hK K)
                            refine Mm.give_nil ?_
                            rintro X hX
                            have KS8 := Lib.hid ((KS7.out.step hX.bel0).sel [2] (by decide) rfl)
                            clear hX
                            cases sb2 with
                            | false =>
                              have HBL := Lib.hid KS8.out.bel0
                              have HNL : Hid (¬ Pl.HouseOk h) := fun hk => by
                                obtain ⟨l, hl⟩ := hk.part k x hd kp HX.out HXH.out HXK.out
                                (have e1 := hl.txt; rw [HN0.out] at e1; have e2 := Option.some.inj (HSA.out.symm.trans e1); have e3 := hl.kpf; rw [← e2] at e3; exact absurd (HSB2.out.2 (HFKP.out.1 e3)) (by simp))
                              go_wp2
                              go_ret
                              exact BoolAns.no HNL.out HBL.out
                            | true =>
                              have HPK : Hid (Pl.PartOk n0 k x hd kp r) := ⟨HLG.out.1, HLG.out.2, HBG.out, HSA.out, HFHD.out.2 (HSB1.out.1 rfl), HFKP.out.2 (HSB2.out.1 rfl), by rw [HOH.out, HOK2.out]; omega⟩
                              have HUN : Hid (∀ i g a b, i < k + 1 → h.Logs[i]? = some g → h.Heads[i]? = some a → h.Kept[i]? = some b → ∃ l, Pl.PartOk n0 i g a b l) := fun i g a b hi hg ha hb => by
                                rcases Nat.lt_succ_iff_lt_or_eq.1 hi with h1 | rfl
                                · exact HU.out i g a b h1 hg ha hb
                                · rw [HX.out] at hg; rw [HXH.out] at ha; rw [HXK.out] at hb
                                  injection hg with hg; injection ha with ha; injection hb with hb
                                  subst hg; subst ha; subst hb
                                  exact ⟨r, HPK.out⟩
                              go_wp2
                              go_roundg (n0 - (k + 1))
                              case measure => omega
                              case rel => exact ⟨k + 1, Nat.le_refl _, by omega, by go_num, HUN.out, KS8.out⟩
                        · have l2 : decide ((mh : Int) < (mk : Nat)) = true := decide_eq_true (by omega)
                          have l2n : decide (mh < mk) = true := decide_eq_true (by omega)
                          have HNL : Hid (¬ Pl.HouseOk h) := fun hk => by
                            obtain ⟨l, hl⟩ := hk.part k x hd kp HX.out HXH.out HXK.out
                            (have h9 := hl.le; rw [HOH.out, HOK2.out] at h9; omega)
                          refine wp_region_und (by kernel_rfl) (by kernel_rfl) ?_
                          repeat (go_big_quiet_step ((first | fail)))
                          refine wpQuiet_nil ?_
                          intro X hX
                          have HBL := Lib.hid (below_step KS4.out.bel0 hX)
                          clear hX
                          go_wp2
                          go_ret
                          exact BoolAns.no HNL.out HBL.out
                      · have l1 : decide ((n9 : Int) < (mh : Nat)) = true := decide_eq_true (by omega)
                        have l1n : decide (n9 < mh) = true := decide_eq_true (by omega)
                        have HNL : Hid (¬ Pl.HouseOk h) := fun hk => by
                          obtain ⟨l, hl⟩ := hk.part k x hd kp HX.out HXH.out HXK.out
                          (have e1 := hl.txt; rw [HN0.out] at e1; have e2 := Option.some.inj (HSA.out.symm.trans e1); have e3 := (hl.hdf.ok hl.sayOk (by have := hl.len; omega)).2.1; rw [← e2, HOH.out] at e3; have := HN9.out; omega)
                        refine wp_region_und (by kernel_rfl) (by kernel_rfl) ?_
                        repeat (go_big_quiet_step ((first | fail)))
                        refine wpQuiet_nil ?_
                        intro X hX
                        have HBL := Lib.hid (below_step KS4.out.bel0 hX)
                        clear hX
                        go_wp2
                        go_ret
                        exact BoolAns.no HNL.out HBL.out
              · have z2 : (bg != 0) = true := by simpa using hbg0
                have HNL : Hid (¬ Pl.HouseOk h) := fun hk => by
                  obtain ⟨l, hl⟩ := hk.part k x hd kp HX.out HXH.out HXK.out
                  (exact hbg0 (HBE.out.symm.trans hl.bg))
                clear hbg0
                go_wp2
                go_ret
                exact BoolAns.no HNL.out HBL.out
          · obtain rfl : k = n0 := by omega
            have fc : ¬ ((k : Nat) : Int) < (k : Nat) := by omega
            have HY : Hid (Pl.HouseOk h) := ⟨by have := HN0.out; omega, by have := HN0.out; omega, by rw [HN1.out, HN0.out], by rw [HN2.out, HN0.out], fun i g a b hg ha hb => by rw [HN0.out]; exact HU.out i g a b (by have := (List.getElem?_eq_some_iff.1 hg).1; have := HN0.out; omega) hg ha hb⟩
            have HBL := Lib.hid HS.out.bel0
            go_wp2
            go_ret
            exact BoolAns.yes HY.out HBL.out
      · have hz : ((n2 : Int) != (n0 : Int)) = true := by simp; omega
        have HNL : Hid (¬ Pl.HouseOk h) := fun hk => h2 (by rw [← HN2.out, ← HN0.out]; exact hk.kpn)
        subst h1
        clear h2
        go_wp2_with (go_at_call 68; (with_reducible refine (l1In_isJ hin _).mono ?_); rintro e w' ⟨rfl, rfl⟩)
        go_ret
        exact BoolAns.no HNL.out HBL.out
    · have hz : ((n1 : Int) != (n0 : Int)) = true := by simp; omega
      have HNL : Hid (¬ Pl.HouseOk h) := fun hk => h1 (by rw [← HN1.out, ← HN0.out]; exact hk.hdn)
      clear h1
      go_wp2_with (go_at_call 68; (with_reducible refine (l1In_isJ hin _).mono ?_); rintro e w' ⟨rfl, rfl⟩)
      go_ret
      exact BoolAns.no HNL.out HBL.out
  · have hin : Pl.isIn (n0 : Int) 1 3 = false := by unfold Pl.isIn; simp; omega
    have HNL : Hid (¬ Pl.HouseOk h) := fun hk => hn ⟨by rw [← HN0.out]; exact hk.n1, by rw [← HN0.out]; exact hk.n3⟩
    clear hn
    go_wp2_with (go_at_call 68; (with_reducible refine (l1In_isJ hin _).mono ?_); rintro e w' ⟨rfl, rfl⟩)
    go_ret
    exact BoolAns.no HNL.out HBL.out
end Go.Proofs.YtbhmdnjammnlnaaGreatDoor

/-
  Contracts: GoodHouse, both sides, by one answer. Conditions: those named (Tab).
-/
namespace Go.Proofs.YtbhmdnjammnlnaaGreatDoor
open Go.RowKit
attribute [local go_sem] und_cell cha_cell World.cell?_alloc_some
theorem Pl.szI_mem {α : Type} {f : α → Int} (h : ∀ x, 0 ≤ f x) : ∀ {l : List α} {x : α}, x ∈ l → f x ≤ Pl.sumI f l
  | y :: t, x, hx => by
    have h1 := Pl.sumI_nn h t
    have h2 := h y
    show f x ≤ f y + Pl.sumI f t
    rcases List.mem_cons.1 hx with rfl | hx
    · omega
    · have := Pl.szI_mem h hx; omega
theorem Pl.house_bytes {h : House} (hs : Pl.szHouse h ≤ 1048576) : ∀ g, g ∈ h.Logs → ∀ p, p ∈ g.Pieces → p.Bytes.size ≤ 2000000 := by
  intro g hg p hp
  have h1 := Pl.szI_mem Pl.szLog_nn hg
  have h2 := Pl.szI_mem Pl.szPiece_nn hp
  have h3 := Pl.szl_nn (f := Pl.szHead) Pl.szHead_nn h.Heads
  have h4 := Pl.szl_nn (f := Pl.szHead) Pl.szHead_nn h.Kept
  have h5 : (p.Bytes.size : Int) ≤ Pl.szPiece p := by
    have := Pl.szl_nn (f := Pl.sz0) Pl.sz0_nn p.Index
    unfold Pl.szPiece Pl.szStr; omega
  have h6 : Pl.szLog g = (g.Pieces.length : Int) + Pl.sumI Pl.szPiece g.Pieces := rfl
  have h7 : Pl.szHouse h = ((h.Logs.length : Int) + Pl.sumI Pl.szLog h.Logs) + Pl.szl Pl.szHead h.Heads + Pl.szl Pl.szHead h.Kept := rfl
  omega
theorem specGoodHouse_c (h : House) (b : Bool) (hb : b = true ↔ Pl.HouseOk h) (hsz : Pl.szHouse h ≤ 1048576) (cs : List Value) (w : World) (B : Nat) (hh : rHouse.at_ w B h cs) (hB : B ≤ w.heap.size) :
    Calls Tryz.prog 23 #[.agg cs.toArray] w fun e w' => e = .returned (.bool b) ∧ Below w.heap.size w w' :=
  BoolAns.fix hb (goodHouse_c h cs w B hh hB (Pl.house_bytes hsz))
end Go.Proofs.YtbhmdnjammnlnaaGreatDoor

/-
  Contracts: RowOf, both sides. No conditions beyond those named.
-/
namespace Go.Proofs.YtbhmdnjammnlnaaGreatDoor
open Go.RowKit
attribute [local go_sem] und_cell cha_cell World.cell?_alloc_some
namespace Pl
/-- its samples -/
def smpsOf : Option Row → List Sample
  | none => []
  | some r => r.Samples
end Pl
/-- a copy of a row's samples, if there is one -/
def RowAns (o : Option Row) (w : World) (e : Ending) (w' : World) : Prop :=
  ∃ A n c fp, e = .returned (.tuple #[.slice A n c, .bool o.isSome]) ∧ Mm.SepF [] w w' [Mm.tsl smp 124 (Pl.smpsOf o) (.slice A n c) fp]
theorem RowAns.no {o : Option Row} (h : o = none) {w w' : World} (hb : Below w.heap.size w w') : RowAns o w (.returned (.tuple #[.slice none 0 0, .bool false])) w' := by
  subst h
  exact ⟨none, 0, 0, [], rfl, ((Mm.SepF.start w).add hb (t := Mm.tsl smp 124 [] (.slice none 0 0) []) Mm.SlOwn.nil List.nodup_nil (fun b hb => by cases hb))⟩
end Go.Proofs.YtbhmdnjammnlnaaGreatDoor

/-
  Contracts: AskHouse, both sides. Conditions: those named (Tab).
-/
namespace Go.Proofs.YtbhmdnjammnlnaaGreatDoor
open Go.RowKit
attribute [local go_sem] und_cell cha_cell World.cell?_alloc_some
namespace Pl
theorem HouseOk.ex {h : House} (k : HouseOk h) {i : Nat} (hi : i < h.Logs.length) : ∃ g a b l, h.Logs[i]? = some g ∧ h.Heads[i]? = some a ∧ h.Kept[i]? = some b ∧ PartOk h.Logs.length i g a b l := by
  obtain ⟨l, hl⟩ := k.part i _ _ _ (List.getElem?_eq_getElem hi) (List.getElem?_eq_getElem (by rw [k.hdn]; exact hi)) (List.getElem?_eq_getElem (by rw [k.kpn]; exact hi))
  exact ⟨_, _, _, l, List.getElem?_eq_getElem hi, List.getElem?_eq_getElem (by rw [k.hdn]; exact hi), List.getElem?_eq_getElem (by rw [k.kpn]; exact hi), hl⟩
theorem PartOk.head {n k : Nat} {g : Log} {hd kp : Head} {l : List Say} (h : PartOk n k g hd kp l) : HeadOk hd := (h.hdf.ok h.sayOk (by have := h.len; omega)).1
theorem PartOk.kept {n k : Nat} {g : Log} {hd kp : Head} {l : List Say} (h : PartOk n k g hd kp l) : HeadOk kp := (h.kpf.ok h.sayOk (by have := h.len; omega)).1
theorem HouseOk.head {h : House} (k : HouseOk h) {i : Nat} {a : Head} (ha : h.Heads[i]? = some a) : HeadOk a := by
  obtain ⟨g, a', b, l, h1, h2, h3, h4⟩ := k.ex (i := i) (by have := (List.getElem?_eq_some_iff.1 ha).1; rw [k.hdn] at this; exact this)
  rw [ha] at h2; injection h2 with h2; subst h2; exact h4.head
end Pl
def AskAns (x : List Sample × Bool × Bool) (w : World) (e : Ending) (w' : World) : Prop :=
  ∃ A n c fp, e = .returned (.tuple #[.slice A n c, .bool x.2.1, .bool x.2.2]) ∧ Mm.SepF [] w w' [Mm.tsl smp 124 x.1 (.slice A n c) fp]
theorem AskAns.no {x : List Sample × Bool × Bool} {b : Bool} (h : x = ([], false, b)) {w w' : World} (hb : Below w.heap.size w w') : AskAns x w (.returned (.tuple #[.slice none 0 0, .bool false, .bool b])) w' := by
  subst h
  exact ⟨none, 0, 0, [], rfl, ((Mm.SepF.start w).add hb (t := Mm.tsl smp 124 [] (.slice none 0 0) []) Mm.SlOwn.nil List.nodup_nil (fun b hb => by cases hb))⟩
end Go.Proofs.YtbhmdnjammnlnaaGreatDoor

/-
  Plain: the steps of a store; a good store stays good. No program in sight. No conditions.
-/
namespace Go.Proofs.YtbhmdnjammnlnaaGreatDoor
open Go.RowKit
namespace Pl
theorem FoldOf.mono {h : Head} {l : List Say} (k : FoldOf h l) (x : Say) : FoldOf h (l ++ [x]) := by
  obtain ⟨m, hm, rfl⟩ := k
  exact ⟨m, by rw [List.length_append]; omega, by rw [List.take_append_of_le_length hm]⟩
theorem FoldOf.next {h : Head} {l : List Say} (k : FoldOf h l) {x : Say} (hx : l[h.Offset.toNat]? = some x) : FoldOf (takeS h x).1 l := by
  obtain ⟨m, hm, rfl⟩ := k
  have h1 := fold_off0 l m hm
  rw [h1, Int.toNat_natCast] at hx
  have h2 := (List.getElem?_eq_some_iff.1 hx).1
  exact ⟨m + 1, h2, by rw [Mm.take_succ_some hx, foldS_snoc]⟩
theorem logOut_from {g : Log} {s : ByteArray} (h : LogOk g) : from0 (logOut g s).Pieces = from0 g.Pieces := by
  have h1 := h.len.1
  obtain ⟨ps, bg⟩ := g
  dsimp only at h1
  cases ps with
  | nil => simp at h1
  | cons p t =>
    unfold logOut
    split
    · rfl
    · cases t with
      | nil => rfl
      | cons q t => rfl
theorem PartOk.next {n k : Nat} {g : Log} {a b : Head} {l : List Say} (h : PartOk n k g a b l) {x : Say} (hx : l[a.Offset.toNat]? = some x) : PartOk n k g (takeS a x).1 b l :=
  ⟨h.log, h.fr, h.bg, h.txt, h.hdf.next hx, h.kpf, by rw [takeS_off]; have := h.le; omega⟩
theorem PartOk.keep {n k : Nat} {g : Log} {a b : Head} {l : List Say} (h : PartOk n k g a b l) : PartOk n k g a a l := ⟨h.log, h.fr, h.bg, h.txt, h.hdf, h.hdf, Int.le_refl _⟩
theorem PartOk.lose {n k : Nat} {g : Log} {a b : Head} {l : List Say} (h : PartOk n k g a b l) : PartOk n k g b b l := ⟨h.log, h.fr, h.bg, h.txt, h.kpf, h.kpf, Int.le_refl _⟩
theorem PartOk.tell {n k : Nat} {g : Log} {a b : Head} {l : List Say} (h : PartOk n k g a b l) {x : Say} (hx : Pl.sayOk x = true) (hp : partN n x.Name = k) (ho : appOk g (sayTxt x) = true) : PartOk n k (logOut g (sayTxt x)) a b (l ++ [x]) := by
  obtain ⟨h20, hok⟩ := (appOk_iff h.log).1 ho
  refine ⟨hok, by rw [logOut_from h.log]; exact h.fr, by rw [logOut_bg]; exact h.bg, saysOf_iff.2 ⟨?_, fun y hy => ?_⟩, h.hdf.mono x, h.kpf.mono x, h.le⟩
  · rw [logOut_recs h.log h20, h.says.1, List.map_append]; rfl
  · rcases List.mem_append.1 hy with hy | hy
    · exact h.says.2 y hy
    · rw [List.mem_singleton] at hy; subst hy; exact ⟨hx, hp⟩
/-- one part is put anew -/
theorem HouseOk.upd {h h' : House} (H : HouseOk h) (k : Nat) (e0 : h'.Logs.length = h.Logs.length) (e1 : h'.Heads.length = h.Heads.length) (e2 : h'.Kept.length = h.Kept.length)
    (o0 : ∀ i, i ≠ k → h'.Logs[i]? = h.Logs[i]?) (o1 : ∀ i, i ≠ k → h'.Heads[i]? = h.Heads[i]?) (o2 : ∀ i, i ≠ k → h'.Kept[i]? = h.Kept[i]?)
    (hp : ∀ g a b, h'.Logs[k]? = some g → h'.Heads[k]? = some a → h'.Kept[k]? = some b → ∃ l, PartOk h.Logs.length k g a b l) : HouseOk h' := by
  refine ⟨by rw [e0]; exact H.n1, by rw [e0]; exact H.n3, by rw [e0, e1]; exact H.hdn, by rw [e0, e2]; exact H.kpn, fun i g a b hg ha hb => ?_⟩
  rw [e0]
  by_cases hi : i = k
  · subst hi; exact hp g a b hg ha hb
  · rw [o0 i hi] at hg
    rw [o1 i hi] at ha
    rw [o2 i hi] at hb
    exact H.part i g a b hg ha hb
theorem set_ne {α : Type} {l : List α} {k : Nat} {x : α} : ∀ i, i ≠ k → (l.set k x)[i]? = l[i]? := fun i hi => List.getElem?_set_ne (fun e => hi e.symm)
theorem set_me {α : Type} {l : List α} {k : Nat} {x y : α} (h : (l.set k x)[k]? = some y) : y = x := by
  have h1 := (List.getElem?_eq_some_iff.1 h).1
  rw [List.length_set] at h1
  rw [List.getElem?_set_self h1] at h
  injection h with h
  exact h.symm
def zSay : Say := ⟨⟨#[]⟩, 0, 0⟩
/-- no measurement -/
def noSay (x : Say) : Bool := decide (x.Name.size = 0) && decide (x.At = 0) && decide (x.Value = 0)
def zLog : Log := ⟨[], 0⟩
def zHead : Head := ⟨[], 0⟩
/-- a record of a log, read -/
def sayAt (g : Log) (m : Nat) : Say := (readS ((lRecs g.Pieces).getD m ⟨#[]⟩)).getD zSay
def logK (h : House) (k : Nat) : Log := h.Logs.getD k zLog
def headK (h : House) (k : Nat) : Head := h.Heads.getD k zHead
def keptK (h : House) (k : Nat) : Head := h.Kept.getD k zHead
theorem getDz {α : Type} {l : List α} {k : Nat} {x z : α} (h : l[k]? = some x) : l.getD k z = x := by rw [List.getD_eq_getElem?_getD, h]; rfl
theorem logK_of {h : House} {k : Nat} {g : Log} (hg : h.Logs[k]? = some g) : logK h k = g := getDz hg
theorem headK_of {h : House} {k : Nat} {a : Head} (ha : h.Heads[k]? = some a) : headK h k = a := getDz ha
theorem keptK_of {h : House} {k : Nat} {a : Head} (ha : h.Kept[k]? = some a) : keptK h k = a := getDz ha
/-- the head of a part takes its next record, if there is one -/
def followS (h : House) (k : Nat) : House × Bool :=
  if (headK h k).Offset < (lRecs (logK h k).Pieces).length then (⟨h.Logs, h.Heads.set k (takeS (headK h k) (sayAt (logK h k) (headK h k).Offset.toNat)).1, h.Kept⟩, true) else (h, false)
theorem sayAt_of {n k : Nat} {g : Log} {a b : Head} {l : List Say} (h : PartOk n k g a b l) {m : Nat} (hm : m < (lRecs g.Pieces).length) : ∃ x, l[m]? = some x ∧ sayAt g m = x ∧ (lRecs g.Pieces)[m]? = some (sayTxt x) ∧ readS (sayTxt x) = some x := by
  have h1 := h.says.1
  rw [h1, List.length_map] at hm
  have h2 : l[m]? = some l[m] := List.getElem?_eq_getElem hm
  have h3 : (lRecs g.Pieces)[m]? = some (sayTxt l[m]) := by rw [h1, List.getElem?_map, h2]; rfl
  have h4 := readS_of (h.sayOk _ (List.mem_of_getElem? h2))
  exact ⟨l[m], h2, by unfold sayAt; rw [List.getD_eq_getElem?_getD, h3]; show (readS (sayTxt l[m])).getD zSay = _; rw [h4]; rfl, h3, h4⟩
theorem HouseOk.follow {h : House} (H : HouseOk h) (k : Nat) : HouseOk (followS h k).1 := by
  unfold followS
  split
  · rename_i hc
    refine H.upd k rfl (List.length_set) rfl (fun _ _ => rfl) set_ne (fun _ _ => rfl) fun g a b hg ha hb => ?_
    dsimp only at hg ha hb
    have hk : k < h.Logs.length := (List.getElem?_eq_some_iff.1 hg).1
    obtain ⟨g', a', b', l, h1, h2, h3, h4⟩ := H.ex hk
    rw [hg] at h1; injection h1 with h1; subst h1
    rw [hb] at h3; injection h3 with h3; subst h3
    rw [logK_of hg, headK_of h2] at hc
    have ho := h4.head.off
    obtain ⟨x, hx, hs, -, -⟩ := sayAt_of h4 (m := a'.Offset.toNat) (by omega)
    rw [set_me ha, logK_of hg, headK_of h2, hs]
    exact ⟨l, h4.next hx⟩
  · exact H
/-- a step -/
def stepS (h : House) (s : HouseStep) : House × Bool :=
  if 0 ≤ s.Part ∧ s.Part < h.Logs.length then
    if s.Kind = 1 then
      if sayOk s.What = true ∧ partN h.Logs.length s.What.Name = s.Part ∧ appOk (logK h s.Part.toNat) (sayTxt s.What) = true then (⟨h.Logs.set s.Part.toNat (logOut (logK h s.Part.toNat) (sayTxt s.What)), h.Heads, h.Kept⟩, true) else (h, false)
    else if noSay s.What = true then
      if s.Kind = 2 then followS h s.Part.toNat
      else if s.Kind = 3 then (⟨h.Logs, h.Heads, h.Kept.set s.Part.toNat (headK h s.Part.toNat)⟩, true)
      else if s.Kind = 4 then (⟨h.Logs, h.Heads.set s.Part.toNat (keptK h s.Part.toNat), h.Kept⟩, true)
      else (h, false)
    else (h, false)
  else (h, false)
theorem HouseOk.step {h : House} (H : HouseOk h) (s : HouseStep) : HouseOk (stepS h s).1 := by
  unfold stepS
  split
  · rename_i hp
    obtain ⟨k, hk⟩ : ∃ k : Nat, s.Part = k := ⟨s.Part.toNat, by omega⟩
    have hkn : k < h.Logs.length := by omega
    obtain ⟨g, a, b, l, h1, h2, h3, h4⟩ := H.ex hkn
    rw [hk, Int.toNat_natCast]
    split
    · split
      · rename_i hc
        refine H.upd k (List.length_set) rfl rfl set_ne (fun _ _ => rfl) (fun _ _ => rfl) fun g' a' b' hg' ha' hb' => ?_
        dsimp only at hg' ha' hb'
        rw [h2] at ha'; injection ha' with ha'; subst ha'
        rw [h3] at hb'; injection hb' with hb'; subst hb'
        rw [logK_of h1] at hc
        rw [set_me hg', logK_of h1]
        exact ⟨_, h4.tell hc.1 hc.2.1 hc.2.2⟩
      · exact H
    · split
      · split
        · exact H.follow k
        · split
          · refine H.upd k rfl rfl (List.length_set) (fun _ _ => rfl) (fun _ _ => rfl) set_ne fun g' a' b' hg' ha' hb' => ?_
            dsimp only at hg' ha' hb'
            rw [h1] at hg'; injection hg' with hg'; subst hg'
            rw [h2] at ha'; injection ha' with ha'; subst ha'
            rw [set_me hb', headK_of h2]
            exact ⟨l, h4.keep⟩
          · split
            · refine H.upd k rfl (List.length_set) rfl (fun _ _ => rfl) set_ne (fun _ _ => rfl) fun g' a' b' hg' ha' hb' => ?_
              dsimp only at hg' ha' hb'
              rw [h1] at hg'; injection hg' with hg'; subst hg'
              rw [h3] at hb'; injection hb' with hb'; subst hb'
              rw [set_me ha', keptK_of h3]
              exact ⟨l, h4.lose⟩
            · exact H
      · exact H
  · exact H
end Pl
end Go.Proofs.YtbhmdnjammnlnaaGreatDoor

