/-
  Joined texts, in build order: Kp, Kd, Ke, Pl, Mc. Each part says what it proves; no conditions beyond those that a part names.
-/
import Derived.Test.YtnppcdiicnofpaaZ01
import Derived.Test.YtnppcdiicnofpaaZ02
import Derived.Test.YtnppcdiicnofpaaZ03
import Derived.Test.YtnppcdiicnofpaaZ04
import Derived.Test.YtnppcdiicnofpaaZ05
import Derived.Test.YtnppcdiicnofpaaZ06
import Derived.Deep.LoopGhost
import Derived.Deep.DeepCutAuto
import Derived.Deep.CutBlock
/-
  Contracts: which labels are kept, the program's (keepLabels and what it calls). No conditions beyond those named.
-/
namespace Go.Proofs.Ytnppcdiicnofpaa
open Go.RowKit
attribute [local go_sem] und_cell World.cell?_alloc_some
def Pl.hasN (names : List ByteArray) (s : ByteArray) : Bool := decide (0 ≤ Pl.idx names s)
def Pl.keepL (l : List Label) (names : List ByteArray) : List Label := l.filter fun x => Pl.hasN names x.Name
theorem Pl.keepL_snoc (l : List Label) (names : List ByteArray) (x : Label) : Pl.keepL (l ++ [x]) names = Pl.keepL l names ++ if Pl.hasN names x.Name = true then [x] else [] := by
  unfold Pl.keepL
  rw [List.filter_append, List.filter_cons, List.filter_nil]
theorem Pl.keepL_next {l : List Label} {names : List ByteArray} {k : Nat} {x : Label} (h : l[k]? = some x) : Pl.keepL (l.take (k + 1)) names = Pl.keepL (l.take k) names ++ if Pl.hasN names x.Name = true then [x] else [] := by
  obtain ⟨hk, hx⟩ := List.getElem?_eq_some_iff.1 h
  rw [List.take_succ_eq_append_getElem hk, hx, Pl.keepL_snoc]
theorem kIdx_c (l : List ByteArray) (A : Option Addr) (n c : Nat) (v : ByteArray) (w : World) (B : Nat) (hl : Mm.SlAt Mm.str w B l A n c) :
    Calls Try.prog 110 #[.slice A n c, .string v] w fun e w' => e = .returned (.int .i64 (Pl.idx l v)) ∧ w = w' := by
  have hlen : Hid (l.length = n) := hl.1
  have hn : n ≤ 9223372036854775807 := by have := hl.2.1; have := hl.2.2.1; unfold maxLen at this; omega
  have HL := Lib.hid hl
  clear hl
  go_enter Try.func110, Try.ntmps110
  go_wp2
  go_loopg [8] n (fun g i wr => wr = w ∧ ∃ k : Nat, n - k ≤ g ∧ k ≤ n ∧ i = .int .i64 k ∧ Hid (Pl.idx l v = Pl.idxFrom l v (n - k) k))
  case atStart => exact ⟨rfl, 0, Nat.le_refl _, Nat.zero_le _, rfl, by show _ = _; unfold Pl.idx; rw [hlen.out]; rfl⟩
  case round =>
    obtain ⟨rfl, k, hgk, hk, rfl, HU⟩ := hrel
    by_cases hlt : k < n
    · obtain ⟨x, b0, off, hx, rfl, hb, b1, d1⟩ := str_get HL.out hlt
      have HX := Lib.hid (Pl.strAt_of hx)
      clear hx
      cases he : (v.toList == x.toList)
      · have hne : Hid (x ≠ v) := fun e => by subst e; simp at he
        have HN := Lib.hid (Pl.idx_no HU.out hlt (by rw [HX.out]; exact hne.out))
        go_wp2
        go_roundg (n - (k + 1))
        case measure => omega
        case rel => exact ⟨rfl, k + 1, Nat.le_refl _, by omega, by go_num, HN.out⟩
      · have hq : Hid (x = v) := by
          have h1 : v.toList = x.toList := by simpa using he
          rw [Lib.toList_data, Lib.toList_data] at h1
          exact (WideShapes.bytes_inj h1).symm
        have HN := Lib.hid (Pl.idx_yes hlen.out HU.out hlt (by rw [HX.out]; exact hq.out))
        go_wp2
        go_ret
        exact ⟨ret_int HN.out.symm, rfl⟩
    · have HN := Lib.hid (Pl.idx_end HU.out hlt)
      go_wp2
      go_ret
      exact ⟨ret_int HN.out.symm, rfl⟩
theorem kHas_c (l : List ByteArray) (A : Option Addr) (n c : Nat) (v : ByteArray) (w : World) (B : Nat) (hl : Mm.SlAt Mm.str w B l A n c) :
    Calls Try.prog 95 #[.slice A n c, .string v] w fun e w' => e = .returned (.bool (Pl.hasN l v)) ∧ w = w' := by
  obtain ⟨b, hb⟩ : ∃ b, Pl.hasN l v = b := ⟨_, rfl⟩
  obtain ⟨i, hi⟩ : ∃ i, Pl.idx l v = i := ⟨_, rfl⟩
  have C := kIdx_c l A n c v w B hl
  rw [hi] at C
  rw [hb]
  unfold Pl.hasN at hb
  rw [hi] at hb
  clear hi
  cases b with
  | true =>
    have h : 0 ≤ i := by simpa using hb
    clear hb
    go_enter Try.func95, Try.ntmps95
    go_wp2_with (go_at_call 110; (with_reducible refine C.mono ?_); rintro e w' ⟨rfl, rfl⟩)
    go_ret
    exact ⟨rfl, rfl⟩
  | false =>
    have h : decide ((0 : Int) ≤ i) = false := hb
    clear hb
    go_enter Try.func95, Try.ntmps95
    go_wp2_with (go_at_call 110; (with_reducible refine C.mono ?_); rintro e w' ⟨rfl, rfl⟩)
    go_ret
    exact ⟨rfl, rfl⟩
/-- what the function on labels captures: the list of names, in a variable of its own -/
structure Caps (names : List ByteArray) (A : Option Addr) (n c gn B : Nat) (w : World) : Prop where
  cell : w.cell? ⟨gn, 0, none⟩ = some (.slice A n c)
  sl : Mm.SlAt Mm.str w B names A n c
  lt : gn < w.heap.size
  le : B ≤ w.heap.size
theorem Caps.bel {names : List ByteArray} {A : Option Addr} {n c gn B : Nat} {w w' : World} (h : Caps names A n c gn B w) (hb : Below w.heap.size w w') : Caps names A n c gn B w' :=
  ⟨below_some hb h.cell, h.sl.keep fun b hb' => hb.block b (Nat.lt_of_lt_of_le hb' h.le), Nat.lt_of_lt_of_le h.lt hb.size, Nat.le_trans h.le hb.size⟩
theorem Caps.chg {names : List ByteArray} {A : Option Addr} {n c gn B : Nat} {w w' : World} {fp : List Nat} (h : Caps names A n c gn B w) (hc : Mm.Chg fp w w') (h1 : gn ∉ fp) (h2 : ∀ b, b ∈ fp → B ≤ b) : Caps names A n c gn B w' :=
  ⟨(World.cell?_of_block (hc.block gn h.lt h1)).trans h.cell, h.sl.keep fun b hb => hc.block b (Nat.lt_of_lt_of_le hb h.le) (fun hm => by have := h2 b hm; omega), Nat.lt_of_lt_of_le h.lt hc.size, Nat.le_trans h.le hc.size⟩
theorem kClos_c (names : List ByteArray) (A : Option Addr) (n c gn B : Nat) (x : Label) (w : World) (h : Caps names A n c gn B w) :
    Calls Try.prog 94 #[.agg #[.string x.Name, .string x.Value], .pointer (some ⟨gn, 0, none⟩)] w fun e w' => e = .returned (.bool (!Pl.hasN names x.Name)) ∧ Below w.heap.size w w' := by
  have hb := below_new (Below.refl w.heap.size w) (.cells #[.string x.Name, .string x.Value] 97)
  have h1 := h.bel hb
  have C := kHas_c names A n c x.Name _ B h1.sl
  have hc := h.cell
  have HB := Lib.hid hb
  clear h h1 hb
  obtain ⟨hv, hhv⟩ : ∃ hv, Pl.hasN names x.Name = hv := ⟨_, rfl⟩
  rw [hhv] at C ⊢
  clear hhv
  go_enter Try.func94, Try.ntmps94
  go_wp2_with (go_at_call 95; (with_reducible refine C.mono ?_); rintro e w' ⟨rfl, rfl⟩)
  cases hv <;> (go_ret; exact ⟨rfl, HB.out⟩)
/-- the place of the first label that goes -/
def Found (names : List ByteArray) (l : List Label) (i : Int) : Prop :=
  (i = -1 ∧ ∀ (j : Nat) x, l[j]? = some x → Pl.hasN names x.Name = true) ∨ ∃ (k : Nat) (x : Label), i = k ∧ l[k]? = some x ∧ Pl.hasN names x.Name = false ∧ ∀ (j : Nat) y, j < k → l[j]? = some y → Pl.hasN names y.Name = true
set_option maxRecDepth 100000 in
theorem kFind_c (names : List ByteArray) (A' : Option Addr) (n' c' gn B : Nat) (l : List Label) (A : Option Addr) (n c : Nat) (w : World) (h : Caps names A' n' c' gn B w) (hl : Mm.SlAt rLabel w w.heap.size l A n c) :
    Calls Try.prog 109 #[.slice A n c, .func (Fn.func 94) #[] #[.pointer (some ⟨gn, 0, none⟩)]] w fun e w' => ∃ i, e = .returned (.int .i64 i) ∧ Found names l i ∧ Below w.heap.size w w' := by
  have hn : n ≤ 9223372036854775807 := by have := hl.2.1; have := hl.2.2.1; unfold maxLen at this; omega
  have hlen : Hid (l.length = n) := hl.1
  have HL := Lib.hid hl
  have HC := Lib.hid h
  clear hl h
  go_enter Try.func109, Try.ntmps109
  go_wp2
  go_loopg [5, 8] n (fun g _ i wr => ∃ k : Nat, n - k ≤ g ∧ k ≤ n ∧ i = .int .i64 k ∧ Hid (∀ (j : Nat) y, j < k → l[j]? = some y → Pl.hasN names y.Name = true) ∧ Hid (Below w.heap.size w wr))
  case atStart => exact ⟨0, Nat.le_refl _, Nat.zero_le _, rfl, fun j y hj => absurd hj (Nat.not_lt_zero _), Below.refl _ _⟩
  case round =>
    obtain ⟨k, hgk, hk, rfl, HA, HB⟩ := hrel
    obtain ⟨W, rfl⟩ : ∃ W : World, W = wr := ⟨_, rfl⟩
    by_cases hlt : k < n
    · obtain ⟨x, b, off, hx, rfl, hb, i1, i2, e0, e1⟩ := rLabel_get (HL.out.keep (w' := W) fun b hb => HB.out.block b hb) hlt
      have HX := Lib.hid hx
      have C := kClos_c names A' n' c' gn B x W (HC.out.bel HB.out)
      have f1 : (k : Int) < (n : Nat) := by omega
      have f2 : (0 : Int) ≤ (k : Nat) := by omega
      have f3 : ((k : Nat) : Int).toNat = k := by omega
      clear hx i1 i2
      cases hs : Pl.hasN names x.Name with
      | true =>
        rw [hs] at C
        have HS := Lib.hid hs
        clear hs
        go_wp2_with (go_at_call 94; (with_reducible refine C.mono ?_); clear C; rintro e w1 ⟨rfl, hb1⟩)
        go_roundg (n - (k + 1))
        case measure => omega
        case rel => exact ⟨k + 1, Nat.le_refl _, by omega, by go_num, (fun j y hj hy => by
          rcases Nat.lt_succ_iff_lt_or_eq.1 hj with h1 | rfl
          · exact HA.out j y h1 hy
          · rw [HX.out] at hy; injection hy with hy; rw [← hy]; exact HS.out), below_step HB.out hb1⟩
      | false =>
        rw [hs] at C
        have HS := Lib.hid hs
        clear hs
        go_wp2_with (go_at_call 94; (with_reducible refine C.mono ?_); clear C; rintro e w1 ⟨rfl, hb1⟩)
        go_ret
        exact ⟨_, rfl, .inr ⟨k, x, rfl, HX.out, HS.out, HA.out⟩, below_step HB.out hb1⟩
    · go_wp2
      go_ret
      exact ⟨_, rfl, .inl ⟨rfl, fun j x hx => HA.out j x (by have := (List.getElem?_eq_some_iff.1 hx).1; have := hlen.out; omega) hx⟩, HB.out⟩
end Go.Proofs.Ytnppcdiicnofpaa

/-
  Contracts: labels struck out (slices.DeleteFunc), and keepLabels of the program. No conditions beyond those named.
-/
namespace Go.Proofs.Ytnppcdiicnofpaa
open Go.RowKit
attribute [local go_sem] und_cell World.cell?_alloc_some
theorem Mm.flatN_lab : Mm.FlatN rLabel Mm.encLab := ⟨by decide, fun h => by
  obtain ⟨rfl, h1, rfl⟩ := rLabel_own h
  exact ⟨rfl, rfl, fun w' => rLabel_own_mk h1⟩⟩
theorem Mm.run_clear_k {P : Program} (w : World) (t e ty : TypeId) (z : Value) (ht : P.underlying t = some (.slice e)) (hv : ∀ w, (zeroValue e).run P w = .ok z w) (h1 : ∀ u ∈ z.cells, u.oneCell' = true) (b o c m : Nat) (hm0 : 0 < m) (zs : List Value) (hzs : zs = (Builtin.zeroCells z.cells m).toList)
    (hc : ∀ j, j < zs.length → (w.cell? ⟨b, o + j, none⟩).isSome = true) (hf : ∀ j, j < zs.length → w.frozen? ⟨b, o + j, none⟩ = false) :
    (Builtin.clear_ #[t] ty #[.slice (some ⟨b, o, none⟩) m c]).run P w = .ok (.tuple #[]) (w.setCells b o zs) := by
  have hone : ∀ u ∈ zs, u.oneCell' = true := fun u hu => by
    rw [hzs] at hu
    obtain ⟨i, hi, rfl⟩ := List.mem_iff_getElem.1 hu
    simp only [Builtin.zeroCells, Array.getElem_toList, Array.getElem_ofFn]
    have hi' : i < m * z.cells.size := by simpa [Builtin.zeroCells] using hi
    have h0 : 0 < z.cells.size := Nat.pos_of_ne_zero (fun h => by rw [h, Nat.mul_zero] at hi'; omega)
    have hlt : i % z.cells.size < z.cells.size := Nat.mod_lt _ h0
    refine h1 _ ?_
    simp [hlt]
  have hst := run_storeCells_cells (P := P) b o zs 0 w (by simpa using hc) (by simpa using hf) hone
  simp only [Nat.add_zero] at hst
  obtain ⟨m', rfl⟩ : ∃ m', m = m' + 1 := ⟨m - 1, by omega⟩
  simp [Builtin.clear_, run_underlying ht, hv, ← hzs, hst]
theorem Pl.keepL_all {l : List Label} {names : List ByteArray} (h : ∀ (j : Nat) x, l[j]? = some x → Pl.hasN names x.Name = true) : Pl.keepL l names = l := by
  unfold Pl.keepL
  rw [List.filter_eq_self]
  intro x hx
  obtain ⟨i, hi, rfl⟩ := List.mem_iff_getElem.1 hx
  exact h i _ (List.getElem?_eq_getElem hi)
set_option maxRecDepth 100000 in
set_option maxHeartbeats 2000000 in
theorem kDel_c (names : List ByteArray) (A' : Option Addr) (n' c' gn B : Nat) (l : List Label) (A : Option Addr) (n c : Nat) (fp : List Nat) (w : World) (h : Caps names A' n' c' gn B w) (hs : Mm.SlOwn rLabel 97 w l (.slice A n c) fp) (hnd : fp.Nodup) (h1 : gn ∉ fp) (h2 : ∀ b, b ∈ fp → B ≤ b) (hn : n ≤ 1000) :
    Calls Try.prog 93 #[.slice A n c, .func (Fn.func 94) #[] #[.pointer (some ⟨gn, 0, none⟩)]] w fun e w' => ∃ A2 n2 c2, e = .returned (.slice A2 n2 c2) ∧ Mm.SepF fp w w' [Mm.tsl rLabel 97 (Pl.keepL l names) (.slice A2 n2 c2) fp] := by
  have HS0 : Hid (Mm.SepF fp w w [Mm.tsl rLabel 97 l (.slice A n c) fp]) := Mm.SepF.one (Mm.tsl rLabel 97 l (.slice A n c) fp) w hs hnd
  have HLN : Hid (l.length = n) := by obtain ⟨_, _, _, hv, q1, _⟩ := hs.form; injection hv with _ q2 _; exact (q2.trans q1).symm
  have HC := Lib.hid h
  have HQ := Lib.hid (And.intro h1 h2)
  have CF := kFind_c names A' n' c' gn B l A n c w h (hs.weak hs.olt)
  clear h hs h1 h2
  go_enter Try.func93, Try.ntmps93
  go_upto_if 12 with (go_at_call 109; (with_reducible refine CF.mono ?_); clear CF; rintro e w1 ⟨i0, rfl, hfd, hb1⟩; (have HS := Lib.hid (HS0.out.step hb1)); clear hb1)
  rcases hfd with ⟨rfl, hall⟩ | ⟨k, x0, rfl, hx0, hno, hall⟩
  · have HK := Lib.hid (Pl.keepL_all hall)
    clear hall
    go_wp2
    go_ret
    exact ⟨_, _, _, rfl, by rw [HK.out]; exact HS.out⟩
  · have hkn : k < n := by have := (List.getElem?_eq_some_iff.1 hx0).1; have := HLN.out; omega
    obtain ⟨g, hg, -, -⟩ := Mm.sl_addr (HS.out.sl 0 rfl) (by have := HLN.out; omega)
    subst hg
    have HST : Hid (l.take k = Pl.keepL (l.take (k + 1)) names) := by
      show _ = _
      rw [Pl.keepL_next hx0, if_neg (by rw [hno]; simp), List.append_nil]
      refine (Pl.keepL_all (names := names) (fun j x hx => by
        rw [List.getElem?_take] at hx
        split at hx
        · rename_i hq
          exact hall j x hq hx
        · cases hx)).symm
    have f0 : ¬ ((k : Int) = -1) := by omega
    have f1 : IntKind.i64.wrap ((k : Int) + 1) = (k : Int) + 1 := IntWalk.i64_in _ (by omega)
    obtain ⟨fpg, rfl⟩ : ∃ q, fp = q := ⟨_, rfl⟩
    clear hall hx0 hno
    go_wp2
    go_loopg [5, 6] n (fun gg s5 s6 wr => ∃ (i j : Nat) (ys : List Label), n - j ≤ gg ∧ i < j ∧ j ≤ n ∧ s5 = .int .i64 i ∧ s6 = .int .i64 j ∧ Hid (ys.length = n) ∧ Hid (ys.take i = Pl.keepL (l.take j) names) ∧ Hid (ys.drop j = l.drop j) ∧ Hid (Mm.SepF fp w wr [Mm.tsl rLabel 97 ys (.slice (some ⟨g, 0, none⟩) n c) fp]))
    case atStart => exact ⟨k, k + 1, l, by omega, by omega, by omega, rfl, by go_num, HLN.out, HST.out, rfl, HS.out⟩
    case round =>
      obtain ⟨i, j, ys, hgg, hij, hjn, rfl, rfl, HYL, HYT, HYD, HS⟩ := hrel
      obtain ⟨W, rfl⟩ : ∃ W : World, W = wr := ⟨_, rfl⟩
      by_cases hlt : j < n
      · obtain ⟨x, b, off, hx, hA, hb, i1, i2, e0, e1⟩ := rLabel_get ((HS.out.sl 0 rfl).weak (HS.out.sl 0 rfl).olt) hlt
        injection hA with hA
        injection hA with hA1 hA2
        subst hA1 hA2
        simp only [Nat.zero_add] at e0 e1
        have hxl : l[j]? = some x := by
          have := congrArg (fun z => z[0]?) HYD.out
          simp only [List.getElem?_drop, Nat.add_zero] at this
          rw [← this]; exact hx
        have HX := Lib.hid (And.intro hx (Pl.keepL_next (names := names) hxl))
        have HIB := Lib.hid (And.intro i1 i2)
        clear hx hxl i1 i2 hb
        obtain ⟨gv, hgv⟩ : ∃ gv, W.heap.size = gv := ⟨_, rfl⟩
        obtain ⟨W1, hW1⟩ : ∃ W1, W.alloc (.cells #[.string x.Name, .string x.Value] 97) = W1 := ⟨_, rfl⟩
        have HS1 := Lib.hid ((HS.out.alloc' hgv 97 [.string x.Name, .string x.Value]).atW hW1)
        have f2 : (j : Int) < (n : Nat) := by omega
        have f3 : (0 : Int) ≤ (j : Nat) := by omega
        have f4 : ((j : Nat) : Int).toNat = j := by omega
        go_upto_region 8 with fail
        clear hW1 e0 e1
        have t0 := HS1.out.cell (k := 0) 0 rfl rfl
        have t1 := HS1.out.cell (k := 1) 0 rfl rfl
        have CK := kClos_c names A' n' c' gn B x W1 (HC.out.chg HS1.out.chg HQ.out.1 HQ.out.2)
        cases hk : Pl.hasN names x.Name with
        | false =>
          rw [hk] at CK
          have HN : Hid (ys.take i = Pl.keepL (l.take (j + 1)) names) := by show _ = _; rw [HYT.out, HX.out.2, if_neg (by rw [hk]; simp), List.append_nil]
          have HD2 : Hid (ys.drop (j + 1) = l.drop (j + 1)) := by show _ = _; rw [← List.drop_drop, ← List.drop_drop, HYD.out]
          clear hk
          go_wp2_with (go_at_call 94; (with_reducible refine CK.mono ?_); clear CK; rintro e w3 ⟨rfl, hb3⟩; (have HS3 := Lib.hid (HS1.out.step hb3)); clear hb3)
          go_roundg (n - (j + 1))
          case measure => omega
          case rel => exact ⟨i, j + 1, ys, Nat.le_refl _, by omega, by omega, rfl, by go_num, HYL.out, HN.out, HD2.out, HS3.out.sel [1] (by decide) rfl⟩
        | true =>
          rw [hk] at CK
          have hil : i < ys.length := by rw [HYL.out]; omega
          obtain ⟨y, hy⟩ : ∃ y, ys[i]? = some y := ⟨_, List.getElem?_eq_getElem hil⟩
          have HY := Lib.hid hy
          have HN : Hid ((ys.set i x).take (i + 1) = Pl.keepL (l.take (j + 1)) names) := by
            show _ = _
            rw [HX.out.2, if_pos hk, ← HYT.out]
            apply List.ext_getElem?
            intro q
            rw [List.getElem?_take]
            by_cases hq : q < i
            · rw [if_pos (by omega), List.getElem?_set_ne (by omega), List.getElem?_append_left (by rw [List.length_take]; omega), List.getElem?_take, if_pos hq]
            · by_cases hq2 : q = i
              · subst hq2
                rw [if_pos (by omega), List.getElem?_set_self hil, List.getElem?_append_right (by rw [List.length_take]; omega), List.length_take, Nat.min_eq_left (by omega), Nat.sub_self]
                rfl
              · rw [if_neg (by omega), List.getElem?_eq_none (by rw [List.length_append, List.length_take]; simp; omega)]
          have HD2 : Hid ((ys.set i x).drop (j + 1) = l.drop (j + 1)) := by
            show _ = _
            rw [List.drop_set_of_lt (by omega), ← List.drop_drop, ← List.drop_drop, HYD.out]
          clear hk hy
          have f5 : (0 : Int) ≤ (i : Nat) := by omega
          have f6 : ((i : Nat) : Int).toNat = i := by omega
          have f7 : (i : Int) < (n : Nat) := by omega
          have f8 : IntKind.i64.wrap ((i : Int) + 1) = (i : Int) + 1 := IntWalk.i64_in _ (by omega)
          go_upto_region 9 with (go_at_call 94; (with_reducible refine CK.mono ?_); clear CK; rintro e w3 ⟨rfl, hb3⟩; (have HS3 := Lib.hid (HS1.out.step hb3)); clear hb3 t0 t1)
          have t0 := HS3.out.cell (k := 0) 0 rfl rfl
          have t1 := HS3.out.cell (k := 1) 0 rfl rfl
          obtain ⟨u0, u1⟩ := rLabel_ocell (HS3.out.sl 1 rfl) (HS3.out.ndat (i := 1) rfl) HY.out
          have z0 := (HS3.out.sl 1 rfl).frozen (i * 2)
          have z1 := (HS3.out.sl 1 rfl).frozen (i * 2 + 1)
          go_wp2
          have HSA := Lib.hid (HS3.out.putSl (x' := ⟨x.Name, y.Value⟩) (u := .string x.Name) (m := 0) 1 rfl HY.out (by decide) (fun cs fx h => by
            obtain ⟨rfl, h1, rfl⟩ := rLabel_own h
            exact rLabel_own_mk (x := ⟨x.Name, y.Value⟩) ⟨HIB.out.1, h1.2⟩))
          have HSB := Lib.hid (HSA.out.putSl (k := i) (x' := x) (u := .string x.Value) (m := 1) 1 rfl (List.getElem?_set_self hil) (by decide) (fun cs fx h => by
            obtain ⟨rfl, h1, rfl⟩ := rLabel_own h
            exact rLabel_own_mk HIB.out))
          go_roundg (n - (j + 1))
          case measure => omega
          case rel => exact ⟨i + 1, j + 1, ys.set i x, Nat.le_refl _, by omega, by omega, by go_num, by go_num, (by show _ = _; rw [List.length_set]; exact HYL.out), HN.out, HD2.out, by
            have h9 : Mm.SepF fp w _ [Mm.tsl rLabel 97 ((ys.set i ⟨x.Name, y.Value⟩).set i x) (.slice (some ⟨g, 0, none⟩) n c) fp] := HSB.out.sel [1] (by decide) rfl
            rw [List.set_set] at h9
            exact h9⟩
      · obtain rfl : n = j := by omega
        have HK : Hid (ys.take i = Pl.keepL l names) := by show _ = _; rw [HYT.out, List.take_of_length_le (by rw [HLN.out]; exact Nat.le_refl _)]
        obtain ⟨cur, hcur, hcl, ht, -, hnc, hcm, hfp⟩ := Mm.flatN_lab.blk (HS.out.sl 0 rfl)
        obtain ⟨-, -, hown, hlen⟩ := Mm.flatN_lab.owns (HS.out.sl 0 rfl)
        obtain ⟨iL, hiL, hL0, hLs, hLb⟩ := info_parts Try.info_clLab
        obtain ⟨zs, hzs⟩ : ∃ zs, zs = (Builtin.zeroCells (Value.agg #[.string ⟨#[]⟩, .string ⟨#[]⟩]).cells (n - i)).toList := ⟨_, rfl⟩
        have hzl : zs.length = (n - i) * 2 := by rw [hzs, Array.length_toList, Mm.zeroCells_len]; rfl
        have hcl2 : cur.length = c * 2 := hcl
        have ht2 : cur.take (n * 2) = ys.flatMap Mm.encLab := ht
        have hcc : ∀ ty, (Builtin.clear_ #[48] ty #[.slice (some ⟨g, i * 2, none⟩) (n - i) (c - i)]).run Try.prog W = .ok (.tuple #[]) (W.setCells g (i * 2) zs) := fun ty =>
          Mm.run_clear_k W _ 97 ty _ Try.underlying48 (fun w => by simp [zeroValue, typeInfo, hiL, hL0]) (by decide) g (i * 2) (c - i) (n - i) (by omega) zs hzs (fun q hq => by
            rw [hcur.cell (List.getElem?_eq_getElem (by rw [hcl2]; omega))]; rfl) (fun q hq => hcur.frozen _)
        have hb2 := Mm.setCells_blk zs _ (i * 2) _ hcur
        have hso : Mm.SlOwn rLabel 97 (W.setCells g (i * 2) zs) (ys.take i) (.slice (some ⟨g, 0, none⟩) i c) [g] := by
          refine Mm.flatN_lab.of_blk hb2 (by rw [Mm.setList_len]; exact hcl) ?_ (by rw [List.length_take, HYL.out]; omega) (by omega) hcm (fun z hz => hown z (List.mem_of_mem_take hz) _)
          rw [Mm.flatMap_take (s := 2) i hlen, ← ht2]
          apply List.ext_getElem?
          intro q
          rw [List.getElem?_take, List.getElem?_take]
          show (if q < i * 2 then _ else _) = _
          by_cases hq : q < i * 2
          · rw [if_pos hq, if_pos hq, Mm.setList_get _ _ _ _ (by rw [hzl, hcl2]; omega), if_neg (by omega), List.getElem?_take]
            rw [if_pos (show q < n * 2 by omega)]
          · rw [if_neg hq, if_neg hq]
        have HF := Lib.hid (HS.out.upd (i := 0) (t := Mm.tsl rLabel 97 ys (.slice (some ⟨g, 0, none⟩) n c) fp) (t' := Mm.tsl rLabel 97 (ys.take i) (.slice (some ⟨g, 0, none⟩) i c) [g]) rfl (by show Mm.Chg fp _ _; rw [hfp]; exact Mm.setCells_chg g zs W (i * 2)) hso (by simp [Mm.tsl]) (fun b hb => .inl (by show b ∈ fp; rw [hfp]; exact hb)))
        have HFP := Lib.hid hfp
        unfold maxLen at hcm
        have f2 : ¬ (n : Int) < (n : Nat) := by omega
        have f3 : (0 : Int) ≤ (i : Nat) := by omega
        have f4 : ((i : Nat) : Int).toNat = i := by omega
        have f5 : (i : Int) ≤ (n : Nat) := by omega
        have f6 : ¬ (c = i) := by omega
        have f7 : (i : Int) ≤ (c : Nat) := by omega
        clear hzs hzl hcl2 hcur hcl ht ht2 hfp hown hlen hb2 hso hLs hLb
        go_wp2
        go_ret
        exact ⟨_, _, _, rfl, by rw [← HK.out]; have := HF.out; rw [HFP.out] at this ⊢; exact this⟩
def KeepAns (l : List Label) (names : List ByteArray) (w : World) (e : Ending) (w' : World) : Prop :=
  ∃ A2 n2 c2 fp, e = .returned (.slice A2 n2 c2) ∧ Mm.SlOwn rLabel 97 w' (Pl.keepL l names) (.slice A2 n2 c2) fp ∧ fp.Nodup ∧ (∀ b, b ∈ fp → w.heap.size ≤ b) ∧ Below w.heap.size w w'
set_option maxRecDepth 100000 in
theorem keepLabels_c (l : List Label) (A : Option Addr) (n c : Nat) (names : List ByteArray) (A' : Option Addr) (n' c' : Nat) (w : World) (B : Nat) (hl : Mm.SlAt rLabel w B l A n c) (hs : Mm.SlAt Mm.str w B names A' n' c') (hB : B ≤ w.heap.size) (hn : n ≤ 1000) :
    Calls Try.prog 65 #[.slice A n c, .slice A' n' c'] w (KeepAns l names w) := by
  obtain ⟨gn, hgn⟩ : ∃ gn, w.heap.size = gn := ⟨_, rfl⟩
  obtain ⟨W1, hW1⟩ : ∃ W1, w.alloc (.cells #[.slice A' n' c'] 41) = W1 := ⟨_, rfl⟩
  have hb1 : Below w.heap.size w W1 := by rw [← hW1]; exact below_new (Below.refl _ _) _
  have hnb : Mm.Blk W1 gn 41 [.slice A' n' c'] := by rw [← hW1, ← hgn]; exact Mm.Blk.new w _ _
  have hl1 := hl.keep (w' := W1) fun b hb => hb1.block b (Nat.lt_of_lt_of_le hb hB)
  have HCP := Lib.hid (show Caps names A' n' c' gn B W1 from ⟨hnb.cell rfl, hs.keep fun b hb => hb1.block b (Nat.lt_of_lt_of_le hb hB), hnb.lt, Nat.le_trans hB hb1.size⟩)
  have HLN : Hid (l.length = n) := hl.1
  have CC := clLab_c l A n c W1 B hl1 (by omega)
  have HB1 := Lib.hid hb1
  clear hl hs hl1 hb1 hnb
  go_enter Try.func65, Try.ntmps65
  go_upto_region 1 with fail
  clear hW1
  go_wp2_with first
    | (go_at_call 84; (with_reducible refine CC.mono ?_); clear CC; rintro e w4 ⟨A3, n3, c3, fp3, rfl, ho, hnd, hnew, hb4⟩; (have HO := Lib.hid (And.intro ho (And.intro hnd (And.intro hnew hb4)))); (have hn3 : n3 = l.length := by obtain ⟨_, _, _, hv, q1, _⟩ := ho.form; injection hv with _ q2 _; exact q2.trans q1); (have hn3' : n3 ≤ 1000 := by have := HLN.out; omega); clear ho hnd hnew hb4 hn3)
    | (go_at_call 93; refine (kDel_c names A' n' c' gn B l A3 n3 c3 fp3 w4 (HCP.out.bel HO.out.2.2.2) HO.out.1 HO.out.2.1 (fun hm => by have h3 := HO.out.2.2.1 gn hm; have h4 := HCP.out.lt; omega) (fun b hb => by have h3 := HO.out.2.2.1 b hb; have h4 := HCP.out.le; omega) hn3').mono ?_; rintro e w5 ⟨A5, n5, c5, rfl, hS⟩; (have HS := Lib.hid hS); clear hS)
  go_ret
  refine ⟨_, _, _, fp3, rfl, HS.out.sl 0 rfl, HO.out.2.1, fun b hb => ?_, ?_⟩
  · have h3 := HO.out.2.2.1 b hb; have h4 := HB1.out.size; omega
  · exact Mm.Below.chg (below_step HB1.out HO.out.2.2.2) HS.out.chg (Nat.le_trans HB1.out.size HO.out.2.2.2.size) (fun b hb => by have h3 := HO.out.2.2.1 b hb; have h4 := HB1.out.size; omega)
end Go.Proofs.Ytnppcdiicnofpaa

/-
  Contracts: which labels are kept, the reference's (l14Keep). No conditions.
-/
namespace Go.Proofs.Ytnppcdiicnofpaa
open Go.RowKit
attribute [local go_sem] und_cell World.cell?_alloc_some
theorem Pl.idxFrom_iff {l : List ByteArray} {v : ByteArray} : ∀ (f k : Nat), 0 ≤ Pl.idxFrom l v f k ↔ ∃ j, k ≤ j ∧ j < k + f ∧ Pl.strAt l j = v
  | 0, k => by
    unfold Pl.idxFrom
    constructor
    · intro h; omega
    · rintro ⟨j, h1, h2, _⟩; omega
  | f + 1, k => by
    unfold Pl.idxFrom
    split
    · rename_i h
      exact ⟨fun _ => ⟨k, Nat.le_refl _, by omega, h⟩, fun _ => by omega⟩
    · rename_i h
      rw [Pl.idxFrom_iff f (k + 1)]
      constructor
      · rintro ⟨j, h1, h2, h3⟩; exact ⟨j, by omega, by omega, h3⟩
      · rintro ⟨j, h1, h2, h3⟩
        refine ⟨j, ?_, by omega, h3⟩
        rcases Nat.eq_or_lt_of_le h1 with h4 | h4
        · subst h4; exact absurd h3 h
        · exact h4
theorem Pl.hasN_iff {names : List ByteArray} {s : ByteArray} : Pl.hasN names s = true ↔ ∃ (j : Nat) (x : ByteArray), names[j]? = some x ∧ x = s := by
  unfold Pl.hasN Pl.idx
  rw [decide_eq_true_eq, Pl.idxFrom_iff]
  constructor
  · rintro ⟨j, _, h2, h3⟩
    have hx := List.getElem?_eq_getElem (show j < names.length by omega)
    exact ⟨j, _, hx, by rw [← h3]; exact (Pl.strAt_of hx).symm⟩
  · rintro ⟨j, x, hx, rfl⟩
    exact ⟨j, Nat.zero_le _, by have := (List.getElem?_eq_some_iff.1 hx).1; omega, Pl.strAt_of hx⟩
theorem Pl.hasN_next {names : List ByteArray} {s : ByteArray} {k : Nat} {x : ByteArray} (h : names[k]? = some x) : Pl.hasN (names.take (k + 1)) s = (Pl.hasN (names.take k) s || (x.toList == s.toList)) := by
  obtain ⟨hk, hx⟩ := List.getElem?_eq_some_iff.1 h
  rw [Bool.eq_iff_iff, Bool.or_eq_true, Pl.hasN_iff, Pl.hasN_iff]
  constructor
  · rintro ⟨j, y, hy, rfl⟩
    rw [List.getElem?_take] at hy
    split at hy
    · by_cases hj : j < k
      · exact .inl ⟨j, y, by rw [List.getElem?_take, if_pos hj]; exact hy, rfl⟩
      · obtain rfl : j = k := by omega
        rw [h] at hy; injection hy with hy; subst hy
        exact .inr (by simp)
    · cases hy
  · rintro (⟨j, y, hy, rfl⟩ | he)
    · rw [List.getElem?_take] at hy
      split at hy
      · exact ⟨j, y, by rw [List.getElem?_take, if_pos (by omega)]; exact hy, rfl⟩
      · cases hy
    · exact ⟨k, x, by rw [List.getElem?_take, if_pos (by omega)]; exact h, Pl.ba_inj (by simpa using he)⟩
theorem Pl.hasN_zero (names : List ByteArray) (s : ByteArray) : Pl.hasN (names.take 0) s = false := by
  rw [← Bool.not_eq_true, Pl.hasN_iff]
  rintro ⟨j, x, h, _⟩
  simp at h
set_option maxRecDepth 100000 in
set_option maxHeartbeats 1000000 in
theorem l14Keep_c (l : List Label) (A : Option Addr) (n c : Nat) (names : List ByteArray) (A' : Option Addr) (n' c' : Nat) (w : World) (B : Nat) (hl : Mm.SlAt rLabel w B l A n c) (hs : Mm.SlAt Mm.str w B names A' n' c') (hB : B ≤ w.heap.size) (hn : n ≤ 1000) :
    Calls Try.prog 66 #[.slice A n c, .slice A' n' c'] w (KeepAns l names w) := by
  have HL := Lib.hid hl
  have HLN : Hid (l.length = n) := hl.1
  have HNM := Lib.hid hs
  have hnm : n' ≤ maxLen := Nat.le_trans hs.2.1 hs.2.2.1
  unfold maxLen at hnm
  have HNL : Hid (names.length = n') := hs.1
  obtain ⟨iL, hiL, hL0, hLs, hLb⟩ := info_parts Try.info_clLab
  clear hl hs
  go_enter Try.func66, Try.ntmps66
  go_wp2
  go_loopg [5, 13] n (fun g o i wr => ∃ k : Nat, n - k ≤ g ∧ k ≤ n ∧ i = .int .i64 k ∧ Hid (Mm.Acc rLabel 97 w (Pl.keepL (l.take k) names) o wr))
  case atStart => exact ⟨0, Nat.le_refl _, Nat.zero_le _, rfl, Mm.Acc.nil (Below.refl _ _)⟩
  case round =>
    obtain ⟨k, hgk, hk, rfl, HA⟩ := hrel
    obtain ⟨W, rfl⟩ : ∃ W : World, W = wr := ⟨_, rfl⟩
    obtain ⟨A1, n1, c1, rfl, hn1, -, -, -⟩ := HA.out.form
    have HN1 := Lib.hid hn1
    have hn1k : n1 ≤ k := by rw [hn1]; exact Nat.le_trans (List.length_filter_le _ _) (by rw [List.length_take]; omega)
    clear hn1
    by_cases hlt : k < n
    · obtain ⟨x, b, off, hx, rfl, hb, i1, i2, e0, e1⟩ := rLabel_get (HL.out.keep (w' := W) fun b hb => HA.out.bel.block b (Nat.lt_of_lt_of_le hb hB)) hlt
      have HX := Lib.hid (Pl.keepL_next (names := names) hx)
      have HIB := Lib.hid (And.intro i1 i2)
      have f1 : (k : Int) < (n : Nat) := by omega
      have f2 : (0 : Int) ≤ (k : Nat) := by omega
      have f3 : ((k : Nat) : Int).toNat = k := by omega
      clear hx i1 i2
      obtain ⟨gv, hgv⟩ : ∃ gv, W.heap.size = gv := ⟨_, rfl⟩
      obtain ⟨W1, hW1⟩ : ∃ W1, W.alloc (.cells #[.string x.Name, .string x.Value] 97) = W1 := ⟨_, rfl⟩
      have hb1 : Below W.heap.size W W1 := by rw [← hW1]; exact below_new (Below.refl _ _) _
      have hnb : Mm.Blk W1 gv 97 [.string x.Name, .string x.Value] := by rw [← hW1, ← hgv]; exact Mm.Blk.new W _ _
      have HA1 := Lib.hid (HA.out.step hb1)
      have t0 : W1.cell? ⟨gv, 0, none⟩ = some (.string x.Name) := hnb.cell rfl
      have t1 : W1.cell? ⟨gv, 1, none⟩ = some (.string x.Value) := hnb.cell rfl
      have hsN := HNM.out.keep (w' := W1) fun b hb => HA1.out.bel.block b (Nat.lt_of_lt_of_le hb hB)
      have HSN := Lib.hid hsN
      go_upto_region 5 with fail
      clear hW1 hb1 hnb hsN e0 e1
      go_wp2
      go_loopg [8, 19] n' (fun gg iv jv wr => wr = W1 ∧ ∃ j : Nat, n' - j ≤ gg ∧ j ≤ n' ∧ jv = .int .i64 j ∧ iv = .bool (Pl.hasN (names.take j) x.Name))
      case atStart => exact ⟨rfl, 0, Nat.le_refl _, Nat.zero_le _, rfl, by rw [Pl.hasN_zero]⟩
      case round =>
        obtain ⟨rfl, j, hgj, hj, rfl, rfl⟩ := hrel
        obtain ⟨hv, hhv⟩ : ∃ hv, Pl.hasN (names.take j) x.Name = hv := ⟨_, rfl⟩
        rw [hhv]
        by_cases hjl : j < n'
        · obtain ⟨y, b2, o2, hy, rfl, hb2, hys, d0⟩ := str_get HSN.out hjl
          have HN := Lib.hid (Pl.hasN_next (s := x.Name) hy)
          have HHV := Lib.hid hhv
          have f4 : (j : Int) < (n' : Nat) := by omega
          have f5 : (0 : Int) ≤ (j : Nat) := by omega
          have f6 : ((j : Nat) : Int).toNat = j := by omega
          clear hy hys hhv
          cases hv with
          | true =>
            have hq : Hid (Pl.hasN (names.take (j + 1)) x.Name = true) := by show _ = _; rw [HN.out, HHV.out]; rfl
            go_wp2
            go_roundg (n' - (j + 1))
            case measure => omega
            case rel => exact ⟨rfl, j + 1, Nat.le_refl _, by omega, by go_num, by rw [hq.out]⟩
          | false =>
            obtain ⟨be, hbe⟩ : ∃ be, (y.toList == x.Name.toList) = be := ⟨_, rfl⟩
            have hq : Hid (Pl.hasN (names.take (j + 1)) x.Name = be) := by show _ = _; rw [HN.out, HHV.out, Bool.false_or, hbe]
            go_wp2
            go_roundg (n' - (j + 1))
            case measure => omega
            case rel => exact ⟨rfl, j + 1, Nat.le_refl _, by omega, by go_num, by rw [hq.out]⟩
        · obtain rfl : n' = j := by omega
          have hfin : Pl.hasN names x.Name = hv := by rw [← hhv, List.take_of_length_le (by rw [HNL.out]; exact Nat.le_refl _)]
          have f4 : ¬ (n' : Int) < (n' : Nat) := by omega
          clear hhv
          cases hv with
          | false =>
            have HN : Hid (Pl.keepL (l.take (k + 1)) names = Pl.keepL (l.take k) names) := by show _ = _; rw [HX.out, if_neg (by rw [hfin]; simp), List.append_nil]
            clear hfin
            go_wp2
            go_roundg (n - (k + 1))
            case measure => omega
            case rel => exact ⟨k + 1, Nat.le_refl _, by omega, by go_num, by rw [HN.out]; exact HA1.out⟩
          | true =>
            have HN : Hid (Pl.keepL (l.take (k + 1)) names = Pl.keepL (l.take k) names ++ [x]) := by show _ = _; rw [HX.out, if_pos hfin]
            clear hfin
            obtain ⟨l0, ho, hnext⟩ := HA1.out.push (W2 := wr.alloc (.cells #[.string x.Name, .string x.Value] 97)) (below_new (Below.refl _ _) _) (x := x) (cx := [.string x.Name, .string x.Value]) (fx := []) (rLabel_own_mk HIB.out) List.nodup_nil (fun b hb => by cases hb)
            rw [← HN1.out] at ho hnext
            have HNX := Lib.hid hnext
            have HO := Lib.hid ho
            clear ho hnext
            go_wp2_with (at_builtin; refine wpList_append_lies _ (by rfl) _ _ _ (by rfl) 0 97 iL _ 2 32 Try.underlying48 hiL hL0 hLs hLb rfl (by omega) _ n1 l0 (by rfl) HO.out ⟨wr.heap.size, 0, none⟩ 1 1 [.string x.Name, .string x.Value] (by rfl) (by rfl) (World.news_of_block (B := wr.heap.size) (cs := #[.string x.Name, .string x.Value]) (t := 97) (fr := (0, 0)) (heap_alloc_new wr _)) (by simp [Value.oneCell']) (by omega) (by unfold maxLen; omega) (by omega) (Nat.zero_le _) _ rfl ?_; intro gg cap w2 hown1 hgrow hat hlt9; have HAC := Lib.hid (HNX.out gg cap w2 hown1 hgrow hat); clear hown1 hgrow hat hlt9)
            go_roundg (n - (k + 1))
            case measure => omega
            case rel => exact ⟨k + 1, Nat.le_refl _, by omega, by go_num, by rw [HN.out]; exact HAC.out⟩
    · obtain rfl : n = k := by omega
      have HK : Hid (Pl.keepL (l.take n) names = Pl.keepL l names) := by show _ = _; rw [List.take_of_length_le (by rw [HLN.out]; exact Nat.le_refl _)]
      have f1 : ¬ (n : Int) < (n : Nat) := by omega
      go_wp2
      go_ret
      have h9 := HA.out
      rw [HK.out] at h9
      obtain ⟨fp, h1, h2, h3, h4⟩ := h9
      exact ⟨_, _, _, fp, rfl, h1, h2, h3, h4⟩
end Go.Proofs.Ytnppcdiicnofpaa

/-
  Plain totals by fewer labels: labels that are good stay good where some are left out. No program in sight. No conditions.
-/
namespace Go.Proofs.Ytnppcdiicnofpaa
namespace Pl
theorem labelsOk_iff {l : List Label} : labelsOk l = true ↔ (∀ x, x ∈ l → labelOk x = true) ∧ l.Pairwise (fun a b => lessB a.Name b.Name = true) ∧ l.length ≤ 6 := by
  unfold labelsOk
  rw [Bool.and_eq_true, decide_eq_true_eq]
  have at_ : ∀ k (hk : k < l.length), labAt l k = l[k] := fun k hk => labAt_of (List.getElem?_eq_getElem hk)
  constructor
  · rintro ⟨h, h6⟩
    have h1 := allB_iff.1 h
    have h2 : ∀ k (hk : k < l.length), labelOk l[k] = true ∧ (0 < k → lessB (labAt l (k - 1)).Name l[k].Name = true) := fun k hk => by
      have := h1 k hk
      unfold labP labQ at this
      rw [at_ k hk, Bool.and_eq_true, Bool.or_eq_true, decide_eq_true_eq] at this
      exact ⟨this.1, fun h0 => this.2.resolve_left (by omega)⟩
    refine ⟨fun x hx => ?_, ?_, h6⟩
    · obtain ⟨i, hi, rfl⟩ := List.mem_iff_getElem.1 hx
      exact (h2 i hi).1
    · rw [List.pairwise_iff_getElem]
      intro i j hi hj hij
      have step : ∀ d (hd : i + 1 + d < l.length), lessB l[i].Name l[i + 1 + d].Name = true := by
        intro d
        induction d with
        | zero =>
          intro hd
          have := (h2 (i + 1) hd).2 (by omega)
          rw [Nat.add_sub_cancel, at_ i hi] at this
          exact this
        | succ d ih =>
          intro hd
          have h3 := ih (by omega)
          have h4 := (h2 (i + 1 + (d + 1)) hd).2 (by omega)
          rw [show i + 1 + (d + 1) - 1 = i + 1 + d by omega, at_ (i + 1 + d) (by omega)] at h4
          exact less_trans h3 h4
      have := step (j - (i + 1)) (by omega)
      simp only [show i + 1 + (j - (i + 1)) = j by omega] at this
      exact this
  · rintro ⟨h1, h2, h6⟩
    refine ⟨allB_iff.2 fun k hk => ?_, h6⟩
    unfold labP labQ
    rw [at_ k hk, Bool.and_eq_true, Bool.or_eq_true, decide_eq_true_eq]
    refine ⟨h1 _ (List.getElem_mem hk), ?_⟩
    rcases Nat.eq_zero_or_pos k with h0 | h0
    · exact .inl h0
    · right
      rw [at_ (k - 1) (by omega)]
      exact List.pairwise_iff_getElem.1 h2 (k - 1) k (by omega) hk (by omega)
theorem labelsOk_keep {l : List Label} (names : List ByteArray) (h : labelsOk l = true) : labelsOk (keepL l names) = true := by
  obtain ⟨h1, h2, h3⟩ := labelsOk_iff.1 h
  refine labelsOk_iff.2 ⟨fun x hx => h1 x (List.mem_filter.1 hx).1, h2.filter _, Nat.le_trans (List.length_filter_le _ _) h3⟩
def tkeep (names : List ByteArray) (x : Total) : Total := ⟨keepL x.Labels names, x.Sum, x.Count, x.Least, x.Most⟩
theorem totOk_keep {x : Total} (names : List ByteArray) (h : totOk x = true) : totOk (tkeep names x) = true := by
  obtain ⟨h1, h2⟩ := totOk_iff.1 h
  exact totOk_iff.2 ⟨labelsOk_keep names h1, h2⟩
def tcoarse (l : List Total) (names : List ByteArray) : List Total × Bool := if (totalsOk l && decide (names.length ≤ 6)) = true then tgood (tcomb (l.map (tkeep names))) else ([], false)
theorem map_next {α β : Type} {f : α → β} {l : List α} {k : Nat} {x : α} (h : l[k]? = some x) : (l.take (k + 1)).map f = (l.take k).map f ++ [f x] := by
  obtain ⟨hk, hx⟩ := List.getElem?_eq_some_iff.1 h
  rw [List.take_succ_eq_append_getElem hk, hx, List.map_append]
  rfl
end Pl
end Go.Proofs.Ytnppcdiicnofpaa

/-
  Contracts: CoarseTotals, the program's and the reference's. No conditions.
-/
namespace Go.Proofs.Ytnppcdiicnofpaa
open Go.RowKit
attribute [local go_sem] und_cell World.cell?_alloc_some
set_option maxRecDepth 100000 in
set_option maxHeartbeats 1000000 in
theorem implCoarseOk (l : List Total) (A : Option Addr) (n c : Nat) (names : List ByteArray) (A' : Option Addr) (n' c' : Nat) (w : World) (B : Nat) (HL : Hid (Mm.SlAt rTotal w B l A n c)) (HNM : Hid (Mm.SlAt Mm.str w B names A' n' c')) (hB : B ≤ w.heap.size) (HLN : Hid (l.length = n)) (HNL : Hid (names.length = n')) (hn6 : n' ≤ 6) (hca : Pl.totalsOk l = true)
    (CA : Calls Try.prog 51 #[.slice A n c] w fun e w' => e = .returned (.bool true) ∧ Below w.heap.size w w') :
    Calls Try.prog 39 #[.slice A n c, .slice A' n' c'] w (Mm.RetS2 rTotal 50 w (Pl.tcoarse l names).1 (Pl.tcoarse l names).2) := by
  have HF : Hid (Pl.tcoarse l names = Pl.tgood (Pl.tcomb (l.map (Pl.tkeep names)))) := if_pos (by rw [hca, HNL.out]; simpa using hn6)
  have hn40 : n ≤ 40 := by have := Pl.totalsOk_len hca; have := HLN.out; omega
  have HOK := Lib.hid (Pl.totalsOk_all hca)
  clear hca
  have f0 : ¬ (6 : Int) < (n' : Nat) := by omega
  obtain ⟨i0, hi, hz0, hzs, hzb⟩ := info_parts Try.infoTot
  go_enter Try.func39, Try.ntmps39
  go_wp2_with (go_at_call 51; (with_reducible refine CA.mono ?_); clear CA; rintro e w0 ⟨rfl, hb0⟩)
  have HB0 := Lib.hid hb0
  clear hb0
  go_loopg [6, 19] n (fun g o i wr => ∃ (k nn cc : Nat) (AA : Option Addr) (fp : List Nat) (xs : List Total), n - k ≤ g ∧ k ≤ n ∧ i = .int .i64 k ∧ o = .slice AA nn cc ∧ Hid (nn = xs.length) ∧ Hid (xs = (l.take k).map (Pl.tkeep names)) ∧ Hid (Mm.SepF [] w wr [Mm.tsl rTotal 50 xs (.slice AA nn cc) fp]))
  case atStart => exact ⟨0, 0, 0, none, [], [], Nat.le_refl _, Nat.zero_le _, rfl, rfl, rfl, rfl, (Mm.SepF.start w).add HB0.out (t := Mm.tsl rTotal 50 [] (.slice none 0 0) []) Mm.SlOwn.nil List.nodup_nil (fun b hb => by cases hb)⟩
  case round =>
    obtain ⟨k, nn, cc, AA, fp, xs, hgk, hk, rfl, rfl, HN, HX, HS⟩ := hrel
    obtain ⟨W, rfl⟩ : ∃ W : World, W = wr := ⟨_, rfl⟩
    have hnk : nn ≤ 40 := by rw [HN.out, HX.out, List.length_map, List.length_take]; omega
    by_cases hlt : k < n
    · have f1 : (k : Int) < (n : Nat) := by omega
      have f2 : (0 : Int) ≤ (k : Nat) := by omega
      have f3 : ((k : Nat) : Int).toNat = k := by omega
      obtain ⟨x, bb, off, A2, n2, c2, hx, rfl, hbb, hlb, i1, i2, i3, i4, e0, e1, e2, e3, e4⟩ := rTotal_get (HL.out.keep (w' := W) fun b hb => HS.out.bel0.block b (Nat.lt_of_lt_of_le hb hB)) hlt
      have HTX := Lib.hid (HOK.out x (List.mem_of_getElem? hx))
      have HNX := Lib.hid (Pl.map_next (f := Pl.tkeep names) hx)
      have HLB := Lib.hid hlb
      have HI := Lib.hid (And.intro i1 (And.intro i2 (And.intro i3 i4)))
      have hn2 : n2 ≤ 6 := by have := Pl.labelsOk_len (Pl.totOk_lab HTX.out); have := hlb.1; omega
      clear hx hlb i1 i2 i3 i4
      obtain ⟨gt, hgt⟩ : ∃ gt, W.heap.size = gt := ⟨_, rfl⟩
      obtain ⟨W1, hW1⟩ : ∃ W1, W.alloc (.cells #[.slice A2 n2 c2, .int .i64 x.Sum, .int .i64 x.Count, .int .i64 x.Least, .int .i64 x.Most] 50) = W1 := ⟨_, rfl⟩
      have HS1 := Lib.hid ((HS.out.alloc' hgt 50 [.slice A2 n2 c2, .int .i64 x.Sum, .int .i64 x.Count, .int .i64 x.Least, .int .i64 x.Most]).atW hW1)
      have hB1 : Below W.heap.size W W1 := by rw [← hW1]; exact below_new (Below.refl _ _) _
      have hBW : B ≤ W.heap.size := Nat.le_trans hB HS.out.bel0.size
      have CK := keepLabels_c x.Labels A2 n2 c2 names A' n' c' W1 B (HLB.out.keep fun b hb => hB1.block b (Nat.lt_of_lt_of_le hb hBW)) (HNM.out.keep fun b hb => HS1.out.bel0.block b (Nat.lt_of_lt_of_le hb hB)) (Nat.le_trans hBW hB1.size) (by omega)
      have s0 := HS1.out.cell (k := 0) 0 rfl rfl
      go_upto_region 7 with fail
      clear hW1 hB1 HS e0 e1 e2 e3 e4
      go_upto_region 8 with (go_at_call 65; (with_reducible refine CK.mono ?_); clear CK; rintro e w4 ⟨A3, n3, c3, fp3, rfl, ho, hnd, hnew, hb4⟩; (have HS4 := Lib.hid (HS1.out.add hb4 (t := Mm.tsl rLabel 97 (Pl.keepL x.Labels names) (.slice A3 n3 c3) fp3) ho hnd hnew)); clear ho hnd hnew hb4 s0; (have s0 := HS4.out.cell (k := 0) 1 rfl rfl); (have z0 := HS4.out.frz (k := 0) 1 rfl))
      obtain ⟨W5, hW5⟩ : ∃ W5, w4.setCell ⟨gt, 0, none⟩ (.slice A3 n3 c3) = W5 := ⟨_, rfl⟩
      have HS5 := Lib.hid ((HS4.out.setBlk (k := 0) 1 rfl (.slice A3 n3 c3)).atW hW5)
      rw [hW5]
      clear hW5 s0 z0 HS4
      have t0 := HS5.out.cell (k := 0) 1 rfl rfl
      have t1 := HS5.out.cell (k := 1) 1 rfl rfl
      have t2 := HS5.out.cell (k := 2) 1 rfl rfl
      have t3 := HS5.out.cell (k := 3) 1 rfl rfl
      have t4 := HS5.out.cell (k := 4) 1 rfl rfl
      obtain ⟨lc, ho, hnext⟩ := HS5.out.push 2 0 (by decide) rfl rfl (below_new (Below.refl W5.heap.size W5) (.cells #[.slice A3 n3 c3, .int .i64 x.Sum, .int .i64 x.Count, .int .i64 x.Least, .int .i64 x.Most] 50)) (x := Pl.tkeep names x) (cx := [.slice A3 n3 c3, .int .i64 x.Sum, .int .i64 x.Count, .int .i64 x.Least, .int .i64 x.Most]) (fun W h => rTotal_own_mk (x := Pl.tkeep names x) h HI.out.1 HI.out.2.1 HI.out.2.2.1 HI.out.2.2.2)
      rw [← HN.out] at ho hnext
      have HNE := Lib.hid hnext
      have HO := Lib.hid ho
      clear hnext ho
      go_wp2_with (at_builtin; refine wpList_append_lies _ (by rfl) _ _ _ (by rfl) 0 50 i0 _ 5 56 Try.underlying27 hi hz0 hzs hzb rfl (by omega) _ nn lc (by rfl) HO.out ⟨W5.heap.size, 0, none⟩ 1 1 [.slice A3 n3 c3, .int .i64 x.Sum, .int .i64 x.Count, .int .i64 x.Least, .int .i64 x.Most] (by rfl) (by rfl) (World.news_of_block (B := W5.heap.size) (cs := #[.slice A3 n3 c3, .int .i64 x.Sum, .int .i64 x.Count, .int .i64 x.Least, .int .i64 x.Most]) (t := 50) (fr := (0, 0)) (heap_alloc_new W5 _)) (by simp [Value.oneCell']) (by omega) (by unfold maxLen; omega) (by omega) (Nat.zero_le _) _ rfl ?_; intro gg cap w7 hown1 hgrow hat hlt9; obtain ⟨fp', hs7⟩ := HNE.out gg cap w7 hown1 hgrow hat; (have HS7 := Lib.hid hs7); clear hown1 hgrow hat hlt9 hs7)
      go_roundg (n - (k + 1))
      case measure => omega
      case rel => exact ⟨k + 1, nn + 1, cap, _, fp', xs ++ [Pl.tkeep names x], Nat.le_refl _, by omega, by go_num, rfl, (by show _ = _; rw [List.length_append, HN.out]; rfl), (by show _ = _; rw [HNX.out, HX.out]), HS7.out.sel [2] (by decide) rfl⟩
    · obtain rfl : n = k := by omega
      have f1 : ¬ (n : Int) < (n : Nat) := by omega
      have HXS : Hid (xs = l.map (Pl.tkeep names)) := by show _ = _; rw [HX.out, List.take_of_length_le (by rw [HLN.out]; exact Nat.le_refl _)]
      have CC := combined_c xs AA nn cc W _ ((HS.out.sl 0 rfl).weak (HS.out.sl 0 rfl).olt) (Nat.le_refl _) (fun y hy => by
        rw [HXS.out] at hy
        obtain ⟨z, hz, rfl⟩ := List.mem_map.1 hy
        exact Pl.totOk_keep names (HOK.out z hz)) (by omega)
      rw [HXS.out] at CC
      go_wp2_with (go_at_call 59; (with_reducible refine CC.mono ?_); clear CC; rintro e w6 ⟨A6, n6, c6, f6, rfl, k1, k2, k3, k4⟩)
      rw [HF.out]
      go_ret2
      exact ⟨A6, n6, c6, f6, rfl, k1, k2, fun b hb => Nat.le_trans HS.out.bel0.size (k3 b hb), below_step HS.out.bel0 k4⟩
set_option maxRecDepth 100000 in
set_option maxHeartbeats 1000000 in
theorem implCoarseTotals_c (l : List Total) (A : Option Addr) (n c : Nat) (names : List ByteArray) (A' : Option Addr) (n' c' : Nat) (w : World) (B : Nat) (hl : Mm.SlAt rTotal w B l A n c) (hs : Mm.SlAt Mm.str w B names A' n' c') (hB : B ≤ w.heap.size) :
    Calls Try.prog 39 #[.slice A n c, .slice A' n' c'] w (Mm.RetS2 rTotal 50 w (Pl.tcoarse l names).1 (Pl.tcoarse l names).2) := by
  have HL := Lib.hid hl
  have HNM := Lib.hid hs
  have HLN : Hid (l.length = n) := hl.1
  have HNL : Hid (names.length = n') := hs.1
  have hnm : n' ≤ maxLen := Nat.le_trans hs.2.1 hs.2.2.1
  unfold maxLen at hnm
  clear hl hs
  have CA := areTotals_c l A n c w B HL.out hB
  cases hca : Pl.totalsOk l with
  | false =>
    have HF : Hid (Pl.tcoarse l names = ([], false)) := if_neg (by rw [hca]; simp)
    rw [hca] at CA
    clear hca
    go_enter Try.func39, Try.ntmps39
    go_wp2_with (go_at_call 51; (with_reducible refine CA.mono ?_); rintro e w1 ⟨rfl, hb1⟩)
    rw [HF.out]
    go_ret2
    exact (Mm.Acc.nil hb1).ret
  | true =>
  rw [hca] at CA
  by_cases hn6 : n' ≤ 6
  · skip
    (exact implCoarseOk l A n c names A' n' c' w B HL HNM hB HLN HNL hn6 hca CA)
  · have HF : Hid (Pl.tcoarse l names = ([], false)) := if_neg (by rw [HNL.out]; simp [hn6])
    have f0 : (6 : Int) < (n' : Nat) := by omega
    clear hca
    go_enter Try.func39, Try.ntmps39
    go_wp2_with (go_at_call 51; (with_reducible refine CA.mono ?_); rintro e w1 ⟨rfl, hb1⟩)
    rw [HF.out]
    go_ret2
    exact (Mm.Acc.nil hb1).ret
set_option maxRecDepth 100000 in
set_option maxHeartbeats 1000000 in
theorem specCoarseOk (l : List Total) (A : Option Addr) (n c : Nat) (names : List ByteArray) (A' : Option Addr) (n' c' : Nat) (w : World) (B : Nat) (HL : Hid (Mm.SlAt rTotal w B l A n c)) (HNM : Hid (Mm.SlAt Mm.str w B names A' n' c')) (hB : B ≤ w.heap.size) (HLN : Hid (l.length = n)) (HNL : Hid (names.length = n')) (hn6 : n' ≤ 6) (hca : Pl.totalsOk l = true)
    (CA : Calls Try.prog 47 #[.slice A n c] w fun e w' => e = .returned (.bool true) ∧ Below w.heap.size w w') :
    Calls Try.prog 37 #[.slice A n c, .slice A' n' c'] w (Mm.RetS2 rTotal 50 w (Pl.tcoarse l names).1 (Pl.tcoarse l names).2) := by
  have HF : Hid (Pl.tcoarse l names = Pl.tgood (Pl.tcomb (l.map (Pl.tkeep names)))) := if_pos (by rw [hca, HNL.out]; simpa using hn6)
  have hn40 : n ≤ 40 := by have := Pl.totalsOk_len hca; have := HLN.out; omega
  have HOK := Lib.hid (Pl.totalsOk_all hca)
  clear hca
  have f0 : ¬ (6 : Int) < (n' : Nat) := by omega
  go_enter Try.func37, Try.ntmps37
  go_wp2_with (go_at_call 47; (with_reducible refine CA.mono ?_); clear CA; rintro e w0 ⟨rfl, hb0⟩)
  have HB0 := Lib.hid hb0
  clear hb0
  go_loopg [6, 19] n (fun g o i wr => ∃ (k nn cc : Nat) (AA : Option Addr) (fp : List Nat) (xs : List Total), n - k ≤ g ∧ k ≤ n ∧ i = .int .i64 k ∧ o = .slice AA nn cc ∧ Hid (nn = xs.length) ∧ Hid (xs = Pl.tcomb ((l.map (Pl.tkeep names)).take k)) ∧ Hid (Mm.SepF [] w wr [Mm.tsl rTotal 50 xs (.slice AA nn cc) fp]))
  case atStart => exact ⟨0, 0, 0, none, [], [], Nat.le_refl _, Nat.zero_le _, rfl, rfl, rfl, rfl, (Mm.SepF.start w).add HB0.out (t := Mm.tsl rTotal 50 [] (.slice none 0 0) []) Mm.SlOwn.nil List.nodup_nil (fun b hb => by cases hb)⟩
  case round =>
    obtain ⟨k, nn, cc, AA, fp, xs, hgk, hk, rfl, rfl, HN, HX, HS⟩ := hrel
    obtain ⟨W, rfl⟩ : ∃ W : World, W = wr := ⟨_, rfl⟩
    have HOK2 : Hid (∀ y, y ∈ l.map (Pl.tkeep names) → Pl.totOk y = true) := fun y hy => by
      obtain ⟨z, hz, rfl⟩ := List.mem_map.1 hy
      exact Pl.totOk_keep names (HOK.out z hz)
    have hT : Pl.TOk k xs := by rw [HX.out]; exact Pl.TOk.comb HOK2.out k (by rw [List.length_map, HLN.out]; exact hk)
    have HT := Lib.hid hT
    clear hT
    by_cases hlt : k < n
    · have f1 : (k : Int) < (n : Nat) := by omega
      have f2 : (0 : Int) ≤ (k : Nat) := by omega
      have f3 : ((k : Nat) : Int).toNat = k := by omega
      obtain ⟨x, bb, off, A2, n2, c2, hx, rfl, hbb, hlb, i1, i2, i3, i4, e0, e1, e2, e3, e4⟩ := rTotal_get (HL.out.keep (w' := W) fun b hb => HS.out.bel0.block b (Nat.lt_of_lt_of_le hb hB)) hlt
      have HTX := Lib.hid (HOK.out x (List.mem_of_getElem? hx))
      have HNX := Lib.hid (Pl.tcomb_next (l := l.map (Pl.tkeep names)) (k := k) (x := Pl.tkeep names x) (by rw [List.getElem?_map, hx]; rfl))
      have HLB := Lib.hid hlb
      have hn2 : n2 ≤ 6 := by have := Pl.labelsOk_len (Pl.totOk_lab HTX.out); have := hlb.1; omega
      clear hx hlb i1 i2 i3 i4
      obtain ⟨gt, hgt⟩ : ∃ gt, W.heap.size = gt := ⟨_, rfl⟩
      obtain ⟨W1, hW1⟩ : ∃ W1, W.alloc (.cells #[.slice A2 n2 c2, .int .i64 x.Sum, .int .i64 x.Count, .int .i64 x.Least, .int .i64 x.Most] 50) = W1 := ⟨_, rfl⟩
      have HS1 := Lib.hid ((HS.out.alloc' hgt 50 [.slice A2 n2 c2, .int .i64 x.Sum, .int .i64 x.Count, .int .i64 x.Least, .int .i64 x.Most]).atW hW1)
      have hB1 : Below W.heap.size W W1 := by rw [← hW1]; exact below_new (Below.refl _ _) _
      have hBW : B ≤ W.heap.size := Nat.le_trans hB HS.out.bel0.size
      have CK := l14Keep_c x.Labels A2 n2 c2 names A' n' c' W1 B (HLB.out.keep fun b hb => hB1.block b (Nat.lt_of_lt_of_le hb hBW)) (HNM.out.keep fun b hb => HS1.out.bel0.block b (Nat.lt_of_lt_of_le hb hB)) (Nat.le_trans hBW hB1.size) (by omega)
      have s0 := HS1.out.cell (k := 0) 0 rfl rfl
      go_upto_region 7 with fail
      clear hW1 hB1 HS e0 e1 e2 e3 e4
      go_upto_region 8 with (go_at_call 66; (with_reducible refine CK.mono ?_); clear CK; rintro e w4 ⟨A3, n3, c3, fp3, rfl, ho, hnd, hnew, hb4⟩; (have HS4 := Lib.hid (HS1.out.add hb4 (t := Mm.tsl rLabel 97 (Pl.keepL x.Labels names) (.slice A3 n3 c3) fp3) ho hnd hnew)); clear ho hnd hnew hb4 s0; (have s0 := HS4.out.cell (k := 0) 1 rfl rfl); (have z0 := HS4.out.frz (k := 0) 1 rfl))
      obtain ⟨W5, hW5⟩ : ∃ W5, w4.setCell ⟨gt, 0, none⟩ (.slice A3 n3 c3) = W5 := ⟨_, rfl⟩
      have HS5 := Lib.hid ((HS4.out.setBlk (k := 0) 1 rfl (.slice A3 n3 c3)).atW hW5)
      rw [hW5]
      clear hW5 s0 z0 HS4
      have t0 := HS5.out.cell (k := 0) 1 rfl rfl
      have t1 := HS5.out.cell (k := 1) 1 rfl rfl
      have t2 := HS5.out.cell (k := 2) 1 rfl rfl
      have t3 := HS5.out.cell (k := 3) 1 rfl rfl
      have t4 := HS5.out.cell (k := 4) 1 rfl rfl
      have CP : Calls Try.prog 58 #[.slice AA nn cc, .agg #[.slice A3 n3 c3, .int .i64 x.Sum, .int .i64 x.Count, .int .i64 x.Least, .int .i64 x.Most]] W5 (PutAns fp (Pl.tput xs (Pl.tkeep names x)) W5) := l14Put_c xs k (Pl.tkeep names x) AA A3 nn cc n3 c3 fp W5 W5.heap.size (HS5.out.sl 2 rfl) (HS5.out.ndat (i := 2) rfl) HT.out (by omega) ((HS5.out.sl 0 rfl).weak (HS5.out.sl 0 rfl).olt) (Nat.le_refl _) (Pl.totOk_keep names HTX.out)
      go_wp2_with (go_at_call 58; (with_reducible refine CP.mono ?_); clear CP; rintro e w6 ⟨A6, n6, c6, fp6, rfl, hS6⟩; (have HS6 := Lib.hid (HS5.out.callAll 2 rfl hS6)); clear hS6)
      have hn6' : n6 = (Pl.tput xs (Pl.tkeep names x)).length := by obtain ⟨_, _, _, hv, q1, _⟩ := (HS6.out.sl 3 rfl).form; injection hv with _ q2 _; omega
      go_roundg (n - (k + 1))
      case measure => omega
      case rel => exact ⟨k + 1, n6, c6, A6, fp6, _, Nat.le_refl _, by omega, by go_num, rfl, hn6', (by show _ = _; rw [HNX.out, HX.out]), HS6.out.sel [3] (by decide) rfl⟩
    · obtain rfl : n = k := by omega
      have f1 : ¬ (n : Int) < (n : Nat) := by omega
      have hxs : xs = Pl.tcomb (l.map (Pl.tkeep names)) := by rw [HX.out, List.take_of_length_le (by rw [List.length_map, HLN.out]; exact Nat.le_refl _)]
      have CG := GoodTotals_c xs AA nn cc W _ ((HS.out.sl 0 rfl).weak (HS.out.sl 0 rfl).olt) (Nat.le_refl _)
      obtain ⟨gd, hgd⟩ : ∃ gd, Pl.totalsOk xs = gd := ⟨_, rfl⟩
      rw [hgd] at CG
      cases gd with
      | false =>
        have HG : Hid (Pl.tcoarse l names = ([], false)) := by show _ = _; rw [HF.out, ← hxs]; unfold Pl.tgood; rw [hgd]; rfl
        clear hxs hgd
        go_wp2_with (go_at_call 47; (with_reducible refine CG.mono ?_); clear CG; rintro e w1 ⟨rfl, hb1⟩)
        go_ret2
        rw [HG.out]
        exact (Mm.Acc.nil (below_step HS.out.bel0 hb1)).ret
      | true =>
        have HG : Hid (Pl.tcoarse l names = (xs, true)) := by show _ = _; rw [HF.out, ← hxs]; unfold Pl.tgood; rw [hgd]; rfl
        clear hxs hgd
        go_wp2_with (go_at_call 47; (with_reducible refine CG.mono ?_); clear CG; rintro e w1 ⟨rfl, hb1⟩)
        go_ret2
        rw [HG.out]
        have HS2 := HS.out.step hb1
        exact ⟨_, _, _, fp, rfl, HS2.sl 0 rfl, HS2.ndat (i := 0) rfl, fun b hb => (HS2.new b (by simpa [Mm.tsl] using hb)).resolve_left (fun h => by cases h), HS2.bel0⟩
set_option maxRecDepth 100000 in
set_option maxHeartbeats 1000000 in
theorem specCoarseTotals_c (l : List Total) (A : Option Addr) (n c : Nat) (names : List ByteArray) (A' : Option Addr) (n' c' : Nat) (w : World) (B : Nat) (hl : Mm.SlAt rTotal w B l A n c) (hs : Mm.SlAt Mm.str w B names A' n' c') (hB : B ≤ w.heap.size) :
    Calls Try.prog 37 #[.slice A n c, .slice A' n' c'] w (Mm.RetS2 rTotal 50 w (Pl.tcoarse l names).1 (Pl.tcoarse l names).2) := by
  have HL := Lib.hid hl
  have HNM := Lib.hid hs
  have HLN : Hid (l.length = n) := hl.1
  have HNL : Hid (names.length = n') := hs.1
  have hnm : n' ≤ maxLen := Nat.le_trans hs.2.1 hs.2.2.1
  unfold maxLen at hnm
  clear hl hs
  have CA := GoodTotals_c l A n c w B HL.out hB
  cases hca : Pl.totalsOk l with
  | false =>
    have HF : Hid (Pl.tcoarse l names = ([], false)) := if_neg (by rw [hca]; simp)
    rw [hca] at CA
    clear hca
    go_enter Try.func37, Try.ntmps37
    go_wp2_with (go_at_call 47; (with_reducible refine CA.mono ?_); rintro e w1 ⟨rfl, hb1⟩)
    rw [HF.out]
    go_ret2
    exact (Mm.Acc.nil hb1).ret
  | true =>
  rw [hca] at CA
  by_cases hn6 : n' ≤ 6
  · skip
    (exact specCoarseOk l A n c names A' n' c' w B HL HNM hB HLN HNL hn6 hca CA)
  · have HF : Hid (Pl.tcoarse l names = ([], false)) := if_neg (by rw [HNL.out]; simp [hn6])
    have f0 : (6 : Int) < (n' : Nat) := by omega
    clear hca
    go_enter Try.func37, Try.ntmps37
    go_wp2_with (go_at_call 47; (with_reducible refine CA.mono ?_); rintro e w1 ⟨rfl, hb1⟩)
    rw [HF.out]
    go_ret2
    exact (Mm.Acc.nil hb1).ret
end Go.Proofs.Ytnppcdiicnofpaa
