/-
  Contracts: GuessOf, LeastOf, GoodSketch, GoodHeavy. No conditions.
-/
import Derived.Test.YtjmcbggdckfefaaWg
namespace Go.Proofs.Ytjmcbggdckfefaa
open Go.RowKit
attribute [local go_sem] und_cell World.cell?_alloc_some
theorem ret_three {a b a' b' : Int} {c c' : Bool} (h1 : a = a') (h2 : b = b') (h3 : c = c') : Ending.returned (.tuple #[.int .i64 a, .int .i64 b, .bool c]) = Pl.ret3 (a', b', c') := by subst h1; subst h2; subst h3; rfl
theorem implGoodHeavy_c (h : Heavy) (cs : List Value) (w : World) (B : Nat) (hh : rHeavy.at_ w B h cs) (hB : B ≤ w.heap.size) :
    Calls Try.prog 45 #[.agg cs.toArray] w fun e w' => e = .returned (.bool (Pl.heavyOk h)) ∧ Below w.heap.size w w' := by
  have HH := Lib.hid hh
  obtain ⟨A0, n0, c0, A1, n1, c1, rfl, -⟩ := rHeavy_at hh
  clear hh
  go_enter Try.func45, Try.ntmps45
  go_wp2_with (go_at_call 70; refine (isHeavy_c h [.slice A0 n0 c0, .slice A1 n1 c1, .int .i64 h.Gone, .int .i64 h.Total] _ B (rHeavy.keep HH.out fun b hb => Below.heap_alloc w _ b (by omega)) (by rw [Mm.sz1]; omega)).mono ?_; rintro e w1 ⟨rfl, hb1⟩)
  go_ret
  exact ⟨rfl, below_step (below_new (Below.refl _ _) _) hb1⟩
theorem sIdx_c (l : List ByteArray) (A : Option Addr) (n c : Nat) (v : ByteArray) (w : World) (B : Nat) (hl : Mm.SlAt Mm.str w B l A n c) :
    Calls Try.prog 93 #[.slice A n c, .string v] w fun e w' => e = .returned (.int .i64 (Pl.idx l v)) ∧ w = w' := by
  have hlen : Hid (l.length = n) := hl.1
  have hn : n ≤ 9223372036854775807 := by have := hl.2.1; have := hl.2.2.1; unfold maxLen at this; omega
  have HL := Lib.hid hl
  clear hl
  go_enter Try.func93, Try.ntmps93
  go_wp2
  go_loopg [8] n (fun g i wr => wr = w ∧ ∃ k : Nat, n - k ≤ g ∧ k ≤ n ∧ i = .int .i64 k ∧ Hid (Pl.idx l v = Pl.idxFrom l v (n - k) k))
  case atStart => exact ⟨rfl, 0, Nat.le_refl _, Nat.zero_le _, rfl, by show _ = _; unfold Pl.idx; rw [hlen.out]; rfl⟩
  case round =>
    obtain ⟨rfl, k, hgk, hk, rfl, HU⟩ := hrel
    by_cases hlt : k < n
    · obtain ⟨x, b0, off, hx, rfl, hb, b1, d1⟩ := str_get HL.out hlt
      have HX := Lib.hid (Pl.strAt_of hx)
      clear hx
      cases he : (v.toList == x.toList)
      · have hne : Hid (x ≠ v) := fun e => by subst e; simp at he
        have HN := Lib.hid (Pl.idx_no HU.out hlt (by rw [HX.out]; exact hne.out))
        go_wp2
        go_roundg (n - (k + 1))
        case measure => omega
        case rel => exact ⟨rfl, k + 1, Nat.le_refl _, by omega, by go_num, HN.out⟩
      · have hq : Hid (x = v) := by
          have h1 : v.toList = x.toList := by simpa using he
          rw [Lib.toList_data, Lib.toList_data] at h1
          exact (WideShapes.bytes_inj h1).symm
        have HN := Lib.hid (Pl.idx_yes hlen.out HU.out hlt (by rw [HX.out]; exact hq.out))
        go_wp2
        go_ret
        exact ⟨ret_int HN.out.symm, rfl⟩
    · have HN := Lib.hid (Pl.idx_end HU.out hlt)
      go_wp2
      go_ret
      exact ⟨ret_int HN.out.symm, rfl⟩
set_option maxRecDepth 100000 in
set_option maxHeartbeats 1000000 in
theorem implLeastOf_c (h : Heavy) (cs : List Value) (name : ByteArray) (w : World) (B : Nat) (hh : rHeavy.at_ w B h cs) (hB : B ≤ w.heap.size) (hs : name.size ≤ maxLen) :
    Calls Try.prog 46 #[.agg cs.toArray, .string name] w fun e w' => e = Pl.ret3 (Pl.leastOf h name) ∧ Below w.heap.size w w' := by
  have HH := Lib.hid hh
  obtain ⟨A0, n0, c0, A1, n1, c1, rfl, h0, h1, g0, g1⟩ := rHeavy_at hh
  have hl0 := Lib.hid h0.1
  have hl1 := Lib.hid h1.1
  have HL0 := Lib.hid h0
  have HL1 := Lib.hid h1
  have HB := Lib.hid (Below.heap_alloc w (.cells #[.slice A0 n0 c0, .slice A1 n1 c1, .int .i64 h.Gone, .int .i64 h.Total] 38))
  clear h0 h1 hh
  have HHa := Lib.hid (rHeavy.keep HH.out fun b hb => HB.out b (by omega))
  cases hk : Pl.heavyOk h
  · have HF : Hid (Pl.leastOf h name = (0, 0, false)) := if_neg (by rw [hk]; simp)
    rw [HF.out]
    go_enter Try.func46, Try.ntmps46
    go_wp2_with (go_at_call 70; refine (isHeavy_c h [.slice A0 n0 c0, .slice A1 n1 c1, .int .i64 h.Gone, .int .i64 h.Total] _ B HHa.out (by rw [Mm.sz1]; omega)).mono ?_; rintro e w1 ⟨rfl, hb1⟩)
    go_ret3
    exact ⟨rfl, below_step (below_new (Below.refl _ _) _) hb1⟩
  cases hw : Pl.word false name.data.toList
  · have HF : Hid (Pl.leastOf h name = (0, 0, false)) := if_neg (by rw [hw]; simp)
    rw [HF.out]
    go_enter Try.func46, Try.ntmps46
    go_wp2_with first
      | (go_at_call 70; refine (isHeavy_c h [.slice A0 n0 c0, .slice A1 n1 c1, .int .i64 h.Gone, .int .i64 h.Total] _ B HHa.out (by rw [Mm.sz1]; omega)).mono ?_; rintro e w1 ⟨rfl, hb1⟩)
      | (go_at_call 71; refine (isWord_c _ _ _ hs).mono ?_; rintro e w' ⟨rfl, rfl⟩)
    go_ret3
    exact ⟨rfl, below_step (below_new (Below.refl _ _) _) hb1⟩
  have hbd := Pl.heavyOk_iff.1 hk
  have hne := hl1.out.symm.trans (hbd.2.1.trans hl0.out)
  obtain rfl : n0 = n1 := hne.symm
  have hn6 : n0 ≤ 6 := by have := hbd.1.2; rw [hl0.out] at this; omega
  have hgb := hbd.2.2.1
  have HSL := Lib.hid hbd.2.2.2.2.1
  have KB0 := Lib.hid (Mm.Blk.new w 38 [.slice A0 n0 c0, .slice A1 n0 c1, .int .i64 h.Gone, .int .i64 h.Total])
  have hix := Pl.idx_bd (l := h.Names) (v := name)
  rw [hl0.out] at hix
  have HF : Hid (Pl.leastOf h name = if 0 ≤ Pl.idx h.Names name then (h.Counts.getD (Pl.idx h.Names name).toNat 0, h.Counts.getD (Pl.idx h.Names name).toNat 0 + h.Gone, true) else (0, h.Gone, true)) := if_pos (by rw [hk, hw]; rfl)
  clear hbd
  by_cases hi : 0 ≤ Pl.idx h.Names name
  · obtain ⟨i, hie⟩ : ∃ i : Nat, Pl.idx h.Names name = i := ⟨(Pl.idx h.Names name).toNat, by omega⟩
    have hin : i < n0 := by omega
    obtain ⟨y, b2, off2, hy, rfl, hb2', b3, d2⟩ := int_get HL1.out hin
    have hyb : 0 ≤ y ∧ y ≤ 100000 := by
      have h2 := Pl.slotP_bd (HSL.out i (by rw [hl0.out]; exact hin))
      rwa [Pl.getD_of hy] at h2
    have HZ : Hid (Pl.leastOf h name = (y, y + h.Gone, true)) := by
      show _ = _
      rw [HF.out, if_pos hi, hie, Int.toNat_natCast, Pl.getD_of hy]
    have HIE := Lib.hid hie
    clear hie hy hix hi
    rw [HZ.out]
    go_enter Try.func46, Try.ntmps46
    go_wp2_with first
      | (go_at_call 70; refine (isHeavy_c h [.slice A0 n0 c0, .slice (some ⟨b2, off2, none⟩) n0 c1, .int .i64 h.Gone, .int .i64 h.Total] _ B HHa.out (by rw [Mm.sz1]; omega)).mono ?_; rintro e w1 ⟨rfl, hb1⟩; have KB := KB0.out.bel hb1; have q0 := KB.cell (i := 0) rfl; have q1 := KB.cell (i := 1) rfl; have q2 := KB.cell (i := 2) rfl; have hbw := below_step (below_new (Below.refl _ _) _) hb1; have d3 := below_some hbw d2; have HL0w := Lib.hid (HL0.out.keep (w' := w1) fun b hb => hbw.block b (by omega)); clear hb1)
      | (go_at_call 71; refine (isWord_c _ _ _ hs).mono ?_; rintro e w' ⟨rfl, rfl⟩)
      | (go_at_call 93; refine (sIdx_c h.Names _ _ _ _ _ B HL0w.out).mono ?_; rintro e w' ⟨rfl, rfl⟩; rw [HIE.out])
    refine wp_region_und (by kernel_rfl) (by kernel_rfl) ?_
    repeat (go_big_quiet_step ((first | fail)))
    refine wpQuiet_nil ?_
    intro X hX
    go_wp2
    go_ret3
    exact ⟨rfl, below_step hbw hX⟩
  · have hie : Pl.idx h.Names name = -1 := by omega
    have HZ : Hid (Pl.leastOf h name = (0, h.Gone, true)) := by
      show _ = _
      rw [HF.out, if_neg hi]
    have HIE := Lib.hid hie
    clear hie hix hi
    rw [HZ.out]
    go_enter Try.func46, Try.ntmps46
    go_wp2_with first
      | (go_at_call 70; refine (isHeavy_c h [.slice A0 n0 c0, .slice A1 n0 c1, .int .i64 h.Gone, .int .i64 h.Total] _ B HHa.out (by rw [Mm.sz1]; omega)).mono ?_; rintro e w1 ⟨rfl, hb1⟩; have KB := KB0.out.bel hb1; have q0 := KB.cell (i := 0) rfl; have q1 := KB.cell (i := 1) rfl; have q2 := KB.cell (i := 2) rfl; have hbw := below_step (below_new (Below.refl _ _) _) hb1; have HL0w := Lib.hid (HL0.out.keep (w' := w1) fun b hb => hbw.block b (by omega)); clear hb1)
      | (go_at_call 71; refine (isWord_c _ _ _ hs).mono ?_; rintro e w' ⟨rfl, rfl⟩)
      | (go_at_call 93; refine (sIdx_c h.Names _ _ _ _ _ B HL0w.out).mono ?_; rintro e w' ⟨rfl, rfl⟩; rw [HIE.out])
    refine wp_region_und (by kernel_rfl) (by kernel_rfl) ?_
    repeat (go_big_quiet_step ((first | fail)))
    refine wpQuiet_nil ?_
    intro X hX
    go_wp2
    go_ret3
    exact ⟨ret_three rfl (by omega) rfl, below_step hbw hX⟩
set_option maxRecDepth 100000 in
set_option maxHeartbeats 1000000 in
theorem specLeastOf_c (h : Heavy) (cs : List Value) (name : ByteArray) (w : World) (B : Nat) (hh : rHeavy.at_ w B h cs) (hB : B ≤ w.heap.size) (hs : name.size ≤ maxLen) :
    Calls Try.prog 49 #[.agg cs.toArray, .string name] w fun e w' => e = Pl.ret3 (Pl.leastOf h name) ∧ Below w.heap.size w w' := by
  have HH := Lib.hid hh
  obtain ⟨A0, n0, c0, A1, n1, c1, rfl, h0, h1, g0, g1⟩ := rHeavy_at hh
  have hl0 := Lib.hid h0.1
  have hl1 := Lib.hid h1.1
  have HL0 := Lib.hid h0
  have HL1 := Lib.hid h1
  have HB := Lib.hid (Below.heap_alloc w (.cells #[.slice A0 n0 c0, .slice A1 n1 c1, .int .i64 h.Gone, .int .i64 h.Total] 38))
  clear h0 h1 hh
  have HHa := Lib.hid (rHeavy.keep HH.out fun b hb => HB.out b (by omega))
  cases hk : Pl.heavyOk h
  · have HF : Hid (Pl.leastOf h name = (0, 0, false)) := if_neg (by rw [hk]; simp)
    rw [HF.out]
    go_enter Try.func49, Try.ntmps49
    go_wp2_with (go_at_call 55; refine (specGoodHeavy_c h [.slice A0 n0 c0, .slice A1 n1 c1, .int .i64 h.Gone, .int .i64 h.Total] _ B HHa.out (by rw [Mm.sz1]; omega)).mono ?_; rintro e w1 ⟨rfl, hb1⟩)
    go_ret3
    exact ⟨rfl, below_step (below_new (Below.refl _ _) _) hb1⟩
  cases hw : Pl.word false name.data.toList
  · have HF : Hid (Pl.leastOf h name = (0, 0, false)) := if_neg (by rw [hw]; simp)
    rw [HF.out]
    go_enter Try.func49, Try.ntmps49
    go_wp2_with first
      | (go_at_call 55; refine (specGoodHeavy_c h [.slice A0 n0 c0, .slice A1 n1 c1, .int .i64 h.Gone, .int .i64 h.Total] _ B HHa.out (by rw [Mm.sz1]; omega)).mono ?_; rintro e w1 ⟨rfl, hb1⟩)
      | (go_at_call 66; refine (l3Name_c _ _ _ hs).mono ?_; rintro e w' ⟨rfl, rfl⟩)
    go_ret3
    exact ⟨rfl, below_step (below_new (Below.refl _ _) _) hb1⟩
  have hbd := Pl.heavyOk_iff.1 hk
  have hne := hl1.out.symm.trans (hbd.2.1.trans hl0.out)
  obtain rfl : n0 = n1 := hne.symm
  have hn6 : n0 ≤ 6 := by have := hbd.1.2; rw [hl0.out] at this; omega
  have hgb := hbd.2.2.1
  have HSL := Lib.hid hbd.2.2.2.2.1
  have KB0 := Lib.hid (Mm.Blk.new w 38 [.slice A0 n0 c0, .slice A1 n0 c1, .int .i64 h.Gone, .int .i64 h.Total])
  have HF : Hid (Pl.leastOf h name = if 0 ≤ Pl.idx h.Names name then (h.Counts.getD (Pl.idx h.Names name).toNat 0, h.Counts.getD (Pl.idx h.Names name).toNat 0 + h.Gone, true) else (0, h.Gone, true)) := if_pos (by rw [hk, hw]; rfl)
  clear hbd
  go_enter Try.func49, Try.ntmps49
  go_wp2_with first
    | (go_at_call 55; refine (specGoodHeavy_c h [.slice A0 n0 c0, .slice A1 n0 c1, .int .i64 h.Gone, .int .i64 h.Total] _ B HHa.out (by rw [Mm.sz1]; omega)).mono ?_; rintro e w1 ⟨rfl, hb1⟩; have KB := Lib.hid (KB0.out.bel hb1); have q0 := KB.out.cell (i := 0) rfl; have hbw := below_step (below_new (Below.refl _ _) _) hb1)
    | (go_at_call 66; refine (l3Name_c _ _ _ hs).mono ?_; rintro e w' ⟨rfl, rfl⟩)
  clear hb1
  go_loopg [20] n0 (fun g i wr => wr = w1 ∧ ∃ k : Nat, n0 - k ≤ g ∧ k ≤ n0 ∧ i = .int .i64 k ∧ Hid (Pl.idx h.Names name = Pl.idxFrom h.Names name (n0 - k) k))
  case atStart => exact ⟨rfl, 0, Nat.le_refl _, Nat.zero_le _, rfl, by show _ = _; unfold Pl.idx; rw [hl0.out]; rfl⟩
  case round =>
    obtain ⟨rfl, k, hgk, hk', rfl, HU⟩ := hrel
    have q1 := KB.out.cell (i := 1) rfl
    have q2 := KB.out.cell (i := 2) rfl
    by_cases hlt : k < n0
    · obtain ⟨x, b0, off, hx, rfl, hb, b1, d1⟩ := str_get HL0.out hlt
      obtain ⟨y, b2, off2, hy, rfl, hb2', b3, d2⟩ := int_get HL1.out hlt
      have d1' := below_some hbw d1
      have d2' := below_some hbw d2
      have HX := Lib.hid (Pl.strAt_of hx)
      have hyb : 0 ≤ y ∧ y ≤ 100000 := by
        have h2 := Pl.slotP_bd (HSL.out k (by rw [hl0.out]; exact hlt))
        rwa [Pl.getD_of hy] at h2
      have HY := Lib.hid (Pl.getD_of hy)
      clear hx hy d1 d2
      cases he : (x.toList == name.toList)
      · have hne : Hid (x ≠ name) := fun e => by subst e; simp at he
        have HN := Lib.hid (Pl.idx_no HU.out hlt (by rw [HX.out]; exact hne.out))
        go_wp2
        go_roundg (n0 - (k + 1))
        case measure => omega
        case rel => exact ⟨rfl, k + 1, Nat.le_refl _, by omega, by go_num, HN.out⟩
      · have hq : Hid (x = name) := by
          have h1 : x.toList = name.toList := by simpa using he
          rw [Lib.toList_data, Lib.toList_data] at h1
          exact WideShapes.bytes_inj h1
        have HN := Lib.hid (Pl.idx_yes hl0.out HU.out hlt (by rw [HX.out]; exact hq.out))
        have HZ : Hid (Pl.leastOf h name = (y, y + h.Gone, true)) := by
          show _ = _
          rw [HF.out, if_pos (by rw [HN.out]; omega), HN.out, Int.toNat_natCast, HY.out]
        go_wp2
        refine wp_region_und (by kernel_rfl) (by kernel_rfl) ?_
        repeat (go_big_quiet_step ((first | fail)))
        refine wpQuiet_nil ?_
        intro X hX
        go_wp2
        rw [HZ.out]
        go_ret3
        exact ⟨rfl, below_step hbw hX⟩
    · have HN := Lib.hid (Pl.idx_end HU.out hlt)
      have HZ : Hid (Pl.leastOf h name = (0, h.Gone, true)) := by
        show _ = _
        rw [HF.out, if_neg (by rw [HN.out]; omega)]
      go_wp2
      refine wp_region_und (by kernel_rfl) (by kernel_rfl) ?_
      repeat (go_big_quiet_step ((first | fail)))
      refine wpQuiet_nil ?_
      intro X hX
      go_wp2
      rw [HZ.out]
      go_ret3
      exact ⟨rfl, below_step hbw hX⟩
set_option maxRecDepth 100000 in
set_option maxHeartbeats 1000000 in
theorem isSketch_c (s : Sketch) (cs : List Value) (w : World) (B : Nat) (hh : sk.at_ w B s cs) (hB : B ≤ w.heap.size) :
    Calls Try.prog 59 #[.agg cs.toArray] w fun e w' => e = .returned (.bool (Pl.sketchOk s)) ∧ Below w.heap.size w w' := by
  obtain ⟨A, n, c, rfl, h0, g0⟩ := sk_at hh
  have hlen := Lib.hid h0.1
  have hn : n ≤ 9223372036854775807 := by have := h0.2.1; have := h0.2.2.1; unfold maxLen at this; omega
  have HL := Lib.hid h0
  have HB := Lib.hid (Below.heap_alloc w (.cells #[.slice A n c, .int .i64 s.Total] 26))
  have HLa := Lib.hid (h0.keep (w' := w.alloc (.cells #[.slice A n c, .int .i64 s.Total] 26)) fun b hb => HB.out b (by omega))
  clear h0 hh
  have HF : Hid (Pl.sketchOk s = (Pl.isIn (n : Int) 1 3 && s.Rows.all (Pl.rowOk s.Total))) := by
    show _ = _
    unfold Pl.sketchOk
    rw [hlen.out]
  cases k1 : Pl.isIn (n : Int) 1 3
  · go_enter Try.func59, Try.ntmps59
    go_wp2_with (go_at_call 78; refine (within_c _ _ _ _).mono ?_; rintro e w' ⟨rfl, rfl⟩)
    go_ret
    exact ⟨ret_bool (by rw [HF.out, k1]; simp), (Below.refl _ _).alloc (Nat.le_refl _) _⟩
  have hb1 := Pl.isIn_iff.1 k1
  go_enter Try.func59, Try.ntmps59
  go_wp2_with (go_at_call 78; refine (within_c _ _ _ _).mono ?_; rintro e w' ⟨rfl, rfl⟩)
  go_loopg [16] n (fun g i wr => wr = w.alloc (.cells #[.slice A n c, .int .i64 s.Total] 26) ∧ ∃ k : Nat, n - k ≤ g ∧ k ≤ n ∧ i = .int .i64 k ∧ Hid (Pl.upTo (Pl.rowOk s.Total) s.Rows k))
  case atStart => exact ⟨rfl, 0, Nat.le_refl _, Nat.zero_le _, rfl, Pl.upTo0⟩
  case round =>
    obtain ⟨rfl, k, hgk, hk, rfl, HU⟩ := hrel
    obtain ⟨go, rfl⟩ : ∃ go : Nat, go = gk := ⟨_, rfl⟩
    by_cases hlt : k < n
    · obtain ⟨r, b0, off, A', n', c', hx, rfl, hb, hr, d1⟩ := ints_get HLa.out hlt
      have HX := Lib.hid hx
      have hrl := Lib.hid hr.1
      have hn' : n' ≤ 9223372036854775807 := by have := hr.2.1; have := hr.2.2.1; unfold maxLen at this; omega
      have HR := Lib.hid hr
      clear hx hr
      go_wp2
      go_loopg [5, 22] n' (fun g t i wr => wr = w.alloc (.cells #[.slice (some ⟨b0, off, none⟩) n c, .int .i64 s.Total] 26) ∧ ∃ (j : Nat) (z : Int), n' - j ≤ g ∧ j ≤ n' ∧ i = .int .i64 j ∧ t = .int .i64 z ∧ Hid (Pl.upTo (fun x => Pl.isIn x 0 100000) r j) ∧ Hid (j ≤ 11 → z = Pl.sumTo r j))
      case atStart => exact ⟨rfl, 0, 0, Nat.le_refl _, Nat.zero_le _, rfl, rfl, Pl.upTo0, fun _ => rfl⟩
      case round =>
        obtain ⟨rfl, j, z, hgj, hj, rfl, rfl, HU2, HZ⟩ := hrel
        by_cases hlj : j < n'
        · obtain ⟨x, b2, off2, hx2, rfl, hb2, b3, d2⟩ := int_get HR.out hlj
          cases hs : Pl.isIn x 0 100000
          · have HV : Hid (Pl.sketchOk s = false) := by
              show _ = _
              rw [HF.out, Pl.upToB HX.out (show Pl.rowOk s.Total r = false by unfold Pl.rowOk Pl.allIn; rw [Pl.upToB hx2 hs]; simp)]; simp
            clear hx2
            go_wp2_with (go_at_call 78; refine (within_c _ _ _ _).mono ?_; rintro e w' ⟨rfl, rfl⟩)
            go_ret
            exact ⟨ret_bool HV.out.symm, (Below.refl _ _).alloc (Nat.le_refl _) _⟩
          · have hxb := Pl.isIn_iff.1 hs
            have HU3 := Lib.hid (Pl.upTo1 HU2.out hx2 hs)
            have HN := Lib.hid (Pl.sumTo_next hx2)
            have HSB := Lib.hid (Pl.sumTo_bd' HU2.out (by omega) (by omega) j (Nat.le_refl _))
            clear hx2
            by_cases h11 : j < 11
            · have hze := HZ.out (by omega)
              have hzb := HSB.out
              rw [← hze] at hzb
              have HZE := Lib.hid hze
              clear hze
              go_wp2_with (go_at_call 78; refine (within_c _ _ _ _).mono ?_; rintro e w' ⟨rfl, rfl⟩)
              go_roundg (n' - (j + 1))
              case measure => omega
              case rel => exact ⟨rfl, j + 1, z + x, Nat.le_refl _, by omega, by go_num, by go_num, HU3.out, fun _ => by rw [HN.out, HZE.out]⟩
            · go_wp2_with (go_at_call 78; refine (within_c _ _ _ _).mono ?_; rintro e w' ⟨rfl, rfl⟩)
              go_roundg (n' - (j + 1))
              case measure => omega
              case rel => exact ⟨rfl, j + 1, _, Nat.le_refl _, by omega, by go_num, rfl, HU3.out, fun hh => by omega⟩
        · have HA : Hid (Pl.allIn 0 100000 r = true) := Pl.upToE HU2.out (by rw [hrl.out]; omega)
          by_cases h11 : n' = 11
          · subst h11
            have hze : z = Pl.sum r := by
              have h1 := HZ.out (by omega)
              unfold Pl.sum
              rw [hrl.out, h1, show j = 11 by omega]
            by_cases hzt : z = s.Total
            · have HV := Lib.hid (Pl.upTo1 HU.out HX.out (Pl.rowOk_iff.2 ⟨hrl.out, HA.out, by rw [← hze, hzt]⟩))
              have hz1 : (z != s.Total) = false := by simpa using hzt
              clear hze hzt
              go_wp2
              go_roundg (n - (k + 1))
              case measure => omega
              case rel => exact ⟨rfl, k + 1, Nat.le_refl _, by omega, by go_num, HV.out⟩
            · have HV : Hid (Pl.sketchOk s = false) := by
                show _ = _
                rw [HF.out, Pl.upToB HX.out (show Pl.rowOk s.Total r = false by unfold Pl.rowOk; rw [← hze]; simp [hzt])]; simp
              have hz1 : (z != s.Total) = true := by simpa using hzt
              clear hze hzt
              go_wp2
              go_ret
              exact ⟨ret_bool HV.out.symm, (Below.refl _ _).alloc (Nat.le_refl _) _⟩
          · have HV : Hid (Pl.sketchOk s = false) := by
              show _ = _
              rw [HF.out, Pl.upToB HX.out (show Pl.rowOk s.Total r = false by unfold Pl.rowOk; rw [hrl.out]; simp [h11])]; simp
            have hz1 : ((n' : Int) != 11) = true := by simp; omega
            go_wp2
            go_ret
            exact ⟨ret_bool HV.out.symm, (Below.refl _ _).alloc (Nat.le_refl _) _⟩
    · go_wp2
      go_ret
      exact ⟨ret_bool (by rw [HF.out, k1, Pl.upToE HU.out (by rw [hlen.out]; omega)]; rfl), (Below.refl _ _).alloc (Nat.le_refl _) _⟩
theorem implGoodSketch_c (s : Sketch) (cs : List Value) (w : World) (B : Nat) (hh : sk.at_ w B s cs) (hB : B ≤ w.heap.size) :
    Calls Try.prog 42 #[.agg cs.toArray] w fun e w' => e = .returned (.bool (Pl.sketchOk s)) ∧ Below w.heap.size w w' := by
  have HH := Lib.hid hh
  obtain ⟨A, n, c, rfl, -⟩ := sk_at hh
  clear hh
  go_enter Try.func42, Try.ntmps42
  go_wp2_with (go_at_call 59; refine (isSketch_c s [.slice A n c, .int .i64 s.Total] _ B (sk.keep HH.out fun b hb => Below.heap_alloc w _ b (by omega)) (by rw [Mm.sz1]; omega)).mono ?_; rintro e w1 ⟨rfl, hb1⟩)
  go_ret
  exact ⟨rfl, below_step (below_new (Below.refl _ _) _) hb1⟩
set_option maxRecDepth 100000 in
set_option maxHeartbeats 1000000 in
theorem specGoodSketch_c (s : Sketch) (cs : List Value) (w : World) (B : Nat) (hh : sk.at_ w B s cs) (hB : B ≤ w.heap.size) :
    Calls Try.prog 43 #[.agg cs.toArray] w fun e w' => e = .returned (.bool (Pl.sketchOk s)) ∧ Below w.heap.size w w' := by
  obtain ⟨A, n, c, rfl, h0, g0⟩ := sk_at hh
  have hlen := Lib.hid h0.1
  have hn : n ≤ 9223372036854775807 := by have := h0.2.1; have := h0.2.2.1; unfold maxLen at this; omega
  have HL := Lib.hid h0
  have HB := Lib.hid (Below.heap_alloc w (.cells #[.slice A n c, .int .i64 s.Total] 26))
  have HLa := Lib.hid (h0.keep (w' := w.alloc (.cells #[.slice A n c, .int .i64 s.Total] 26)) fun b hb => HB.out b (by omega))
  clear h0 hh
  have KB0 := Lib.hid (Mm.Blk.new w 26 [.slice A n c, .int .i64 s.Total])
  have HF : Hid (Pl.sketchOk s = (Pl.isIn (n : Int) 1 3 && s.Rows.all (Pl.rowOk s.Total))) := by
    show _ = _
    unfold Pl.sketchOk
    rw [hlen.out]
  go_enter Try.func43, Try.ntmps43
  go_wp2
  go_loopg [8] n (fun g i wr => Below (w.alloc (.cells #[.slice A n c, .int .i64 s.Total] 26)).heap.size (w.alloc (.cells #[.slice A n c, .int .i64 s.Total] 26)) wr ∧ ∃ k : Nat, n - k ≤ g ∧ k ≤ n ∧ i = .int .i64 k ∧ Hid (Pl.upTo (Pl.rowOk s.Total) s.Rows k))
  case atStart => exact ⟨Below.refl _ _, 0, Nat.le_refl _, Nat.zero_le _, rfl, Pl.upTo0⟩
  case round =>
    obtain ⟨hbel, k, hgk, hk, rfl, HU⟩ := hrel
    have KB := Lib.hid (KB0.out.bel hbel)
    have q0 := KB.out.cell (i := 0) rfl
    have q1 := KB.out.cell (i := 1) rfl
    have hbs := hbel.size
    rw [Mm.sz1] at hbs
    have HLw := Lib.hid (HLa.out.keep (w' := wr) fun b hb => hbel.block b (by rw [Mm.sz1]; omega))
    have HT := Lib.hid (below_step (below_new (Below.refl _ _) _) hbel)
    by_cases hlt : k < n
    · obtain ⟨r, b0, off, A', n', c', hx, rfl, hb, hr, d1⟩ := ints_get HLw.out hlt
      have HBL := Lib.hid hbel
      clear hbel
      have HX := Lib.hid hx
      have hrl := Lib.hid hr.1
      have HR := Lib.hid hr
      clear hx hr
      by_cases h11 : n' = 11
      · subst h11
        cases ha : Pl.allIn 0 100000 r
        · have HV : Hid (Pl.sketchOk s = false) := by
            show _ = _
            rw [HF.out, Pl.upToB HX.out (show Pl.rowOk s.Total r = false by unfold Pl.rowOk; rw [ha]; simp)]; simp
          go_wp2
          refine wp_region_und (by kernel_rfl) (by kernel_rfl) ?_
          repeat (go_big_quiet_step ((first | (go_at_call 89; exact und_same _ (l1All_c r _ _ _ _ _ _ B (HR.out.und (by omega) _))))))
          refine wpQuiet_nil ?_
          intro X hX
          go_wp2
          go_ret
          exact ⟨ret_bool HV.out.symm, below_step HT.out hX⟩
        have HA : Hid (Pl.allIn (-1000000) 1000000 r = true) := List.all_eq_true.2 fun y hy => by
          have := Pl.isIn_iff.1 (List.all_eq_true.1 ha y hy)
          exact Pl.isIn_mk (by omega) (by omega)
        by_cases hz : Pl.sum r = s.Total
        · have HV := Lib.hid (Pl.upTo1 HU.out HX.out (Pl.rowOk_iff.2 ⟨hrl.out, ha, hz⟩))
          have hz1 : (Pl.sum r != s.Total) = false := by simpa using hz
          clear hz
          go_wp2
          refine wp_region_und (by kernel_rfl) (by kernel_rfl) ?_
          repeat (go_big_quiet_step ((first | (go_at_call 89; exact und_same _ (l1All_c r _ _ _ _ _ _ B (HR.out.und (by omega) _))) | (go_at_call 90; exact und_same _ (l12Sum_c r _ _ _ _ B (HR.out.und (by omega) _) (by omega) HA.out)))))
          refine wpQuiet_nil ?_
          intro X hX
          go_wp2
          go_roundg (n - (k + 1))
          case measure => omega
          case rel => exact ⟨below_step HBL.out hX, k + 1, Nat.le_refl _, by omega, by go_num, HV.out⟩
        · have HV : Hid (Pl.sketchOk s = false) := by
            show _ = _
            rw [HF.out, Pl.upToB HX.out (show Pl.rowOk s.Total r = false by unfold Pl.rowOk; simp [hz])]; simp
          have hz1 : (Pl.sum r != s.Total) = true := by simpa using hz
          clear hz
          go_wp2
          refine wp_region_und (by kernel_rfl) (by kernel_rfl) ?_
          repeat (go_big_quiet_step ((first | (go_at_call 89; exact und_same _ (l1All_c r _ _ _ _ _ _ B (HR.out.und (by omega) _))) | (go_at_call 90; exact und_same _ (l12Sum_c r _ _ _ _ B (HR.out.und (by omega) _) (by omega) HA.out)))))
          refine wpQuiet_nil ?_
          intro X hX
          go_wp2
          go_ret
          exact ⟨ret_bool HV.out.symm, below_step HT.out hX⟩
      · have HV : Hid (Pl.sketchOk s = false) := by
          show _ = _
          rw [HF.out, Pl.upToB HX.out (show Pl.rowOk s.Total r = false by unfold Pl.rowOk; rw [hrl.out]; simp [h11])]; simp
        have hz1 : ((n' : Int) != 11) = true := by simp; omega
        go_wp2
        refine wp_region_und (by kernel_rfl) (by kernel_rfl) ?_
        repeat (go_big_quiet_step ((first | fail)))
        refine wpQuiet_nil ?_
        intro X hX
        go_wp2
        go_ret
        exact ⟨ret_bool HV.out.symm, below_step HT.out hX⟩
    · go_wp2_with (go_at_call 87; refine (l1In_c _ _ _ _).mono ?_; rintro e w' ⟨rfl, rfl⟩)
      go_ret
      exact ⟨ret_bool (by rw [HF.out, Pl.upToE HU.out (by rw [hlen.out]; omega)]; simp), HT.out⟩
set_option maxRecDepth 100000 in
set_option maxHeartbeats 1000000 in
theorem implGuessOf_c (s : Sketch) (cs : List Value) (name : ByteArray) (w : World) (B : Nat) (hh : sk.at_ w B s cs) (hB : B ≤ w.heap.size) (hs : name.size ≤ maxLen) :
    Calls Try.prog 32 #[.agg cs.toArray, .string name] w fun e w' => e = Pl.ret2 (Pl.guessOf s name) ∧ Below w.heap.size w w' := by
  have HH := Lib.hid hh
  obtain ⟨A, n, c, rfl, h0, g0⟩ := sk_at hh
  have hlen := Lib.hid h0.1
  have hn : n ≤ 9223372036854775807 := by have := h0.2.1; have := h0.2.2.1; unfold maxLen at this; omega
  have HL := Lib.hid h0
  have HB := Lib.hid (Below.heap_alloc w (.cells #[.slice A n c, .int .i64 s.Total] 26))
  have HLa := Lib.hid (h0.keep (w' := w.alloc (.cells #[.slice A n c, .int .i64 s.Total] 26)) fun b hb => HB.out b (by omega))
  clear h0 hh
  have HHa := Lib.hid (sk.keep HH.out fun b hb => HB.out b (by omega))
  cases hk : Pl.sketchOk s
  · have HF : Hid (Pl.guessOf s name = (0, false)) := if_neg (by rw [hk]; simp)
    rw [HF.out]
    go_enter Try.func32, Try.ntmps32
    go_wp2_with (go_at_call 59; refine (isSketch_c s [.slice A n c, .int .i64 s.Total] _ B HHa.out (by rw [Mm.sz1]; omega)).mono ?_; rintro e w1 ⟨rfl, hb1⟩)
    go_ret2
    exact ⟨rfl, below_step (below_new (Below.refl _ _) _) hb1⟩
  cases hw : Pl.word false name.data.toList
  · have HF : Hid (Pl.guessOf s name = (0, false)) := if_neg (by rw [hw]; simp)
    rw [HF.out]
    go_enter Try.func32, Try.ntmps32
    go_wp2_with first
      | (go_at_call 59; refine (isSketch_c s [.slice A n c, .int .i64 s.Total] _ B HHa.out (by rw [Mm.sz1]; omega)).mono ?_; rintro e w1 ⟨rfl, hb1⟩)
      | (go_at_call 71; refine (isWord_c _ _ _ hs).mono ?_; rintro e w' ⟨rfl, rfl⟩)
    go_ret2
    exact ⟨rfl, below_step (below_new (Below.refl _ _) _) hb1⟩
  have HF : Hid (Pl.guessOf s name = (Pl.guessTo s.Rows name.data.toList s.Rows.length, true)) := if_pos (by rw [hk, hw]; rfl)
  have HRB := Lib.hid (fun (k : Nat) (r : List Int) (hr : s.Rows[k]? = some r) => Pl.rows_bd hk hr)
  have hn3 : 1 ≤ n ∧ n ≤ 3 := by
    unfold Pl.sketchOk at hk
    rw [Bool.and_eq_true, Pl.isIn_iff, hlen.out] at hk
    omega
  have KB0 := Lib.hid (Mm.Blk.new w 26 [.slice A n c, .int .i64 s.Total])
  rw [HF.out]
  go_enter Try.func32, Try.ntmps32
  go_wp2_with first
    | (go_at_call 59; refine (isSketch_c s [.slice A n c, .int .i64 s.Total] _ B HHa.out (by rw [Mm.sz1]; omega)).mono ?_; rintro e w1 ⟨rfl, hb1⟩; have KB := Lib.hid (KB0.out.bel hb1); have q0 := KB.out.cell (i := 0) rfl; have hbw := below_step (below_new (Below.refl _ _) _) hb1)
    | (go_at_call 71; refine (isWord_c _ _ _ hs).mono ?_; rintro e w' ⟨rfl, rfl⟩)
  clear hb1
  go_loopg [6, 20] n (fun g t i wr => wr = w1 ∧ ∃ k : Nat, n - k ≤ g ∧ k ≤ n ∧ i = .int .i64 k ∧ t = .int .i64 (Pl.guessTo s.Rows name.data.toList k))
  case atStart => exact ⟨rfl, 0, Nat.le_refl _, Nat.zero_le _, rfl, rfl⟩
  case round =>
    obtain ⟨rfl, k, hgk, hk', rfl, rfl⟩ := hrel
    have hgb := Pl.guessTo_bd (name := name.data.toList) (fun k r hr => (HRB.out k r hr).2.1) k
    by_cases hlt : k < n
    · obtain ⟨r, b0, off, A', n', c', hx, rfl, hb, hr, d1⟩ := ints_get HL.out hlt
      have hrb := HRB.out k r hx
      have hpb := Pl.place_bd k name.data.toList
      obtain ⟨p, hp⟩ : ∃ p : Nat, Pl.place k name.data.toList = p := ⟨(Pl.place k name.data.toList).toNat, by omega⟩
      have hrl := hr.1
      obtain ⟨x, b2, off2, hx2, rfl, hb2, b3, d2⟩ := int_get hr (show p < n' by omega)
      have hxb := Pl.allIn_at hrb.2.1 hx2
      have hn11 : n' = 11 := by omega
      have d1' := below_some hbw d1
      have d2' := below_some hbw d2
      have HN := Lib.hid (Pl.guessTo_next (name := name.data.toList) hx (x := x) (by rw [hp]; exact hx2))
      have HP := Lib.hid hp
      have hp11 : p < 11 := by omega
      subst hn11
      clear hp hrb hx hx2 hrl hpb d1 d2 hr
      by_cases hlt2 : x < Pl.guessTo s.Rows name.data.toList k
      all_goals
        go_wp2_with (go_at_call 82; refine (placeIn_c _ _ _ (by omega) (by omega) hs).mono ?_; rintro e w' ⟨rfl, rfl⟩; rw [HP.out])
        go_roundg (n - (k + 1))
        case measure => omega
        case rel => exact ⟨rfl, k + 1, Nat.le_refl _, by omega, by go_num, by rw [HN.out]; first | (rw [if_pos hlt2]; done) | (rw [if_neg hlt2]; done) | go_num⟩
    · have HE : Hid (Pl.guessTo s.Rows name.data.toList k = Pl.guessTo s.Rows name.data.toList s.Rows.length) := by show _ = _; rw [hlen.out, show k = n by omega]
      go_wp2
      rw [← HE.out]
      go_ret2
      exact ⟨rfl, hbw⟩
set_option maxRecDepth 100000 in
set_option maxHeartbeats 1000000 in
theorem specGuessOf_c (s : Sketch) (cs : List Value) (name : ByteArray) (w : World) (B : Nat) (hh : sk.at_ w B s cs) (hB : B ≤ w.heap.size) (hs : name.size ≤ maxLen) :
    Calls Try.prog 38 #[.agg cs.toArray, .string name] w fun e w' => e = Pl.ret2 (Pl.guessOf s name) ∧ Below w.heap.size w w' := by
  have HH := Lib.hid hh
  obtain ⟨A, n, c, rfl, h0, g0⟩ := sk_at hh
  have hlen := Lib.hid h0.1
  have hn : n ≤ 9223372036854775807 := by have := h0.2.1; have := h0.2.2.1; unfold maxLen at this; omega
  have HL := Lib.hid h0
  have HB := Lib.hid (Below.heap_alloc w (.cells #[.slice A n c, .int .i64 s.Total] 26))
  have HLa := Lib.hid (h0.keep (w' := w.alloc (.cells #[.slice A n c, .int .i64 s.Total] 26)) fun b hb => HB.out b (by omega))
  clear h0 hh
  have HHa := Lib.hid (sk.keep HH.out fun b hb => HB.out b (by omega))
  cases hk : Pl.sketchOk s
  · have HF : Hid (Pl.guessOf s name = (0, false)) := if_neg (by rw [hk]; simp)
    rw [HF.out]
    go_enter Try.func38, Try.ntmps38
    go_wp2_with (go_at_call 43; refine (specGoodSketch_c s [.slice A n c, .int .i64 s.Total] _ B HHa.out (by rw [Mm.sz1]; omega)).mono ?_; rintro e w1 ⟨rfl, hb1⟩)
    go_ret2
    exact ⟨rfl, below_step (below_new (Below.refl _ _) _) hb1⟩
  cases hw : Pl.word false name.data.toList
  · have HF : Hid (Pl.guessOf s name = (0, false)) := if_neg (by rw [hw]; simp)
    rw [HF.out]
    go_enter Try.func38, Try.ntmps38
    go_wp2_with first
      | (go_at_call 43; refine (specGoodSketch_c s [.slice A n c, .int .i64 s.Total] _ B HHa.out (by rw [Mm.sz1]; omega)).mono ?_; rintro e w1 ⟨rfl, hb1⟩)
      | (go_at_call 66; refine (l3Name_c _ _ _ hs).mono ?_; rintro e w' ⟨rfl, rfl⟩)
    go_ret2
    exact ⟨rfl, below_step (below_new (Below.refl _ _) _) hb1⟩
  have HF : Hid (Pl.guessOf s name = (Pl.guessTo s.Rows name.data.toList s.Rows.length, true)) := if_pos (by rw [hk, hw]; rfl)
  have HRB := Lib.hid (fun (k : Nat) (r : List Int) (hr : s.Rows[k]? = some r) => Pl.rows_bd hk hr)
  have hn3 : 1 ≤ n ∧ n ≤ 3 := by
    unfold Pl.sketchOk at hk
    rw [Bool.and_eq_true, Pl.isIn_iff, hlen.out] at hk
    omega
  have KB0 := Lib.hid (Mm.Blk.new w 26 [.slice A n c, .int .i64 s.Total])
  rw [HF.out]
  obtain ⟨r0, b0, off, A0', n0', c0', hx0, rfl, hb0, hr0, d00⟩ := ints_get HL.out (show 0 < n by omega)
  have hrb0 := HRB.out 0 r0 hx0
  have hpb0 := Pl.place_bd 0 name.data.toList
  obtain ⟨p0, hp0⟩ : ∃ p : Nat, Pl.place 0 name.data.toList = p := ⟨(Pl.place 0 name.data.toList).toNat, by omega⟩
  have hrl0 := hr0.1
  obtain ⟨x0, b20, off20, hx20, rfl, hb20, b30, d20⟩ := int_get hr0 (show p0 < n0' by omega)
  have hxb0 := Pl.allIn_at hrb0.2.1 hx20
  have hn110 : n0' = 11 := by omega
  have HN0 : Hid (x0 = Pl.guessTo s.Rows name.data.toList (max 0 1)) := by
    show _ = _
    have h1 := Pl.guessTo_next (name := name.data.toList) hx0 (x := x0) (by show r0[(Pl.place 0 name.data.toList).toNat]? = _; rw [hp0]; exact hx20)
    rw [show max 0 1 = 0 + 1 by rfl, h1]
    show x0 = if x0 < (100000 : Int) then x0 else 100000
    split <;> omega
  have HP0 := Lib.hid hp0
  have hp011 : p0 < 11 := by omega
  subst hn110
  have d0 : w.cell? ⟨b0, off, none⟩ = some (.slice (some ⟨b20, off20, none⟩) 11 c0') := by simpa using d00
  clear hp0 hrb0 hx0 hx20 hrl0 hpb0 hr0 d00
  go_enter Try.func38, Try.ntmps38
  go_wp2_with first
    | (go_at_call 43; refine (specGoodSketch_c s [.slice (some ⟨b0, off, none⟩) n c, .int .i64 s.Total] _ B HHa.out (by rw [Mm.sz1]; omega)).mono ?_; rintro e w1 ⟨rfl, hb1⟩; have KB := Lib.hid (KB0.out.bel hb1); have q0 := KB.out.cell (i := 0) rfl; have hbw := below_step (below_new (Below.refl _ _) _) hb1; have d0' := below_some hbw d0; have d20' := below_some hbw d20)
    | (go_at_call 66; refine (l3Name_c _ _ _ hs).mono ?_; rintro e w' ⟨rfl, rfl⟩)
  clear hb1
  refine wp_region_und (by kernel_rfl) (by kernel_rfl) ?_
  repeat (go_big_quiet_step ((first | (go_at_call 88; exact und_same _ ((l15Place_c 0 _ _ (by omega) (by omega) hs).mono (by rintro e w' ⟨rfl, rfl⟩; rw [HP0.out]; exact ⟨rfl, rfl⟩))))))
  refine wpQuiet_nil ?_
  intro X hX
  have HT := Lib.hid (below_step hbw hX)
  have KX := Lib.hid (KB.out.bel hX)
  have q0' := KX.out.cell (i := 0) rfl
  go_wp2
  go_loopg [6, 29] n (fun g t i wr => wr = X ∧ ∃ (k : Nat) (z : Int), n - k ≤ g ∧ k ≤ n ∧ i = .int .i64 k ∧ t = .int .i64 z ∧ Hid (z = Pl.guessTo s.Rows name.data.toList (max k 1)))
  case atStart => exact ⟨rfl, 0, x0, Nat.le_refl _, Nat.zero_le _, rfl, rfl, HN0.out⟩
  case round =>
    obtain ⟨rfl, k, z, hgk, hk', rfl, rfl, HZ⟩ := hrel
    by_cases hlt : k < n
    · obtain ⟨r, A', n', c', hx, hb, hr, d1⟩ := ints_get' HL.out hlt
      have hrb := HRB.out k r hx
      have hpb := Pl.place_bd k name.data.toList
      obtain ⟨p, hp⟩ : ∃ p : Nat, Pl.place k name.data.toList = p := ⟨(Pl.place k name.data.toList).toNat, by omega⟩
      have hrl := hr.1
      obtain ⟨x, b2, off2, hx2, rfl, hb2, b3, d2⟩ := int_get hr (show p < n' by omega)
      have hxb := Pl.allIn_at hrb.2.1 hx2
      have hn11 : n' = 11 := by omega
      have d1' := below_some HT.out d1
      have d2' := below_some HT.out d2
      have HN := Lib.hid (Pl.guess_step HZ.out (Pl.guessTo_next (name := name.data.toList) hx (x := x) (by rw [hp]; exact hx2)) hxb.2)
      have HP := Lib.hid hp
      have hp11 : p < 11 := by omega
      subst hn11
      clear hp hrb hx hx2 hrl hpb d1 d2 hr
      by_cases hlt2 : x < z
      all_goals
        go_wp2_with (go_at_call 88; refine (l15Place_c _ _ _ (by omega) (by omega) hs).mono ?_; rintro e w' ⟨rfl, rfl⟩; rw [HP.out])
        go_roundg (n - (k + 1))
        case measure => omega
        case rel => exact ⟨rfl, k + 1, _, Nat.le_refl _, by omega, by go_num, rfl, by first | exact HN.out.1 hlt2 | exact HN.out.2 hlt2⟩
    · have HE : Hid (z = Pl.guessTo s.Rows name.data.toList s.Rows.length) := by show _ = _; rw [HZ.out, hlen.out, show max k 1 = n by omega]
      go_wp2
      rw [← HE.out]
      go_ret2
      exact ⟨rfl, HT.out⟩
end Go.Proofs.Ytjmcbggdckfefaa
