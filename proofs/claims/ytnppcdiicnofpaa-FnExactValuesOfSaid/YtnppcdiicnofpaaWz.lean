/-
  Contracts: the values of totals. No conditions.
-/
import Derived.Test.YtnppcdiicnofpaaWx
import Derived.Test.YtnppcdiicnofpaaAc
namespace Go.Proofs.Ytnppcdiicnofpaa
open Go.RowKit
attribute [local go_sem] und_cell World.cell?_alloc_some
theorem Try.infoVi : (Try.prog.info? 3).map (fun i => (i.zero, i.size, i.bytes)) = some (some (.int .i64 0), 1, 8) := by kernel_rfl
theorem Mm.Acc.ret1 {α : Type} {E : Mm.Rep α} {t : TypeId} {w wr : World} {xs : List α} {A : Option Addr} {n c : Nat} (h : Mm.Acc E t w xs (.slice A n c) wr) : Mm.NewSl E t w xs (.returned (.slice A n c)) wr := by
  obtain ⟨fp, h1, h2, h3, h4⟩ := h
  exact ⟨A, n, c, fp, rfl, h1, h2, h3, h4⟩
set_option maxRecDepth 100000 in
set_option maxHeartbeats 2000000 in
theorem totalValues_c (l : List Total) (op : Int) (A : Option Addr) (n c : Nat) (w : World) (B : Nat) (hl : Mm.SlAt rTotal w B l A n c) (hB : B ≤ w.heap.size) (hop : 1 ≤ op ∧ op ≤ 4) (hn : n ≤ 40) :
    Calls Try.prog 53 #[.slice A n c, .int .i64 op] w (Mm.NewSl Mm.int 3 w (Pl.totalValues l op)) := by
  have hlen : Hid (l.length = n) := hl.1
  have HL := Lib.hid hl
  have hop' : op = 1 ∨ op = 2 ∨ op = 3 ∨ op = 4 := by omega
  have HOP := Lib.hid hop'
  clear hl hop hop'
  obtain ⟨i0, hi, hz0, hz1, hz2⟩ := info_parts Try.infoVi
  go_enter Try.func53, Try.ntmps53
  go_wp2
  go_loopg [5, 10] n (fun g o i wr => ∃ k : Nat, n - k ≤ g ∧ k ≤ n ∧ i = .int .i64 k ∧ Mm.Acc Mm.int 3 w (Pl.totalValues (l.take k) op) o wr)
  case atStart => exact ⟨0, Nat.le_refl _, Nat.zero_le _, rfl, Mm.Acc.nil (Below.refl _ _)⟩
  case round =>
    obtain ⟨k, hgk, hk, rfl, hacc⟩ := hrel
    obtain ⟨W, rfl⟩ : ∃ W : World, W = wr := ⟨_, rfl⟩
    have hbel := hacc.bel
    have hsw := hbel.size
    obtain ⟨A', n', c', rfl, hn', -, -, -⟩ := hacc.form
    have hnk : n' = k := by rw [hn']; unfold Pl.totalValues; rw [List.length_map, List.length_take]; have := hlen.out; omega
    subst hnk
    have HA := Lib.hid hacc
    have HLw := Lib.hid (HL.out.keep fun b hb' => hbel.block b (Nat.lt_of_lt_of_le hb' hB))
    have HNL : Hid (n' = (Pl.totalValues (l.take n') op).length) := hn'
    clear hacc hbel hn'
    by_cases hlt : n' < n
    · obtain ⟨x, b0, off, A1, n1, c1, hx, rfl, hbb, hlx, g1, g2, g3, g4, d0, d1, d2, d3, d4⟩ := rTotal_get HLw.out hlt
      have hlt' : (n' : Int) < (n : Nat) := by omega
      have hlt2 : (0 : Int) ≤ (n' : Nat) := by omega
      have HN : Hid (Pl.totalValues (l.take (n' + 1)) op = Pl.totalValues (l.take n') op ++ [Pl.totVal x op]) := by
        obtain ⟨hk', hg⟩ := List.getElem?_eq_some_iff.1 hx
        show _ = _
        unfold Pl.totalValues
        rw [List.take_succ_eq_append_getElem hk', hg, List.map_append]; rfl
      obtain ⟨xL, xS, xC, xA, xM⟩ := x
      dsimp only at g1 g2 g3 g4 d0 d1 d2 d3 d4
      clear hx hlx
      rcases HOP.out with rfl | rfl | rfl | rfl
      · have HV : Hid (Pl.totVal ⟨xL, xS, xC, xA, xM⟩ 1 = xS) := rfl
        rw [HV.out] at HN
        obtain ⟨l0, ho, hnext⟩ := HA.out.push (W2 := (W.alloc (.cells #[.slice A1 n1 c1, .int .i64 xS, .int .i64 xC, .int .i64 xA, .int .i64 xM] 50)).alloc (.cells #[.int .i64 xS] 3)) (below_new (below_new (Below.refl _ _) _) _) (x := xS) (cx := [.int .i64 xS]) (fx := []) ⟨rfl, g1, rfl⟩ List.nodup_nil (fun b hb => by cases hb)
        rw [← HNL.out] at ho hnext
        have HNX := Lib.hid hnext
        have HO := Lib.hid ho
        clear ho hnext HV
        have hix : ∀ W' : World, (Instr.index 107 (.agg #[.int .i64 xS, .int .i64 xC, .int .i64 xA, .int .i64 xM]) (.int .i64 0)).run Try.prog W' = .ok (.int .i64 xS) W' := fun W' => by kernel_rfl
        go_wp2_with (at_builtin; refine wpList_append_lies _ (by rfl) _ _ _ (by rfl) 0 3 i0 _ 1 8 Try.underlying24 hi hz0 hz1 hz2 rfl (by omega) _ n' l0 (by rfl) HO.out ⟨W.heap.size + 1, 0, none⟩ 1 1 [.int .i64 xS] (by rfl) (by rfl) (World.news_of_block (B := W.heap.size + 1) (cs := #[.int .i64 xS]) (t := 3) (fr := (0, 0)) (Mm.heap_new _ (Mm.sz1 _ _) _)) (by simp [Value.oneCell']) (by omega) (by unfold maxLen; omega) (by omega) (Nat.zero_le _) _ rfl ?_; intro gg cap w2 hown1 hgrow hat hlt9; have HAC := Lib.hid (HNX.out gg cap w2 hown1 hgrow hat); clear hown1 hgrow hat hlt9)
        go_roundg (n - (n' + 1))
        case measure => omega
        case rel => exact ⟨n' + 1, Nat.le_refl _, by omega, by go_num, by rw [HN.out]; exact HAC.out⟩
      · have HV : Hid (Pl.totVal ⟨xL, xS, xC, xA, xM⟩ 2 = xC) := rfl
        rw [HV.out] at HN
        obtain ⟨l0, ho, hnext⟩ := HA.out.push (W2 := (W.alloc (.cells #[.slice A1 n1 c1, .int .i64 xS, .int .i64 xC, .int .i64 xA, .int .i64 xM] 50)).alloc (.cells #[.int .i64 xC] 3)) (below_new (below_new (Below.refl _ _) _) _) (x := xC) (cx := [.int .i64 xC]) (fx := []) ⟨rfl, g2, rfl⟩ List.nodup_nil (fun b hb => by cases hb)
        rw [← HNL.out] at ho hnext
        have HNX := Lib.hid hnext
        have HO := Lib.hid ho
        clear ho hnext HV
        have hix : ∀ W' : World, (Instr.index 107 (.agg #[.int .i64 xS, .int .i64 xC, .int .i64 xA, .int .i64 xM]) (.int .i64 1)).run Try.prog W' = .ok (.int .i64 xC) W' := fun W' => by kernel_rfl
        go_wp2_with (at_builtin; refine wpList_append_lies _ (by rfl) _ _ _ (by rfl) 0 3 i0 _ 1 8 Try.underlying24 hi hz0 hz1 hz2 rfl (by omega) _ n' l0 (by rfl) HO.out ⟨W.heap.size + 1, 0, none⟩ 1 1 [.int .i64 xC] (by rfl) (by rfl) (World.news_of_block (B := W.heap.size + 1) (cs := #[.int .i64 xC]) (t := 3) (fr := (0, 0)) (Mm.heap_new _ (Mm.sz1 _ _) _)) (by simp [Value.oneCell']) (by omega) (by unfold maxLen; omega) (by omega) (Nat.zero_le _) _ rfl ?_; intro gg cap w2 hown1 hgrow hat hlt9; have HAC := Lib.hid (HNX.out gg cap w2 hown1 hgrow hat); clear hown1 hgrow hat hlt9)
        go_roundg (n - (n' + 1))
        case measure => omega
        case rel => exact ⟨n' + 1, Nat.le_refl _, by omega, by go_num, by rw [HN.out]; exact HAC.out⟩
      · have HV : Hid (Pl.totVal ⟨xL, xS, xC, xA, xM⟩ 3 = xA) := rfl
        rw [HV.out] at HN
        obtain ⟨l0, ho, hnext⟩ := HA.out.push (W2 := (W.alloc (.cells #[.slice A1 n1 c1, .int .i64 xS, .int .i64 xC, .int .i64 xA, .int .i64 xM] 50)).alloc (.cells #[.int .i64 xA] 3)) (below_new (below_new (Below.refl _ _) _) _) (x := xA) (cx := [.int .i64 xA]) (fx := []) ⟨rfl, g3, rfl⟩ List.nodup_nil (fun b hb => by cases hb)
        rw [← HNL.out] at ho hnext
        have HNX := Lib.hid hnext
        have HO := Lib.hid ho
        clear ho hnext HV
        have hix : ∀ W' : World, (Instr.index 107 (.agg #[.int .i64 xS, .int .i64 xC, .int .i64 xA, .int .i64 xM]) (.int .i64 2)).run Try.prog W' = .ok (.int .i64 xA) W' := fun W' => by kernel_rfl
        go_wp2_with (at_builtin; refine wpList_append_lies _ (by rfl) _ _ _ (by rfl) 0 3 i0 _ 1 8 Try.underlying24 hi hz0 hz1 hz2 rfl (by omega) _ n' l0 (by rfl) HO.out ⟨W.heap.size + 1, 0, none⟩ 1 1 [.int .i64 xA] (by rfl) (by rfl) (World.news_of_block (B := W.heap.size + 1) (cs := #[.int .i64 xA]) (t := 3) (fr := (0, 0)) (Mm.heap_new _ (Mm.sz1 _ _) _)) (by simp [Value.oneCell']) (by omega) (by unfold maxLen; omega) (by omega) (Nat.zero_le _) _ rfl ?_; intro gg cap w2 hown1 hgrow hat hlt9; have HAC := Lib.hid (HNX.out gg cap w2 hown1 hgrow hat); clear hown1 hgrow hat hlt9)
        go_roundg (n - (n' + 1))
        case measure => omega
        case rel => exact ⟨n' + 1, Nat.le_refl _, by omega, by go_num, by rw [HN.out]; exact HAC.out⟩
      · have HV : Hid (Pl.totVal ⟨xL, xS, xC, xA, xM⟩ 4 = xM) := rfl
        rw [HV.out] at HN
        obtain ⟨l0, ho, hnext⟩ := HA.out.push (W2 := (W.alloc (.cells #[.slice A1 n1 c1, .int .i64 xS, .int .i64 xC, .int .i64 xA, .int .i64 xM] 50)).alloc (.cells #[.int .i64 xM] 3)) (below_new (below_new (Below.refl _ _) _) _) (x := xM) (cx := [.int .i64 xM]) (fx := []) ⟨rfl, g4, rfl⟩ List.nodup_nil (fun b hb => by cases hb)
        rw [← HNL.out] at ho hnext
        have HNX := Lib.hid hnext
        have HO := Lib.hid ho
        clear ho hnext HV
        have hix : ∀ W' : World, (Instr.index 107 (.agg #[.int .i64 xS, .int .i64 xC, .int .i64 xA, .int .i64 xM]) (.int .i64 3)).run Try.prog W' = .ok (.int .i64 xM) W' := fun W' => by kernel_rfl
        go_wp2_with (at_builtin; refine wpList_append_lies _ (by rfl) _ _ _ (by rfl) 0 3 i0 _ 1 8 Try.underlying24 hi hz0 hz1 hz2 rfl (by omega) _ n' l0 (by rfl) HO.out ⟨W.heap.size + 1, 0, none⟩ 1 1 [.int .i64 xM] (by rfl) (by rfl) (World.news_of_block (B := W.heap.size + 1) (cs := #[.int .i64 xM]) (t := 3) (fr := (0, 0)) (Mm.heap_new _ (Mm.sz1 _ _) _)) (by simp [Value.oneCell']) (by omega) (by unfold maxLen; omega) (by omega) (Nat.zero_le _) _ rfl ?_; intro gg cap w2 hown1 hgrow hat hlt9; have HAC := Lib.hid (HNX.out gg cap w2 hown1 hgrow hat); clear hown1 hgrow hat hlt9)
        go_roundg (n - (n' + 1))
        case measure => omega
        case rel => exact ⟨n' + 1, Nat.le_refl _, by omega, by go_num, by rw [HN.out]; exact HAC.out⟩
    · obtain rfl : n' = n := by omega
      have HT : Hid (l.take n' = l) := List.take_of_length_le (by rw [hlen.out]; exact Nat.le_refl _)
      have hlt' : ¬ (n' : Int) < (n' : Nat) := by omega
      have HR := Lib.hid HA.out.ret1
      rw [HT.out] at HR
      go_wp2
      go_ret
      exact HR.out
set_option maxRecDepth 100000 in
set_option maxHeartbeats 2000000 in
theorem l14Values_c (l : List Total) (op : Int) (A : Option Addr) (n c : Nat) (w : World) (B : Nat) (hl : Mm.SlAt rTotal w B l A n c) (hB : B ≤ w.heap.size) (hop : 1 ≤ op ∧ op ≤ 4) (hn : n ≤ 40) :
    Calls Try.prog 49 #[.slice A n c, .int .i64 op] w (Mm.NewSl Mm.int 3 w (Pl.totalValues l op)) := by
  have hlen : Hid (l.length = n) := hl.1
  have HL := Lib.hid hl
  have hop' : op = 1 ∨ op = 2 ∨ op = 3 ∨ op = 4 := by omega
  have HOP := Lib.hid hop'
  clear hl hop hop'
  obtain ⟨i0, hi, hz0, hz1, hz2⟩ := info_parts Try.infoVi
  go_enter Try.func49, Try.ntmps49
  go_wp2
  go_loopg [5, 11] n (fun g o i wr => ∃ k : Nat, n - k ≤ g ∧ k ≤ n ∧ i = .int .i64 k ∧ Mm.Acc Mm.int 3 w (Pl.totalValues (l.take k) op) o wr)
  case atStart => exact ⟨0, Nat.le_refl _, Nat.zero_le _, rfl, Mm.Acc.nil (Below.refl _ _)⟩
  case round =>
    obtain ⟨k, hgk, hk, rfl, hacc⟩ := hrel
    obtain ⟨W, rfl⟩ : ∃ W : World, W = wr := ⟨_, rfl⟩
    have hbel := hacc.bel
    have hsw := hbel.size
    obtain ⟨A', n', c', rfl, hn', -, -, -⟩ := hacc.form
    have hnk : n' = k := by rw [hn']; unfold Pl.totalValues; rw [List.length_map, List.length_take]; have := hlen.out; omega
    subst hnk
    have HA := Lib.hid hacc
    have HLw := Lib.hid (HL.out.keep fun b hb' => hbel.block b (Nat.lt_of_lt_of_le hb' hB))
    have HNL : Hid (n' = (Pl.totalValues (l.take n') op).length) := hn'
    clear hacc hbel hn'
    by_cases hlt : n' < n
    · obtain ⟨x, b0, off, A1, n1, c1, hx, rfl, hbb, hlx, g1, g2, g3, g4, d0, d1, d2, d3, d4⟩ := rTotal_get HLw.out hlt
      have hlt' : (n' : Int) < (n : Nat) := by omega
      have hlt2 : (0 : Int) ≤ (n' : Nat) := by omega
      have HN : Hid (Pl.totalValues (l.take (n' + 1)) op = Pl.totalValues (l.take n') op ++ [Pl.totVal x op]) := by
        obtain ⟨hk', hg⟩ := List.getElem?_eq_some_iff.1 hx
        show _ = _
        unfold Pl.totalValues
        rw [List.take_succ_eq_append_getElem hk', hg, List.map_append]; rfl
      obtain ⟨xL, xS, xC, xA, xM⟩ := x
      dsimp only at g1 g2 g3 g4 d0 d1 d2 d3 d4
      clear hx hlx
      rcases HOP.out with rfl | rfl | rfl | rfl
      · have HV : Hid (Pl.totVal ⟨xL, xS, xC, xA, xM⟩ 1 = xS) := rfl
        rw [HV.out] at HN
        obtain ⟨l0, ho, hnext⟩ := HA.out.push (W2 := (W.alloc (.cells #[.slice A1 n1 c1, .int .i64 xS, .int .i64 xC, .int .i64 xA, .int .i64 xM] 50)).alloc (.cells #[.int .i64 xS] 3)) (below_new (below_new (Below.refl _ _) _) _) (x := xS) (cx := [.int .i64 xS]) (fx := []) ⟨rfl, g1, rfl⟩ List.nodup_nil (fun b hb => by cases hb)
        rw [← HNL.out] at ho hnext
        have HNX := Lib.hid hnext
        have HO := Lib.hid ho
        clear ho hnext HV
        have hix : ∀ W' : World, (Instr.index 107 (.agg #[.int .i64 xS, .int .i64 xC, .int .i64 xA, .int .i64 xM]) (.int .i64 0)).run Try.prog W' = .ok (.int .i64 xS) W' := fun W' => by kernel_rfl
        go_wp2_with (at_builtin; refine wpList_append_lies _ (by rfl) _ _ _ (by rfl) 0 3 i0 _ 1 8 Try.underlying24 hi hz0 hz1 hz2 rfl (by omega) _ n' l0 (by rfl) HO.out ⟨W.heap.size + 1, 0, none⟩ 1 1 [.int .i64 xS] (by rfl) (by rfl) (World.news_of_block (B := W.heap.size + 1) (cs := #[.int .i64 xS]) (t := 3) (fr := (0, 0)) (Mm.heap_new _ (Mm.sz1 _ _) _)) (by simp [Value.oneCell']) (by omega) (by unfold maxLen; omega) (by omega) (Nat.zero_le _) _ rfl ?_; intro gg cap w2 hown1 hgrow hat hlt9; have HAC := Lib.hid (HNX.out gg cap w2 hown1 hgrow hat); clear hown1 hgrow hat hlt9)
        go_roundg (n - (n' + 1))
        case measure => omega
        case rel => exact ⟨n' + 1, Nat.le_refl _, by omega, by go_num, by rw [HN.out]; exact HAC.out⟩
      · have HV : Hid (Pl.totVal ⟨xL, xS, xC, xA, xM⟩ 2 = xC) := rfl
        rw [HV.out] at HN
        obtain ⟨l0, ho, hnext⟩ := HA.out.push (W2 := (W.alloc (.cells #[.slice A1 n1 c1, .int .i64 xS, .int .i64 xC, .int .i64 xA, .int .i64 xM] 50)).alloc (.cells #[.int .i64 xC] 3)) (below_new (below_new (Below.refl _ _) _) _) (x := xC) (cx := [.int .i64 xC]) (fx := []) ⟨rfl, g2, rfl⟩ List.nodup_nil (fun b hb => by cases hb)
        rw [← HNL.out] at ho hnext
        have HNX := Lib.hid hnext
        have HO := Lib.hid ho
        clear ho hnext HV
        have hix : ∀ W' : World, (Instr.index 107 (.agg #[.int .i64 xS, .int .i64 xC, .int .i64 xA, .int .i64 xM]) (.int .i64 1)).run Try.prog W' = .ok (.int .i64 xC) W' := fun W' => by kernel_rfl
        go_wp2_with (at_builtin; refine wpList_append_lies _ (by rfl) _ _ _ (by rfl) 0 3 i0 _ 1 8 Try.underlying24 hi hz0 hz1 hz2 rfl (by omega) _ n' l0 (by rfl) HO.out ⟨W.heap.size + 1, 0, none⟩ 1 1 [.int .i64 xC] (by rfl) (by rfl) (World.news_of_block (B := W.heap.size + 1) (cs := #[.int .i64 xC]) (t := 3) (fr := (0, 0)) (Mm.heap_new _ (Mm.sz1 _ _) _)) (by simp [Value.oneCell']) (by omega) (by unfold maxLen; omega) (by omega) (Nat.zero_le _) _ rfl ?_; intro gg cap w2 hown1 hgrow hat hlt9; have HAC := Lib.hid (HNX.out gg cap w2 hown1 hgrow hat); clear hown1 hgrow hat hlt9)
        go_roundg (n - (n' + 1))
        case measure => omega
        case rel => exact ⟨n' + 1, Nat.le_refl _, by omega, by go_num, by rw [HN.out]; exact HAC.out⟩
      · have HV : Hid (Pl.totVal ⟨xL, xS, xC, xA, xM⟩ 3 = xA) := rfl
        rw [HV.out] at HN
        obtain ⟨l0, ho, hnext⟩ := HA.out.push (W2 := (W.alloc (.cells #[.slice A1 n1 c1, .int .i64 xS, .int .i64 xC, .int .i64 xA, .int .i64 xM] 50)).alloc (.cells #[.int .i64 xA] 3)) (below_new (below_new (Below.refl _ _) _) _) (x := xA) (cx := [.int .i64 xA]) (fx := []) ⟨rfl, g3, rfl⟩ List.nodup_nil (fun b hb => by cases hb)
        rw [← HNL.out] at ho hnext
        have HNX := Lib.hid hnext
        have HO := Lib.hid ho
        clear ho hnext HV
        have hix : ∀ W' : World, (Instr.index 107 (.agg #[.int .i64 xS, .int .i64 xC, .int .i64 xA, .int .i64 xM]) (.int .i64 2)).run Try.prog W' = .ok (.int .i64 xA) W' := fun W' => by kernel_rfl
        go_wp2_with (at_builtin; refine wpList_append_lies _ (by rfl) _ _ _ (by rfl) 0 3 i0 _ 1 8 Try.underlying24 hi hz0 hz1 hz2 rfl (by omega) _ n' l0 (by rfl) HO.out ⟨W.heap.size + 1, 0, none⟩ 1 1 [.int .i64 xA] (by rfl) (by rfl) (World.news_of_block (B := W.heap.size + 1) (cs := #[.int .i64 xA]) (t := 3) (fr := (0, 0)) (Mm.heap_new _ (Mm.sz1 _ _) _)) (by simp [Value.oneCell']) (by omega) (by unfold maxLen; omega) (by omega) (Nat.zero_le _) _ rfl ?_; intro gg cap w2 hown1 hgrow hat hlt9; have HAC := Lib.hid (HNX.out gg cap w2 hown1 hgrow hat); clear hown1 hgrow hat hlt9)
        go_roundg (n - (n' + 1))
        case measure => omega
        case rel => exact ⟨n' + 1, Nat.le_refl _, by omega, by go_num, by rw [HN.out]; exact HAC.out⟩
      · have HV : Hid (Pl.totVal ⟨xL, xS, xC, xA, xM⟩ 4 = xM) := rfl
        rw [HV.out] at HN
        obtain ⟨l0, ho, hnext⟩ := HA.out.push (W2 := (W.alloc (.cells #[.slice A1 n1 c1, .int .i64 xS, .int .i64 xC, .int .i64 xA, .int .i64 xM] 50)).alloc (.cells #[.int .i64 xM] 3)) (below_new (below_new (Below.refl _ _) _) _) (x := xM) (cx := [.int .i64 xM]) (fx := []) ⟨rfl, g4, rfl⟩ List.nodup_nil (fun b hb => by cases hb)
        rw [← HNL.out] at ho hnext
        have HNX := Lib.hid hnext
        have HO := Lib.hid ho
        clear ho hnext HV
        have hix : ∀ W' : World, (Instr.index 107 (.agg #[.int .i64 xS, .int .i64 xC, .int .i64 xA, .int .i64 xM]) (.int .i64 3)).run Try.prog W' = .ok (.int .i64 xM) W' := fun W' => by kernel_rfl
        go_wp2_with (at_builtin; refine wpList_append_lies _ (by rfl) _ _ _ (by rfl) 0 3 i0 _ 1 8 Try.underlying24 hi hz0 hz1 hz2 rfl (by omega) _ n' l0 (by rfl) HO.out ⟨W.heap.size + 1, 0, none⟩ 1 1 [.int .i64 xM] (by rfl) (by rfl) (World.news_of_block (B := W.heap.size + 1) (cs := #[.int .i64 xM]) (t := 3) (fr := (0, 0)) (Mm.heap_new _ (Mm.sz1 _ _) _)) (by simp [Value.oneCell']) (by omega) (by unfold maxLen; omega) (by omega) (Nat.zero_le _) _ rfl ?_; intro gg cap w2 hown1 hgrow hat hlt9; have HAC := Lib.hid (HNX.out gg cap w2 hown1 hgrow hat); clear hown1 hgrow hat hlt9)
        go_roundg (n - (n' + 1))
        case measure => omega
        case rel => exact ⟨n' + 1, Nat.le_refl _, by omega, by go_num, by rw [HN.out]; exact HAC.out⟩
    · obtain rfl : n' = n := by omega
      have HT : Hid (l.take n' = l) := List.take_of_length_le (by rw [hlen.out]; exact Nat.le_refl _)
      have hlt' : ¬ (n' : Int) < (n' : Nat) := by omega
      have HR := Lib.hid HA.out.ret1
      rw [HT.out] at HR
      go_wp2
      go_ret
      exact HR.out
set_option maxRecDepth 100000 in
theorem implValuesOf_c (l : List Total) (A : Option Addr) (n c : Nat) (op : Int) (w : World) (B : Nat) (hl : Mm.SlAt rTotal w B l A n c) (hB : B ≤ w.heap.size) :
    Calls Try.prog 12 #[.slice A n c, .int .i64 op] w (Mm.RetS2 Mm.int 3 w (Pl.valuesOf l op).1 (Pl.valuesOf l op).2) := by
  have hlen : Hid (l.length = n) := hl.1
  have HL := Lib.hid hl
  clear hl
  cases hc : Pl.totalsOk l
  · have HF : Hid (Pl.valuesOf l op = ([], false)) := if_neg (by rw [hc]; simp)
    go_enter Try.func12, Try.ntmps12
    go_wp2_with (go_at_call 51; refine (areTotals_c l _ _ _ _ B HL.out hB).mono ?_; rintro e w1 ⟨rfl, hb1⟩)
    rw [HF.out]
    go_ret2
    exact (Mm.Acc.nil hb1).ret
  cases hp : Pl.isIn op 1 4
  · have HF : Hid (Pl.valuesOf l op = ([], false)) := if_neg (by rw [hp]; simp)
    go_enter Try.func12, Try.ntmps12
    go_wp2_with first
      | (go_at_call 51; refine (areTotals_c l _ _ _ _ B HL.out hB).mono ?_; rintro e w1 ⟨rfl, hb1⟩)
      | (go_at_call 52; refine (within_c _ _ _ _).mono ?_; rintro e w2 ⟨rfl, rfl⟩)
    rw [HF.out]
    go_ret2
    exact (Mm.Acc.nil hb1).ret
  have HF : Hid (Pl.valuesOf l op = (Pl.totalValues l op, true)) := if_pos (by rw [hc, hp]; rfl)
  have hpb := Pl.isIn_iff.1 hp
  have hn : n ≤ 40 := by have := Pl.totalsOk_len hc; have := hlen.out; omega
  rw [HF.out]
  go_enter Try.func12, Try.ntmps12
  go_wp2_with first
    | (go_at_call 51; refine (areTotals_c l _ _ _ _ B HL.out hB).mono ?_; rintro e w1 ⟨rfl, hb1⟩)
    | (go_at_call 52; refine (within_c _ _ _ _).mono ?_; rintro e w2 ⟨rfl, rfl⟩)
    | (go_at_call 53; refine (totalValues_c l op _ _ _ _ B (HL.out.keep fun b hb' => hb1.block b (Nat.lt_of_lt_of_le hb' hB)) (Nat.le_trans hB hb1.size) hpb hn).mono ?_; rintro e w3 ⟨A3, n3, c3, f3, rfl, k1, k2, k3, k4⟩)
  go_ret2
  exact ⟨A3, n3, c3, f3, rfl, k1, k2, fun b hb => Nat.le_trans hb1.size (k3 b hb), below_step hb1 k4⟩
set_option maxRecDepth 100000 in
theorem specValuesOf_c (l : List Total) (A : Option Addr) (n c : Nat) (op : Int) (w : World) (B : Nat) (hl : Mm.SlAt rTotal w B l A n c) (hB : B ≤ w.heap.size) :
    Calls Try.prog 10 #[.slice A n c, .int .i64 op] w (Mm.RetS2 Mm.int 3 w (Pl.valuesOf l op).1 (Pl.valuesOf l op).2) := by
  have hlen : Hid (l.length = n) := hl.1
  have HL := Lib.hid hl
  clear hl
  cases hc : Pl.totalsOk l
  · have HF : Hid (Pl.valuesOf l op = ([], false)) := if_neg (by rw [hc]; simp)
    go_enter Try.func10, Try.ntmps10
    go_wp2_with (go_at_call 47; refine (GoodTotals_c l _ _ _ _ B HL.out hB).mono ?_; rintro e w1 ⟨rfl, hb1⟩)
    rw [HF.out]
    go_ret2
    exact (Mm.Acc.nil hb1).ret
  cases hp : Pl.isIn op 1 4
  · have HF : Hid (Pl.valuesOf l op = ([], false)) := if_neg (by rw [hp]; simp)
    go_enter Try.func10, Try.ntmps10
    go_wp2_with first
      | (go_at_call 47; refine (GoodTotals_c l _ _ _ _ B HL.out hB).mono ?_; rintro e w1 ⟨rfl, hb1⟩)
      | (go_at_call 48; refine (l1In_c _ _ _ _).mono ?_; rintro e w2 ⟨rfl, rfl⟩)
    rw [HF.out]
    go_ret2
    exact (Mm.Acc.nil hb1).ret
  have HF : Hid (Pl.valuesOf l op = (Pl.totalValues l op, true)) := if_pos (by rw [hc, hp]; rfl)
  have hpb := Pl.isIn_iff.1 hp
  have hn : n ≤ 40 := by have := Pl.totalsOk_len hc; have := hlen.out; omega
  rw [HF.out]
  go_enter Try.func10, Try.ntmps10
  go_wp2_with first
    | (go_at_call 47; refine (GoodTotals_c l _ _ _ _ B HL.out hB).mono ?_; rintro e w1 ⟨rfl, hb1⟩)
    | (go_at_call 48; refine (l1In_c _ _ _ _).mono ?_; rintro e w2 ⟨rfl, rfl⟩)
    | (go_at_call 49; refine (l14Values_c l op _ _ _ _ B (HL.out.keep fun b hb' => hb1.block b (Nat.lt_of_lt_of_le hb' hB)) (Nat.le_trans hB hb1.size) hpb hn).mono ?_; rintro e w3 ⟨A3, n3, c3, f3, rfl, k1, k2, k3, k4⟩)
  go_ret2
  exact ⟨A3, n3, c3, f3, rfl, k1, k2, fun b hb => Nat.le_trans hb1.size (k3 b hb), below_step hb1 k4⟩
end Go.Proofs.Ytnppcdiicnofpaa
