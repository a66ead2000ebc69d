/-
  Joined texts, in build order: Ix, Bx, Wc, Er, Sc, Am, Cg, Hd, Cm, Cb, Rw, Cc, Sw, Lo, Lp. Each part says what it proves; no conditions beyond those that a part names.
-/
import Derived.Test.YtnppcdiicnofpaaZ01
import Derived.Test.YtnppcdiicnofpaaZ02
import Derived.Test.YtnppcdiicnofpaaZ03
import Derived.Lib.Hide
import Derived.Deep.DeepCutAuto
import Derived.Deep.LoopGhost
import Derived.WalkSpells
import Derived.Deep.RegionLaw
import Derived.BigRegion
import Derived.Deep.CutBlock
/-
  Contracts: slices.Insert with one element, at totals. No conditions beyond those named.
-/
namespace Go.Proofs.Ytnppcdiicnofpaa
open Go.RowKit
theorem Mm.Chg.grown {g : Nat} {w w' : World} (h : Mm.Chg [g] w w') : w.grownBy w' (some g) := ⟨h.os, h.tape, h.output, h.size, fun k hk hn => h.block k hk (fun hm => hn (by rw [List.mem_singleton.1 hm]))⟩
theorem Mm.Chg.grown0 {row : Option Nat} {w w' : World} (h : Below w.heap.size w w') : w.grownBy w' row := ⟨h.os, h.tape, h.output, h.size, fun k hk _ => h.block k hk⟩
theorem Mm.zeroCells_len (z : Array Value) (m : Nat) : (Builtin.zeroCells z m).size = m * z.size := by simp [Builtin.zeroCells]
theorem Try.infoTot : (Try.prog.info? 50).map (fun i => (i.zero, i.size, i.bytes)) = some (some (.agg #[.slice none 0 0, .int .i64 0, .int .i64 0, .int .i64 0, .int .i64 0]), 5, 56) := by kernel_rfl
set_option maxRecDepth 100000 in
set_option maxHeartbeats 4000000 in
theorem insTotal_c (cells ct : List Value) (n k vb : Nat) (A : Option Addr) (c : Nat) (w : World) (ho : w.ownsRow 0 50 5 (.slice A n c) n cells) (hk : k ≤ n) (hn : n ≤ 1000) (hct : ct.length = 5) (hvs : ∀ j u, ct[j]? = some u → w.cell? ⟨vb, j, none⟩ = some u) (h1 : ∀ u ∈ ct, u.oneCell' = true) (h1c : ∀ u ∈ cells, u.oneCell' = true)
    (hvb : ∀ g, A = some ⟨g, 0, none⟩ → vb ≠ g) (hsh : w.shape? vb = some (50, 5)) (hfz : ∀ j, w.frozen? ⟨vb, j, none⟩ = false) (hvw : vb < w.heap.size) :
    Calls Try.prog 85 #[.slice A n c, .int .i64 k, .slice (some ⟨vb, 0, none⟩) 1 1] w fun e w' => ∃ A' n' c', e = .returned (.slice A' n' c') ∧ w'.ownsRow 0 50 5 (.slice A' n' c') (n + 1) (cells.take (k * 5) ++ (ct ++ cells.drop (k * 5))) ∧ w.grownBy w' (Value.slice A n c).ownBlock ∧ ((Value.slice A' n' c').ownBlock = (Value.slice A n c).ownBlock ∨ (Value.slice A' n' c').ownBlock = some w.heap.size) := by
  obtain ⟨i0, hi, hz0, hzs, hzb⟩ := info_parts Try.infoTot
  have hcl := ho.1
  by_cases hkn : k = n
  · subst hkn
    have e0 : cells.take (k * 5) ++ (ct ++ cells.drop (k * 5)) = cells ++ ct := by rw [List.take_of_length_le (by omega), List.drop_of_length_le (by omega), List.append_nil]
    have E0 := Lib.hid e0
    clear e0 hcl
    have HO := Lib.hid ho
    rcases ho.2 with ⟨hv, hn0⟩ | ⟨g, cap, cur, hv, _, hg, hnc, hcm, hcs, htake⟩
    · injection hv with e1 e2 e3
      subst e1 e3
      subst hn0
      clear ho
      go_enter Try.func85, Try.ntmps85
      go_wp2_with (at_builtin; refine wpList_append_lies _ (by rfl) _ _ _ (by rfl) 0 50 i0 _ 5 56 Try.underlying27 hi hz0 hzs hzb rfl (by omega) _ 0 cells (by rfl) HO.out ⟨vb, 0, none⟩ 1 1 ct (by rfl) (by omega) (fun j u hj => by rw [Mm.add0]; exact hvs j u hj) h1 (by omega) (by unfold maxLen; omega) (by omega) (Nat.zero_le _) _ rfl ?_; intro gg cap w3 hown hgrow hat hlt)
      go_ret
      exact ⟨_, _, _, rfl, E0.out ▸ hown, hgrow, hat.elim (fun h => .inl (by rw [h]; rfl)) (fun h => .inr (by rw [h]; rfl))⟩
    · injection hv with e1 e2 e3
      subst e1 e3
      clear ho
      unfold maxLen at hcm
      by_cases hcn : c = k
      · subst hcn
        go_enter Try.func85, Try.ntmps85
        go_wp2_with (at_builtin; refine wpList_append_lies _ (by rfl) _ _ _ (by rfl) 0 50 i0 _ 5 56 Try.underlying27 hi hz0 hzs hzb rfl (by omega) _ c cells (by rfl) HO.out ⟨vb, 0, none⟩ 1 1 ct (by rfl) (by omega) (fun j u hj => by rw [Mm.add0]; exact hvs j u hj) h1 (by omega) (by unfold maxLen; omega) (by omega) (Nat.zero_le _) _ rfl ?_; intro gg cap w3 hown hgrow hat hlt)
        go_ret
        exact ⟨_, _, _, rfl, E0.out ▸ hown, hgrow, hat.elim (fun h => .inl (by rw [h]; rfl)) (fun h => .inr (by rw [h]; rfl))⟩
      · go_enter Try.func85, Try.ntmps85
        go_wp2_with (at_builtin; refine wpList_append_lies _ (by rfl) _ _ _ (by rfl) 0 50 i0 _ 5 56 Try.underlying27 hi hz0 hzs hzb rfl (by omega) _ k cells (by rfl) HO.out ⟨vb, 0, none⟩ 1 1 ct (by rfl) (by omega) (fun j u hj => by rw [Mm.add0]; exact hvs j u hj) h1 (by omega) (by unfold maxLen; omega) (by omega) (Nat.zero_le _) _ rfl ?_; intro gg cap w3 hown hgrow hat hlt)
        go_ret
        exact ⟨_, _, _, rfl, E0.out ▸ hown, hgrow, hat.elim (fun h => .inl (by rw [h]; rfl)) (fun h => .inr (by rw [h]; rfl))⟩
  · have hkl : k < n := by omega
    rcases ho.2 with ⟨hv, hn0⟩ | ⟨g, cap, cur, hv, _, hg, hnc, hcm, hcs, htake⟩
    · omega
    injection hv with e1 e2 e3
    subst e1 e3
    have hBg : Mm.Blk w g 50 cur.toList := by unfold Mm.Blk; rw [Array.toArray_toList]; exact hg
    have hcsl : cur.toList.length = c * 5 := by simpa using hcs
    have hne := hvb g rfl
    have hcc : ∀ j u, cells[j]? = some u → w.cell? ⟨g, j, none⟩ = some u := fun j u hj => hBg.cell (by
      have : (cur.toList.take (n * 5))[j]? = some u := by rw [htake]; exact hj
      rw [List.getElem?_take] at this
      split at this
      · exact this
      · cases this)
    have hsp : ∀ j, j < c * 5 → (w.cell? ⟨g, j, none⟩).isSome = true := fun j hj => by
      rw [hBg.cell (List.getElem?_eq_getElem (by rw [hcsl]; exact hj))]; rfl
    have hfz2 : ∀ j, w.frozen? ⟨g, j, none⟩ = false := fun j => hBg.frozen _
    have hdl : (cells.drop (k * 5)).length = (n - k) * 5 := by rw [List.length_drop, hcl]; omega
    unfold maxLen at hcm
    have hw1 : IntKind.i64.wrap ((k : Int) + 1) = (k : Int) + 1 := IntWalk.i64_in _ (by omega)
    have hw2 : IntKind.i64.wrap ((n : Int) + 1) = (n : Int) + 1 := IntWalk.i64_in _ (by omega)
    have hz2 : ¬ ((k : Int) = (n : Int)) := by omega
    have hb1 : (0 : Int) ≤ (k : Int) + 1 := by omega
    have hb5 : ((k : Int) + 1).toNat = k + 1 := by omega
    have hb6 : ((n : Int) + 1).toNat = n + 1 := by omega
    by_cases hroom : n + 1 ≤ c
    · have hb2 : ¬ (c = k + 1) := by omega
      have hb4 : ¬ (c = k) := by omega
      have hb3 : (k : Int) ≤ (n : Int) + 1 := by omega
      have hov : ∀ o lb cb, (callFunc 105 #[.slice (some ⟨vb, 0, none⟩) 1 1, .slice (some ⟨g, o, none⟩) lb cb]).run Try.prog w = .ok (.value (.bool false)) w := fun o lb cb => by
        rw [run_callFunc_extern Try.func105 (by kernel_rfl) (by kernel_rfl) (by kernel_rfl) (e := Extern.SlicesOverlaps.overlaps #[27, 27] #[4]) (by kernel_rfl),
          Lib.run_overlaps_apart w 27 4 50 Try.underlying27 5 Try.sizeOf50 ⟨vb, 0, none⟩ ⟨g, o, none⟩ 1 1 lb cb hne _ _ _ _ hsh (Mm.shape_blk hBg) (by omega) (hfz _) (hfz _)]
        rfl
      have HBG := Lib.hid hBg
      clear ho hg hBg
      go_enter Try.func85, Try.ntmps85
      go_wp2_with (simp only [hov])
      have hsz : (Try.prog.info? 50).map (·.size) = some 5 := by rw [hi]; exact congrArg some hzs
      have hmin : Nat.min (n + 1 - k) (n - k) = n - k := by simp only [Nat.min_def]; split <;> omega
      have hmin2 : Nat.min 1 (n + 1 - k) = 1 := by simp only [Nat.min_def]; split <;> omega
      have hcp1 : ∀ ty dc sc, (Builtin.copy_ #[27, 27] ty #[.slice (some ⟨g, (k + 1) * 5, none⟩) (n - k) dc, .slice (some ⟨g, k * 5, none⟩) (n + 1 - k) sc]).run Try.prog w.drew = .ok (goInt (Nat.min (n + 1 - k) (n - k))) (w.drew.setCells g ((k + 1) * 5) (cells.drop (k * 5))) := fun ty dc sc =>
        Mm.run_copy_k w.drew _ _ ty 50 5 g ((k + 1) * 5) (n - k) dc ⟨g, k * 5, none⟩ (n + 1 - k) sc (cells.drop (k * 5)) Try.underlying27 hsz (by rw [hdl, hmin])
          (fun j v hj => by rw [Addr.add_lit]; exact hcc _ v (by rwa [List.getElem?_drop] at hj))
          (fun j hj => hsp _ (by rw [hdl] at hj; omega)) (fun j hj => hfz2 _) (fun v hv => h1c v (List.mem_of_mem_drop hv))
      obtain ⟨W1, hW1⟩ : ∃ W1, W1 = w.drew.setCells g ((k + 1) * 5) (cells.drop (k * 5)) := ⟨_, rfl⟩
      have hsp1 : ∀ j, j < c * 5 → (W1.cell? ⟨g, j, none⟩).isSome = true := fun j hj => by
        rw [hW1]
        exact isSome_setCells g (cells.drop (k * 5)) ((k + 1) * 5) w.drew (fun j hj => hsp ((k + 1) * 5 + j) (by rw [hdl] at hj; omega)) _ (hsp j hj)
      have hcp2 : ∀ (W : World), (∀ x, W.cell? x = W1.cell? x) → (∀ x, W.frozen? x = W1.frozen? x) → ∀ ty dc, (Builtin.copy_ #[27, 27] ty #[.slice (some ⟨g, k * 5, none⟩) (n + 1 - k) dc, .slice (some ⟨vb, 0, none⟩) 1 1]).run Try.prog W = .ok (goInt (Nat.min 1 (n + 1 - k))) (W.setCells g (k * 5) ct) := fun W hWc hWf ty dc =>
        Mm.run_copy_k (P := Try.prog) W 27 27 ty 50 5 g (k * 5) (n + 1 - k) dc ⟨vb, 0, none⟩ 1 1 ct Try.underlying27 hsz (by rw [hct, hmin2])
          (fun j v hj => by
            rw [Mm.add0, hWc, hW1, World.cell?_setCells_out g _ _ _ _ (fun h _ => absurd h hne)]
            exact hvs j v hj)
          (fun j hj => by rw [hWc]; exact hsp1 _ (by omega)) (fun j hj => by rw [hWf, hW1, World.frozen?_setCells]; exact hfz2 _) h1
      rw [← hW1] at hcp1
      have HW1 := Lib.hid hW1
      clear hW1
      go_region_law (refine step_copy_runI rfl _ _ 27 27 rfl (.slice (some ⟨g, (k + 1) * 5, none⟩) (n - k) (c - (k + 1))) (.slice (some ⟨g, k * 5, none⟩) (n + 1 - k) (c - k)) (by simp [Act.eval, Act.put]) (by simp [Act.eval, Act.put]) (hcp1 _ _ _) ?_)
      go_wp2_with (at_builtin; refine wpList_copy_runI _ rfl _ _ 27 27 rfl _ _ rfl rfl (hcp2 _ (fun _ => rfl) (fun _ => rfl) _ _) ?_)
      go_ret
      have hW1 := HW1.out
      subst hW1
      have hd : Mm.Blk w.drew g 50 cur.toList := HBG.out
      have hb2 := Mm.setCells_blk ct _ (k * 5) _ (Mm.setCells_blk (cells.drop (k * 5)) _ ((k + 1) * 5) _ hd)
      refine ⟨_, _, _, rfl, ⟨?_, .inr ⟨g, c, _, rfl, Nat.zero_le _, hb2, hroom, by unfold maxLen; omega, ?_, ?_⟩⟩, ?_, .inl rfl⟩
      · rw [List.length_append, List.length_append, List.length_take, hdl, hct, hcl]; omega
      · rw [List.size_toArray, Mm.setList_len, Mm.setList_len]; exact hcsl
      · have := Mm.ins_rows (cur := cur.toList) (cells := cells) (ct := ct) (N := n * 5) (K := k * 5) (S := 5) htake hcl (by omega) hct (by rw [hcsl]; omega)
        rw [show (k + 1) * 5 = k * 5 + 5 by omega, show (n + 1) * 5 = n * 5 + 5 by omega]
        rw [List.append_assoc] at this
        exact this
      · exact Mm.Chg.grown ((Mm.Chg.of_below (Below.refl w.heap.size w).drew).trans ((Mm.setCells_chg g _ _ _).trans (Mm.setCells_chg g _ _ _)))
    · have hcn : c = n := by omega
      subst hcn
      have hsz : (Try.prog.info? 50).map (·.size) = some 5 := by rw [hi]; exact congrArg some hzs
      have hw3 : IntKind.i64.wrap ((c : Int) + 1 - (k : Int)) = (c : Int) + 1 - (k : Int) := IntWalk.i64_in _ (by omega)
      have hold : (Builtin.firstCells i0.size k (.slice (some ⟨g, 0, none⟩) k c)).run Try.prog w.drew = .ok (cells.take (k * 5)).toArray w.drew := by
        rw [hzs]
        exact run_firstCells_some w.drew 5 k ⟨g, 0, none⟩ k c (cells.take (k * 5)) (by rw [List.length_take, hcl]; omega) (fun j v hj => by
          rw [List.getElem?_take] at hj
          split at hj
          · rw [Mm.add0]; exact hcc j v hj
          · cases hj)
      have hik : ((c + 1 - k : Nat) : Int) = (c : Int) + 1 - (k : Int) := by omega
      have hkk : k + (c + 1 - k) = c + 1 := by omega
      obtain ⟨G, hG⟩ : ∃ G, G = grownCap w (c + 1) c 50 := ⟨_, rfl⟩
      obtain ⟨ROW, hROW⟩ : ∃ ROW : Array Value, ROW = (cells.take (k * 5)).toArray ++ Builtin.zeroCells (Value.agg #[.slice none 0 0, .int .i64 0, .int .i64 0, .int .i64 0, .int .i64 0]).cells (c + 1 - k) ++ Builtin.zeroCells (Value.agg #[.slice none 0 0, .int .i64 0, .int .i64 0, .int .i64 0, .int .i64 0]).cells (G - (c + 1)) := ⟨_, rfl⟩
      have hrz : ∀ ty, (Builtin.append_ #[27, 3] ty #[.slice (some ⟨g, 0, none⟩) k c, .int .i64 ((c : Int) + 1 - (k : Int))]).run Try.prog w = .ok (.slice (some ⟨w.heap.size, 0, none⟩) (c + 1) G) (w.drew.alloc (.cells ROW 50)) := fun ty => by
        have h := Lib.run_append_grow_zeros w 27 3 ty 50 i0 _ .i64 .i64 Try.underlying27 Try.underlying3 hi hz0 (some ⟨g, 0, none⟩) k c (cells.take (k * 5)) hold (c + 1 - k) (by omega) (by omega) (by omega) (by omega) (by rw [hzb]; omega) (by rw [hzb, hkk]; exact growslice_fits (by omega) (by omega))
        rw [hik, hkk] at h
        rw [hG, hROW, hG]
        exact h
      have hGn : c + 1 ≤ G := by rw [hG]; exact grownCap_ge w _ _ _
      have hGm : G ≤ maxLen := by rw [hG]; exact grownCap_le_maxLen w (c + 1) c 50 (by unfold maxLen; omega)
      have hRs : ROW.size = G * 5 := by
        rw [hROW]
        simp only [Array.size_append, List.size_toArray, Mm.zeroCells_len, List.length_take, hcl]
        show min (k * 5) (c * 5) + (c + 1 - k) * 5 + (G - (c + 1)) * 5 = _
        omega
      have hRt : ROW.toList.take (k * 5) = cells.take (k * 5) := by
        rw [hROW, Array.append_assoc, Array.toList_append, List.take_left' (by rw [List.length_take, hcl]; omega)]
      clear hG hROW hik hkk hold
      unfold maxLen at hGm
      obtain ⟨W1, hW1⟩ : ∃ W1, W1 = w.drew.alloc (.cells ROW 50) := ⟨_, rfl⟩
      have hgw : g < w.heap.size := hBg.lt
      have hB1 : Mm.Blk W1 w.heap.size 50 ROW.toList := by
        have := Mm.Blk.new w.drew 50 ROW.toList
        rw [Array.toArray_toList] at this
        rw [hW1]
        exact this
      have hN : ∀ j, j < G * 5 → (W1.cell? ⟨w.heap.size, j, none⟩).isSome = true := fun j hj => by
        rw [hB1.cell (List.getElem?_eq_getElem (by rw [Array.length_toList, hRs]; exact hj))]; rfl
      have hNf : ∀ j, W1.frozen? ⟨w.heap.size, j, none⟩ = false := fun j => hB1.frozen _
      have hbl : Below w.heap.size w W1 := by rw [hW1]; exact (Below.refl _ _).drew.alloc (by exact Nat.le_refl _) _
      have hOc : ∀ b j v, b < w.heap.size → w.cell? ⟨b, j, none⟩ = some v → W1.cell? ⟨b, j, none⟩ = some v := fun b j v hb h => (hbl.cell hb).trans h
      have hmin1 : Nat.min 1 (c + 1 - k) = 1 := by simp only [Nat.min_def]; split <;> omega
      have hmin2 : Nat.min (c - k) (c - k) = c - k := Nat.min_self _
      have hcpA : ∀ (W : World), (∀ x, W.cell? x = W1.cell? x) → (∀ x, W.frozen? x = W1.frozen? x) → ∀ ty dc, (Builtin.copy_ #[27, 27] ty #[.slice (some ⟨w.heap.size, k * 5, none⟩) (c + 1 - k) dc, .slice (some ⟨vb, 0, none⟩) 1 1]).run Try.prog W = .ok (goInt (Nat.min 1 (c + 1 - k))) (W.setCells w.heap.size (k * 5) ct) := fun W hWc hWf ty dc =>
        Mm.run_copy_k (P := Try.prog) W 27 27 ty 50 5 w.heap.size (k * 5) (c + 1 - k) dc ⟨vb, 0, none⟩ 1 1 ct Try.underlying27 hsz (by rw [hct, hmin1])
          (fun j v hj => by rw [Mm.add0, hWc]; exact hOc _ _ v hvw (hvs j v hj))
          (fun j hj => by rw [hWc]; exact hN _ (by omega)) (fun j hj => by rw [hWf]; exact hNf _) h1
      have hcpB : ∀ (W : World), (∀ x, W.cell? x = (W1.setCells w.heap.size (k * 5) ct).cell? x) → (∀ x, W.frozen? x = (W1.setCells w.heap.size (k * 5) ct).frozen? x) → ∀ ty dc sc, (Builtin.copy_ #[27, 27] ty #[.slice (some ⟨w.heap.size, (k + 1) * 5, none⟩) (c - k) dc, .slice (some ⟨g, k * 5, none⟩) (c - k) sc]).run Try.prog W = .ok (goInt (Nat.min (c - k) (c - k))) (W.setCells w.heap.size ((k + 1) * 5) (cells.drop (k * 5))) := fun W hWc hWf ty dc sc =>
        Mm.run_copy_k (P := Try.prog) W 27 27 ty 50 5 w.heap.size ((k + 1) * 5) (c - k) dc ⟨g, k * 5, none⟩ (c - k) sc (cells.drop (k * 5)) Try.underlying27 hsz (by rw [hdl, hmin2])
          (fun j v hj => by
            rw [Addr.add_lit, hWc, World.cell?_setCells_out _ _ _ _ _ (fun h _ => absurd h (Nat.ne_of_lt hgw))]
            exact hOc _ _ v hgw (hcc _ v (by rwa [List.getElem?_drop] at hj)))
          (fun j hj => by rw [hWc]; exact isSome_setCells _ _ _ _ (fun t ht => hN (k * 5 + t) (by omega)) _ (hN ((k + 1) * 5 + j) (by rw [hdl] at hj; omega)))
          (fun j hj => by rw [hWf, World.frozen?_setCells]; exact hNf _) (fun v hv => h1c v (List.mem_of_mem_drop hv))
      have HW1 := Lib.hid (And.intro hW1 hB1)
      have HBL := Lib.hid hbl
      subst hW1
      have hE1 : ∀ x, ((w.alloc (.cells ROW 50)).drew).cell? x = (w.drew.alloc (.cells ROW 50)).cell? x := fun x => rfl
      have hE2 : ∀ x, ((w.alloc (.cells ROW 50)).drew).frozen? x = (w.drew.alloc (.cells ROW 50)).frozen? x := fun x => rfl
      have hF1 : ∀ x, (((w.alloc (.cells ROW 50)).drew.setCells w.heap.size (k * 5) ct).drew).cell? x = ((w.drew.alloc (.cells ROW 50)).setCells w.heap.size (k * 5) ct).cell? x := fun x => rfl
      have hF2 : ∀ x, (((w.alloc (.cells ROW 50)).drew.setCells w.heap.size (k * 5) ct).drew).frozen? x = ((w.drew.alloc (.cells ROW 50)).setCells w.heap.size (k * 5) ct).frozen? x := fun x => rfl
      have hGi : ¬ (G = k) := by omega
      have hGim : ¬ (G = k + 1) := by omega
      have hci : ¬ (c = k) := by omega
      clear ho hg hBg hbl hN hNf hOc
      go_enter Try.func85, Try.ntmps85
      go_wp2_with (first
        | (at_builtin; refine Lib.wpList_append_run _ rfl _ _ _ _ rfl _ _ rfl rfl _ _ (hrz _) ?_)
        | (at_builtin; refine wpList_copy_runI _ rfl _ _ 27 27 rfl _ _ rfl rfl (hcpA _ hE1 hE2 _ _) ?_))
      go_region_law (refine step_copy_runI rfl _ _ 27 27 rfl (.slice (some ⟨w.heap.size, (k + 1) * 5, none⟩) (c - k) (G - (k + 1))) (.slice (some ⟨g, k * 5, none⟩) (c - k) (c - k)) (by simp [Act.eval, Act.put]) (by simp [Act.eval, Act.put]) (hcpB _ hF1 hF2 3 (G - (k + 1)) (c - k)) ?_)
      go_wp2
      go_ret
      have hd : Mm.Blk (w.alloc (.cells ROW 50)).drew w.heap.size 50 ROW.toList := HW1.out.2
      have hb1' : Mm.Blk (((w.alloc (.cells ROW 50)).drew.setCells w.heap.size (k * 5) ct).drew) w.heap.size 50 (Mm.setList ROW.toList (k * 5) ct) := Mm.setCells_blk ct _ (k * 5) _ hd
      have hb2' := Mm.setCells_blk (cells.drop (k * 5)) _ ((k + 1) * 5) _ hb1'
      refine ⟨_, _, _, rfl, ⟨?_, .inr ⟨w.heap.size, G, _, rfl, Nat.zero_le _, hb2', hGn, by unfold maxLen; omega, ?_, ?_⟩⟩, ?_, .inr rfl⟩
      · rw [List.length_append, List.length_append, List.length_take, hdl, hct, hcl]; omega
      · rw [List.size_toArray, Mm.setList_len, Mm.setList_len, Array.length_toList]; exact hRs
      · have := Mm.ins_rows' (cur := ROW.toList) (cells := cells) (ct := ct) (N := c * 5) (K := k * 5) (S := 5) hRt hcl (by omega) hct (by rw [Array.length_toList, hRs]; omega)
        rw [show (k + 1) * 5 = k * 5 + 5 by omega, show (c + 1) * 5 = c * 5 + 5 by omega]
        rw [List.append_assoc] at this
        exact this
      · have q1 : Below w.heap.size w (w.alloc (.cells ROW 50)).drew := (below_new (Below.refl _ _) _).drew
        have q2 := Mm.Below.chg q1 (Mm.setCells_chg w.heap.size ct _ (k * 5)) q1.size (fun b hb => by rw [List.mem_singleton.1 hb]; exact Nat.le_refl _)
        have q3 := Mm.Below.chg q2.drew (Mm.setCells_chg w.heap.size (cells.drop (k * 5)) _ ((k + 1) * 5)) q2.drew.size (fun b hb => by rw [List.mem_singleton.1 hb]; exact Nat.le_refl _)
        exact Mm.Chg.grown0 q3
end Go.Proofs.Ytnppcdiicnofpaa

/-
  Contracts: strings.Compare; the comparison of a total with a text; slices.BinarySearchFunc at totals. No conditions beyond those named.
-/
namespace Go.Proofs.Ytnppcdiicnofpaa
open Go.RowKit
attribute [local go_sem] und_cell World.cell?_alloc_some
set_option maxRecDepth 100000 in
theorem compare_c (a b : ByteArray) (w : World) : Calls Try.prog 83 #[.string a, .string b] w fun e w' => e = .returned (.int .i64 (Lib.compareBytes a.data.toList b.data.toList)) ∧ w = w' := by
  have h1 : Calls Try.prog 104 #[.string a, .string b] w fun e w' => e = .returned (.int .i64 (Lib.compareBytes a.data.toList b.data.toList)) ∧ w = w' := by
    go_enter Try.func104, Try.ntmps104
    go_wp2
    rw [run_callFunc_extern Try.func116 (by kernel_rfl) (by kernel_rfl) (by kernel_rfl) (e := Extern.BytealgCompare.compare) (by kernel_rfl), Lib.run_compareString]
    simp only [Result.andThen]
    rw [Oper.upon_value]
    go_wp2
    go_ret
    exact ⟨rfl, rfl⟩
  go_enter Try.func83, Try.ntmps83
  go_wp2_with (go_at_call 104; refine h1.mono ?_; rintro e w' ⟨rfl, rfl⟩)
  go_ret
  exact ⟨rfl, rfl⟩
theorem combCmp_c (x : Total) (s : ByteArray) (A : Option Addr) (n c : Nat) (w : World) (B : Nat) (hl : Mm.SlAt rLabel w B x.Labels A n c) (hB : B ≤ w.heap.size) (hok : Pl.labelsOk x.Labels = true) :
    Calls Try.prog 82 #[.agg #[.slice A n c, .int .i64 x.Sum, .int .i64 x.Count, .int .i64 x.Least, .int .i64 x.Most], .string s] w fun e w' => e = .returned (.int .i64 (Lib.compareBytes (Pl.txt x).data.toList s.data.toList)) ∧ Below w.heap.size w w' := by
  have hl1 := hl.alloc' hB (.cells #[.slice A n c, .int .i64 x.Sum, .int .i64 x.Count, .int .i64 x.Least, .int .i64 x.Most] 50)
  have HB0 := Lib.hid (below_new (Below.refl w.heap.size w) (.cells #[.slice A n c, .int .i64 x.Sum, .int .i64 x.Count, .int .i64 x.Least, .int .i64 x.Most] 50))
  have hB2 := Nat.le_trans hB HB0.out.size
  go_enter Try.func82, Try.ntmps82
  go_wp2_with first
    | (go_at_call 78; (with_reducible refine (labelsText_c x.Labels A n c _ B hl1 hB2 hok).mono ?_); rintro e w1 ⟨rfl, hb1⟩)
    | (go_at_call 83; (with_reducible refine (compare_c _ s _).mono ?_); rintro e w' ⟨rfl, rfl⟩)
  go_ret
  exact ⟨rfl, below_step HB0.out hb1⟩
set_option maxRecDepth 100000 in
set_option maxHeartbeats 1000000 in
theorem bsTot_c (l : List Total) (s : ByteArray) (A : Option Addr) (n c : Nat) (w : World) (B : Nat) (hl : Mm.SlAt rTotal w B l A n c) (hB : B ≤ w.heap.size) (hn : n ≤ 100) (hok : ∀ x, x ∈ l → Pl.labelsOk x.Labels = true) (hs : Pl.TSort l) :
    Calls Try.prog 81 #[.slice A n c, .string s, .func (.func 82) #[] #[]] w fun e w' => ∃ fd : Bool, e = .returned (.tuple #[.int .i64 (Pl.tpos s l : Nat), .bool fd]) ∧ (fd = true ↔ ∃ o, l[Pl.tpos s l]? = some o ∧ Pl.txt o = s) ∧ Below w.heap.size w w' := by
  have HL := Lib.hid hl
  have HLN : Hid (l.length = n) := hl.1
  have HOK := Lib.hid (And.intro hok hs)
  obtain ⟨p, hp⟩ : ∃ p, Pl.tpos s l = p := ⟨_, rfl⟩
  have HP := Lib.hid hp
  rw [hp]
  have hpn : p ≤ n := by rw [← hp, ← hl.1]; exact Pl.tpos_le s l
  clear hl hok hs hp
  go_enter Try.func81, Try.ntmps81
  go_wp2
  go_loopg [9, 10] n (fun g i j wr => ∃ a b : Nat, b - a ≤ g ∧ a ≤ p ∧ p ≤ b ∧ b ≤ n ∧ i = .int .i64 a ∧ j = .int .i64 b ∧ Hid (Below w.heap.size w wr))
  case atStart => exact ⟨0, n, by omega, Nat.zero_le _, hpn, Nat.le_refl _, rfl, rfl, Below.refl _ _⟩
  case round =>
    obtain ⟨a, b, hg, hap, hpb, hbn, rfl, rfl, HBE⟩ := hrel
    obtain ⟨W, rfl⟩ : ∃ W : World, W = wr := ⟨_, rfl⟩
    have HR := Lib.hid (HL.out.keep (w' := W) fun b hb => HBE.out.block b (Nat.lt_of_lt_of_le hb hB))
    have hBW := Nat.le_trans hB HBE.out.size
    by_cases hab : a < b
    · have f1 : (a : Int) < (b : Nat) := by omega
      obtain ⟨m, hm⟩ : ∃ m : Nat, ((a : Int) + (b : Int)) / 2 = m := ⟨(a + b) / 2, by omega⟩
      have hma : a ≤ m := by omega
      have hmb : m < b := by omega
      obtain ⟨x, bb, off, A1, n1, c1, hx, rfl, hbb, hlb, i1, i2, i3, i4, e0, e1, e2, e3, e4⟩ := rTotal_get HR.out (show m < n by omega)
      have hlk := HOK.out.1 x (List.mem_of_getElem? hx)
      obtain ⟨cv, hcv⟩ : ∃ cv, Lib.compareBytes (Pl.txt x).data.toList s.data.toList = cv := ⟨_, rfl⟩
      have CC := combCmp_c x s A1 n1 c1 W B hlb hBW hlk
      rw [hcv] at CC
      have hlt : decide (cv < 0) = Pl.lessB (Pl.txt x) s := by
        rw [← hcv, Pl.cmp_lt]
        unfold Pl.lessB
        rw [Lib.toList_data, Lib.toList_data]
      have HX := Lib.hid hx
      have f2 : (0 : Int) ≤ (m : Nat) := by omega
      have f3 : ((m : Nat) : Int).toNat = m := by omega
      have f4 : (m : Int) < (n : Nat) := by omega
      have f5 : (m : Int) < (b : Nat) := by omega
      have f6 : (a : Int) ≤ (m : Nat) := by omega
      have f7 : IntKind.i64.wrap ((m : Int) + 1) = (m : Int) + 1 := IntWalk.i64_in _ (by omega)
      clear hx hcv hlb
      cases hls : Pl.lessB (Pl.txt x) s with
      | true =>
        have hmp : m < p := by
          apply Classical.byContradiction
          intro hh
          have := Pl.tpos_ge s l HOK.out.2 m x (by have := HP.out; omega) HX.out
          rw [hls] at this; cases this
        have hlt2 : cv < 0 := by rw [hls] at hlt; simpa using hlt
        clear hlt hls
        go_wp2_with (go_at_call 82; (with_reducible refine CC.mono ?_); clear CC; rintro e w1 ⟨rfl, hb1⟩)
        go_roundg (b - (m + 1))
        case measure => omega
        case rel => exact ⟨m + 1, b, Nat.le_refl _, by omega, hpb, hbn, by go_num, rfl, below_step HBE.out hb1⟩
      | false =>
        have hmp : p ≤ m := by
          apply Classical.byContradiction
          intro hh
          have := Pl.tpos_lt s l m x (by have := HP.out; omega) HX.out
          rw [hls] at this; cases this
        have hlt2 : ¬ cv < 0 := by rw [hls] at hlt; simpa using hlt
        clear hlt hls
        go_wp2_with (go_at_call 82; (with_reducible refine CC.mono ?_); clear CC; rintro e w1 ⟨rfl, hb1⟩)
        go_roundg (m - a)
        case measure => omega
        case rel => exact ⟨a, m, Nat.le_refl _, hap, hmp, by omega, rfl, by go_num, below_step HBE.out hb1⟩
    · have hab2 : a = p := by omega
      subst hab2
      have f1 : ¬ (a : Int) < (b : Nat) := by omega
      by_cases han : a < n
      · obtain ⟨x, bb, off, A1, n1, c1, hx, rfl, hbb, hlb, i1, i2, i3, i4, e0, e1, e2, e3, e4⟩ := rTotal_get HR.out han
        have hlk := HOK.out.1 x (List.mem_of_getElem? hx)
        obtain ⟨cv, hcv⟩ : ∃ cv, Lib.compareBytes (Pl.txt x).data.toList s.data.toList = cv := ⟨_, rfl⟩
        have CC := combCmp_c x s A1 n1 c1 W B hlb hBW hlk
        rw [hcv] at CC
        have heq : (cv == 0) = true ↔ Pl.txt x = s := by
          rw [← hcv, beq_iff_eq, Pl.cmp_zero]
          exact ⟨Pl.ba_ext, fun h => by rw [h]⟩
        have HX := Lib.hid hx
        have HE := Lib.hid heq
        have f2 : (0 : Int) ≤ (a : Nat) := by omega
        have f3 : ((a : Nat) : Int).toNat = a := by omega
        have f4 : (a : Int) < (n : Nat) := by omega
        clear hx hcv hlb heq
        go_wp2_with (go_at_call 82; (with_reducible refine CC.mono ?_); clear CC; rintro e w1 ⟨rfl, hb1⟩)
        go_ret2
        refine ⟨_, rfl, ?_, below_step HBE.out hb1⟩
        rw [HE.out]
        exact ⟨fun h => ⟨x, HX.out, h⟩, fun ⟨o, ho, he⟩ => by rw [HX.out] at ho; injection ho with ho; rw [ho]; exact he⟩
      · have f4 : ¬ (a : Int) < (n : Nat) := by omega
        go_wp2
        go_ret2
        exact .inl ⟨rfl, fun o ho => absurd (List.getElem?_eq_some_iff.1 ho).1 (by rw [HLN.out]; omega), HBE.out⟩
end Go.Proofs.Ytnppcdiicnofpaa

/-
  Contracts: slices.Clone where the elements lead nowhere. No conditions.
-/
namespace Go.Proofs.Ytnppcdiicnofpaa
open Go.RowKit
end Go.Proofs.Ytnppcdiicnofpaa

/-
  slices.Delete of one element, on slices whose elements lead nowhere. No program in sight. No conditions.
-/
namespace Go.Proofs.Ytnppcdiicnofpaa
open Go.RowKit
namespace Mm
/-- elements of several cells that lead nowhere -/
structure FlatN {α : Type} (E : Rep α) (enc : α → List Value) : Prop where
  pos : 0 < E.size
  inv : ∀ {w x cs fx}, E.own w x cs fx → cs = enc x ∧ fx = [] ∧ ∀ w', E.own w' x (enc x) []
theorem flatMap_len {α : Type} {s : Nat} {enc : α → List Value} : ∀ {xs : List α}, (∀ x, x ∈ xs → (enc x).length = s) → (xs.flatMap enc).length = xs.length * s
  | [], _ => by simp
  | a :: t, h => by
    rw [List.flatMap_cons, List.length_append, h a (by simp), flatMap_len (fun x hx => h x (List.mem_cons_of_mem _ hx)), List.length_cons, Nat.succ_mul]; omega
theorem flatMap_drop {α : Type} {s : Nat} {enc : α → List Value} : ∀ {xs : List α} (k : Nat), (∀ x, x ∈ xs → (enc x).length = s) → (xs.drop k).flatMap enc = (xs.flatMap enc).drop (k * s)
  | xs, 0, _ => by simp
  | [], k + 1, _ => by simp
  | a :: t, k + 1, h => by
    rw [List.drop_succ_cons, List.flatMap_cons, flatMap_drop k (fun x hx => h x (List.mem_cons_of_mem _ hx)), List.drop_append, h a (by simp), List.drop_eq_nil_of_le (show (enc a).length ≤ (k + 1) * s by rw [h a (by simp), Nat.succ_mul]; omega), List.nil_append]
    congr 1
    rw [Nat.succ_mul]; omega
theorem flatMap_take {α : Type} {s : Nat} {enc : α → List Value} : ∀ {xs : List α} (k : Nat), (∀ x, x ∈ xs → (enc x).length = s) → (xs.take k).flatMap enc = (xs.flatMap enc).take (k * s)
  | xs, 0, _ => by simp
  | [], k + 1, _ => by simp
  | a :: t, k + 1, h => by
    rw [List.take_succ_cons, List.flatMap_cons, List.flatMap_cons, flatMap_take k (fun x hx => h x (List.mem_cons_of_mem _ hx)), List.take_append, h a (by simp), List.take_of_length_le (show (enc a).length ≤ (k + 1) * s by rw [h a (by simp), Nat.succ_mul]; omega)]
    congr 2
    rw [Nat.succ_mul]; omega
section
variable {α : Type} {E : Rep α} {enc : α → List Value} {e : TypeId} {w w' : World} {xs : List α} {v : Value} {fp : List Nat} {g n c : Nat}
theorem FlatN.owns (hF : FlatN E enc) (h : SlOwn E e w xs v fp) : w.ownsRow 0 e E.size v xs.length (xs.flatMap enc) ∧ fp = v.ownBlock.toList ∧ (∀ x, x ∈ xs → ∀ w', E.own w' x (enc x) []) ∧ ∀ x, x ∈ xs → (enc x).length = E.size := by
  obtain ⟨es, he, ho, rfl⟩ := h
  have h1 : es = xs.map fun x => (enc x, ([] : List Nat)) := by
    apply List.ext_getElem?
    intro i
    rw [List.getElem?_map]
    rcases Nat.lt_or_ge i xs.length with hi | hi
    · have hx := List.getElem?_eq_getElem hi
      have hy := List.getElem?_eq_getElem (show i < es.length by rw [he.1]; exact hi)
      have h2 := hF.inv (he.2 i _ _ hx hy)
      rw [hx, hy]
      exact congrArg some (Prod.ext h2.1 h2.2.1)
    · rw [List.getElem?_eq_none hi, List.getElem?_eq_none (by rw [he.1]; exact hi)]
      rfl
  have h3 : (xs.map fun x => (enc x, ([] : List Nat))).flatMap (·.1) = xs.flatMap enc := by rw [List.flatMap_map]
  have h4 : (xs.map fun x => (enc x, ([] : List Nat))).flatMap (·.2) = [] := by simp [List.flatMap_map]
  have h5 : ∀ x, x ∈ xs → ∀ w', E.own w' x (enc x) [] := fun x hx w' => by
    obtain ⟨i, hi, rfl⟩ := List.mem_iff_getElem.1 hx
    exact (hF.inv (he.2 i _ _ (List.getElem?_eq_getElem hi) (List.getElem?_eq_getElem (show i < es.length by rw [he.1]; exact hi)))).2.2 w'
  refine ⟨?_, by rw [h1, h4]; simp, h5, fun x hx => E.olen (h5 x hx w)⟩
  rw [h1, h3] at ho
  exact ho
theorem FlatN.blk (hF : FlatN E enc) (h : SlOwn E e w xs (.slice (some ⟨g, 0, none⟩) n c) fp) : ∃ cur, Blk w g e cur ∧ cur.length = c * E.size ∧ cur.take (n * E.size) = xs.flatMap enc ∧ n = xs.length ∧ n ≤ c ∧ c ≤ maxLen ∧ fp = [g] := by
  obtain ⟨h1, h2, _⟩ := hF.owns h
  rcases h1.2 with ⟨h3, _⟩ | ⟨g', cap, cur, h3, _, hg, hnc, hcm, hcs, htake⟩
  · simp at h3
  · simp only [Value.slice.injEq, Option.some.injEq, Addr.mk.injEq, and_true] at h3
    obtain ⟨rfl, rfl, rfl⟩ := h3
    refine ⟨cur.toList, by unfold Blk; rw [Array.toArray_toList]; exact hg, by simpa using hcs, by simpa using htake, rfl, hnc, hcm, by rw [h2]; simp [Value.ownBlock]⟩
theorem FlatN.of_blk (hF : FlatN E enc) {cur : List Value} (h : Blk w g e cur) (hl : cur.length = c * E.size) (ht : cur.take (n * E.size) = xs.flatMap enc) (hn : xs.length = n) (hnc : n ≤ c) (hc : c ≤ maxLen) (hE : ∀ x, x ∈ xs → E.own w x (enc x) []) : SlOwn E e w xs (.slice (some ⟨g, 0, none⟩) n c) [g] := by
  subst hn
  refine SlOwn.of_row (enc := enc) ⟨by simp [flatMap_len fun x hx => E.olen (hE x hx)], .inr ⟨g, c, cur.toArray, rfl, Nat.zero_le _, h, hnc, hc, by simpa using hl, by simpa using ht⟩⟩ hE ?_
  simp [Value.ownBlock]
/-- behind slices.Delete of element k: what follows has moved up, the last place is cleared -/
theorem FlatN.erase (hF : FlatN E enc) (h : SlOwn E e w xs (.slice (some ⟨g, 0, none⟩) n c) fp) {k : Nat} (hk : k < n) {z : List Value} (hz : z.length = E.size) {o1 o2 : Nat} (h1 : k * E.size = o1) (h2 : (n - 1) * E.size = o2) :
    Chg fp w ((w.drew.setCells g o1 ((xs.drop (k + 1)).flatMap enc)).setCells g o2 z) ∧ SlOwn E e ((w.drew.setCells g o1 ((xs.drop (k + 1)).flatMap enc)).setCells g o2 z) (xs.eraseIdx k) (.slice (some ⟨g, 0, none⟩) (n - 1) c) fp := by
  subst h1; subst h2
  obtain ⟨_, _, hown, hlen⟩ := hF.owns h
  obtain ⟨cur, hb, hcl, ht, rfl, hnc, hcm, rfl⟩ := hF.blk h
  have hb0 : Blk w.drew g e cur := hb
  have hb2 := setCells_blk z _ ((xs.length - 1) * E.size) _ (setCells_blk ((xs.drop (k + 1)).flatMap enc) _ (k * E.size) _ hb0)
  refine ⟨((Chg.of_below (Below.refl w.heap.size w).drew).trans (setCells_chg g _ _ _)).trans (setCells_chg g _ _ _), ?_⟩
  have hsub : ∀ x, x ∈ xs.eraseIdx k → x ∈ xs := fun x hx => List.mem_of_mem_eraseIdx hx
  have hdl : ((xs.drop (k + 1)).flatMap enc).length = (xs.length - 1 - k) * E.size := by
    rw [flatMap_len (s := E.size) (fun x hx => hlen x (List.mem_of_mem_drop hx)), List.length_drop]; congr 1; omega
  have e1 : k * E.size + (xs.length - 1 - k) * E.size = (xs.length - 1) * E.size := by rw [← Nat.add_mul]; congr 1; omega
  have e2 : (xs.length - 1) * E.size + E.size = xs.length * E.size := by rw [← Nat.succ_mul]; congr 1; omega
  have e3 : xs.length * E.size ≤ cur.length := by rw [hcl]; exact Nat.mul_le_mul_right _ hnc
  have e4 : k * E.size + E.size = (k + 1) * E.size := (Nat.succ_mul _ _).symm
  refine hF.of_blk hb2 (by rw [setList_len, setList_len, hcl]) ?_ (List.length_eraseIdx_of_lt hk) (by omega) hcm (fun x hx => hown x (hsub x hx) _)
  have hE : (xs.eraseIdx k).flatMap enc = (xs.flatMap enc).take (k * E.size) ++ (xs.flatMap enc).drop ((k + 1) * E.size) := by
    rw [List.eraseIdx_eq_take_drop_succ, List.flatMap_append, flatMap_take k hlen, flatMap_drop (k + 1) hlen]
  have hfl : (xs.flatMap enc).length = xs.length * E.size := flatMap_len hlen
  apply List.ext_getElem?
  intro j
  rw [hE, List.getElem?_take]
  by_cases hj : j < (xs.length - 1) * E.size
  · rw [if_pos hj, setList_get _ _ _ _ (by rw [setList_len]; omega), if_neg (by omega), setList_get _ _ _ _ (by rw [hdl]; omega), hdl]
    by_cases hjk : j < k * E.size
    · rw [if_neg (by omega), List.getElem?_append_left (by rw [List.length_take, hfl]; omega), List.getElem?_take, if_pos hjk, ← ht, List.getElem?_take, if_pos (by omega)]
    · rw [if_pos (by omega), List.getElem?_append_right (by rw [List.length_take]; omega), flatMap_drop (k + 1) hlen, List.length_take, hfl, Nat.min_eq_left (by omega)]
  · rw [if_neg hj, List.getElem?_append_right (by rw [List.length_take]; omega), List.getElem?_drop, List.length_take, hfl, Nat.min_eq_left (by omega), List.getElem?_eq_none (by rw [hfl]; omega)]
/-- the cells behind element k -/
theorem FlatN.cells (hF : FlatN E enc) (h : SlOwn E e w xs (.slice (some ⟨g, 0, none⟩) n c) fp) {j : Nat} {u : Value} (hj : (xs.flatMap enc)[j]? = some u) : w.cell? ⟨g, j, none⟩ = some u := by
  obtain ⟨cur, hb, hcl, ht, rfl, hnc, hcm, rfl⟩ := hF.blk h
  refine hb.cell ?_
  rw [← ht, List.getElem?_take] at hj
  split at hj
  · exact hj
  · cases hj
end
theorem run_clear_one {P : Program} (w : World) (t e ty : TypeId) (z : Value) (ht : P.underlying t = some (.slice e)) (hv : ∀ w, (zeroValue e).run P w = .ok z w) (h1 : ∀ u ∈ z.cells, u.oneCell' = true) (b o c : Nat)
    (hc : ∀ j, j < z.cells.size → (w.cell? ⟨b, o + j, none⟩).isSome = true) (hf : ∀ j, j < z.cells.size → w.frozen? ⟨b, o + j, none⟩ = false) :
    (Builtin.clear_ #[t] ty #[.slice (some ⟨b, o, none⟩) 1 c]).run P w = .ok (.tuple #[]) (w.setCells b o z.cells.toList) := by
  have hzc : (Builtin.zeroCells z.cells 1).toList = z.cells.toList := by
    apply List.ext_getElem?
    intro j
    by_cases hj : j < z.cells.size
    · simp [Builtin.zeroCells, hj, Nat.mod_eq_of_lt hj]
    · simp [Builtin.zeroCells, hj]
  have hst := run_storeCells_cells (P := P) b o z.cells.toList 0 w (by simpa using hc) (by simpa using hf) (by intro u hu; exact h1 u (by simpa using hu))
  simp only [Nat.add_zero] at hst
  simp [Builtin.clear_, run_underlying ht, hv, hzc, hst]
end Mm
end Go.Proofs.Ytnppcdiicnofpaa

/-
  'append([]T{}, l...)' inside a larger statement: the copy becomes one of the things that the call owns. No program in sight. No conditions.
-/
namespace Go.Proofs.Ytnppcdiicnofpaa
open Go.RowKit
namespace Mm
/-- elements that lead nowhere: what they are written as -/
structure Flat {α : Type} (E : Rep α) (enc : α → List Value) : Prop where
  at_ : ∀ {w B x cs}, E.at_ w B x cs → cs = enc x
  own : ∀ {w B x cs}, E.at_ w B x cs → ∀ w', E.own w' x (enc x) []
theorem flat_int : Flat int (fun x => [.int .i64 x]) := ⟨fun h => h.1, fun h w' => ⟨rfl, h.2, rfl⟩⟩
theorem flat_str : Flat str (fun x => [.string x]) := ⟨fun h => h.1, fun h w' => ⟨rfl, h.2, rfl⟩⟩
theorem flat_bool : Flat bool (fun x => [.bool x]) := ⟨fun h => h.1, fun h w' => ⟨rfl, h.2, rfl⟩⟩
section
variable {P : Program} {α : Type} {E : Rep α} {enc : α → List Value} {w0 wr W : World} {ts : List Thing} {xs : List α} {A : Option Addr} {n c g B : Nat} {e : TypeId}
theorem run_clone (hF : Flat E enc) (t ty : TypeId) (i : TypeInfo) (z : Value) (bytes : Nat) (ht : P.underlying t = some (.slice e)) (hi : P.info? e = some i) (hz : i.zero = some z) (hsize : i.size = E.size) (hby : i.bytes = bytes) (hzs : z.cells.size = E.size) (hsz : 0 < E.size)
    (h : Sep w0 wr ts) (hb : Below wr.heap.size wr W) (hg : W.heap[g]? = some (.cells #[] e (0, 0))) (hgn : wr.heap.size ≤ g) (hl : SlAt E W B xs A n c) (hn : n ≤ maxLen) (hbytes : n * bytes ≤ 140737488355328) :
    ∃ A2 c2 fp w1, (Builtin.append_ #[t, t] ty #[.slice (some ⟨g, 0, none⟩) 0 0, .slice A n c]).run P W = .ok (.slice A2 n c2) w1 ∧ Sep w0 w1 (tsl E e xs (.slice A2 n c2) fp :: ts) ∧ Below wr.heap.size wr w1 := by
  have hown : W.ownsRow g e E.size (.slice (some ⟨g, 0, none⟩) 0 0) 0 [] := ⟨by simp, .inr ⟨g, 0, #[], rfl, Nat.le_refl _, hg, Nat.le_refl _, Nat.zero_le _, by simp, by simp⟩⟩
  have hlt : g < W.heap.size := by
    rcases Nat.lt_or_ge g W.heap.size with h1 | h1
    · exact h1
    · rw [Array.getElem?_eq_none h1] at hg; cases hg
  have hE : ∀ w1 x, x ∈ xs → E.own w1 x (enc x) [] := fun w1 x hx => by
    obtain ⟨k, hk, rfl⟩ := List.mem_iff_getElem.1 hx
    obtain ⟨y, b, off, cs, hy, _, _, ha, _⟩ := hl.get (k := k) (by rw [← hl.1]; exact hk)
    rw [List.getElem?_eq_getElem hk] at hy
    injection hy with hy
    subst hy
    exact hF.own ha w1
  have main : ∀ v w1, w1.ownsRow g e E.size v n (xs.flatMap enc) → W.grownBy w1 (some g) → ∃ A2 c2 fp, v = .slice A2 n c2 ∧ Sep w0 w1 (tsl E e xs (.slice A2 n c2) fp :: ts) ∧ Below wr.heap.size wr w1 := fun v w1 k1 k2 => by
    have h0 : w1.ownsRow 0 e E.size v n (xs.flatMap enc) := ⟨k1.1, k1.2.imp id fun ⟨g', cap, cur, h1, _, h3⟩ => ⟨g', cap, cur, h1, Nat.zero_le _, h3⟩⟩
    have hs := SlOwn.of_row h0 (fun x hx => hE w1 x hx) hl.1
    obtain ⟨A2, n2, c2, hv, hn2, _⟩ := hs.form
    have hbl : Below wr.heap.size wr w1 := hb.grown k2 (by have := hb.size; omega) (fun k hk => by injection hk with hk; omega)
    subst hv
    have hn3 : n2 = n := hn2.trans hl.1
    subst hn3
    exact ⟨A2, c2, _, rfl, h.add hbl (t := tsl E e xs (.slice A2 n2 c2) _) hs (by simp only [tsl]; cases (Value.slice A2 n2 c2).ownBlock <;> simp) (fun b hb => by
      simp only [tsl, Option.mem_toList] at hb
      have := (k1.lt b hb).1; omega), hbl⟩
  cases A with
  | none =>
    have hc0 : c = 0 := hl.2.2.2.1 rfl
    have hn0 : n = 0 := by have := hl.2.1; omega
    subst hc0; subst hn0
    have hx0 : xs = [] := List.length_eq_zero_iff.1 hl.1
    have hr := run_append_owned_none (P := P) W g t ty e i E.size ht hi _ _ _ hown
    obtain ⟨A2, c2, fp, hv, hS, hB⟩ := main _ W (by rw [hx0]; exact hown) ⟨rfl, rfl, rfl, Nat.le_refl _, fun _ _ _ => rfl⟩
    exact ⟨A2, c2, fp, W, by rw [hr, hv], hS, hB⟩
  | some a =>
    obtain ⟨v', w1, hr, h2, h3, _, h5⟩ := run_append_own_at (P := P) W g t ty e i z E.size bytes ht hi hz hsize hby hzs hsz _ 0 [] hown a n c (xs.flatMap enc) (flat_len (fun x cs h => hF.at_ h) hl) (flat_cells' (fun x cs h => hF.at_ h) hl) (fun u hu => by
      obtain ⟨x, hx, hu⟩ := List.mem_flatMap.1 hu
      exact E.one (hE W x hx) u hu) (by omega) (by rw [Nat.zero_add]; exact hbytes) (by omega)
    rw [Nat.zero_add, List.nil_append] at h2
    obtain ⟨A2, c2, fp, hv, hS, hB⟩ := main v' w1 h2 h3
    exact ⟨A2, c2, fp, w1, by rw [hr, hv], hS, hB⟩

theorem wp_clone {o : Oper} {a : Act} {K : Act → World → Prop} {Q : Exit → Act → World → Prop} (s x : Operand) (t : TypeId)
    (ho : o.op = .call { callee := .builtin .append, args := #[s, x], argTypes := #[t, t] })
    (hF : Flat E enc) (i : TypeInfo) (z : Value) (bytes : Nat) (ht : P.underlying t = some (.slice e)) (hi : P.info? e = some i) (hz : i.zero = some z) (hsize : i.size = E.size) (hby : i.bytes = bytes) (hzs : z.cells.size = E.size) (hsz : 0 < E.size)
    (h : Sep w0 wr ts) (hb : Below wr.heap.size wr W) (hg : W.heap[g]? = some (.cells #[] e (0, 0))) (hgn : wr.heap.size ≤ g) (hl : SlAt E W B xs A n c) (hn : n ≤ maxLen) (hbytes : n * bytes ≤ 140737488355328)
    (hs : a.eval s = .slice (some ⟨g, 0, none⟩) 0 0) (hx : a.eval x = .slice A n c)
    (hk : ∀ A2 c2 fp w1, Sep w0 w1 (tsl E e xs (.slice A2 n c2) fp :: ts) → Below wr.heap.size wr w1 → K (a.put o.dst (.slice A2 n c2)) w1) : o.wp P a W K Q := by
  obtain ⟨A2, c2, fp, w1, hr, h2, h3⟩ := run_clone (P := P) hF t o.type i z bytes ht hi hz hsize hby hzs hsz h hb hg hgn hl hn hbytes
  unfold Oper.wp execOp
  simp only [ho, resolve, invoke, builtin, Sem.run_bind, Sem.run_pure, Result.andThen_ok, List.map_toArray, List.map_cons, List.map_nil, hs, hx, hr]
  exact hk A2 c2 fp w1 h2 h3
theorem step_clone {ops : Array Oper} {o : Oper} {a : Act} {K : Act → World → Prop} {Q : Exit → Act → World → Prop} {X : Prop} (hgd : o.guard = none) (s x : Operand) (t : TypeId)
    (ho : o.op = .call { callee := .builtin .append, args := #[s, x], argTypes := #[t, t] })
    (hF : Flat E enc) (i : TypeInfo) (z : Value) (bytes : Nat) (ht : P.underlying t = some (.slice e)) (hi : P.info? e = some i) (hz : i.zero = some z) (hsize : i.size = E.size) (hby : i.bytes = bytes) (hzs : z.cells.size = E.size) (hsz : 0 < E.size)
    (h : Sep w0 wr ts) (hb : Below wr.heap.size wr W) (hg : W.heap[g]? = some (.cells #[] e (0, 0))) (hgn : wr.heap.size ≤ g) (hl : SlAt E W B xs A n c) (hn : n ≤ maxLen) (hbytes : n * bytes ≤ 140737488355328)
    (hs : a.eval s = .slice (some ⟨g, 0, none⟩) 0 0) (hx : a.eval x = .slice A n c)
    (hk : ∀ A2 c2 fp w1, Sep w0 w1 (tsl E e xs (.slice A2 n c2) fp :: ts) → Below wr.heap.size wr w1 → K (a.put o.dst (.slice A2 n c2)) w1) :
    if Region.wanted o (yielded ops a.tmps) = true then Oper.wp P o a W K Q else X := by
  have hw : Region.wanted o (yielded ops a.tmps) = true := by simp [Region.wanted, hgd]
  rw [if_pos hw]
  exact wp_clone s x t ho hF i z bytes ht hi hz hsize hby hzs hsz h hb hg hgn hl hn hbytes hs hx hk
theorem wpList_clone {ops : Array Oper} {rest : List Oper} {o : Oper} {a : Act} {Q : Exit → Act → World → Prop} (hgd : o.guard = none) (s x : Operand) (t : TypeId)
    (ho : o.op = .call { callee := .builtin .append, args := #[s, x], argTypes := #[t, t] })
    (hF : Flat E enc) (i : TypeInfo) (z : Value) (bytes : Nat) (ht : P.underlying t = some (.slice e)) (hi : P.info? e = some i) (hz : i.zero = some z) (hsize : i.size = E.size) (hby : i.bytes = bytes) (hzs : z.cells.size = E.size) (hsz : 0 < E.size)
    (h : Sep w0 wr ts) (hb : Below wr.heap.size wr W) (hg : W.heap[g]? = some (.cells #[] e (0, 0))) (hgn : wr.heap.size ≤ g) (hl : SlAt E W B xs A n c) (hn : n ≤ maxLen) (hbytes : n * bytes ≤ 140737488355328)
    (hs : a.eval s = .slice (some ⟨g, 0, none⟩) 0 0) (hx : a.eval x = .slice A n c)
    (hk : ∀ A2 c2 fp w1, Sep w0 w1 (tsl E e xs (.slice A2 n c2) fp :: ts) → Below wr.heap.size wr w1 → wpList P ops Q rest (a.put o.dst (.slice A2 n c2)) w1) : wpList P ops Q (o :: rest) a W :=
  wpList_plain hgd fun K hK => wp_clone s x t ho hF i z bytes ht hi hz hsize hby hzs hsz h hb hg hgn hl hn hbytes hs hx (fun A2 c2 fp w1 h1 h2 => hK _ _ (hk A2 c2 fp w1 h1 h2))
end
end Mm
end Go.Proofs.Ytnppcdiicnofpaa

/-
  append of a whole slice of flat elements to a slice that the call owns; slices cut from the right and from the left. No program in sight. No conditions.
-/
namespace Go.Proofs.Ytnppcdiicnofpaa
open Go.RowKit
namespace Mm
section
variable {P : Program} {α : Type} {E : Rep α} {enc : α → List Value} {F : List Nat} {w0 wr : World} {ts : List Thing} {xs ys : List α} {A : Option Addr} {n c B : Nat} {e : TypeId} {v : Value} {fp : List Nat}
theorem SepF.appMany (hF : Flat E enc) (hN : FlatN E enc) (t ty : TypeId) (i : TypeInfo) (z : Value) (bytes : Nat) (ht : P.underlying t = some (.slice e)) (hi : P.info? e = some i) (hz : i.zero = some z) (hsize : i.size = E.size) (hby : i.bytes = bytes) (hzs : z.cells.size = E.size)
    (h : SepF F w0 wr ts) (k : Nat) (hk : ts[k]? = some (tsl E e ys v fp)) (hl : SlAt E wr B xs A n c) (hn : ys.length + n ≤ maxLen) (hbytes : (ys.length + n) * bytes ≤ 140737488355328) :
    ∃ A2 c2 fp' w1, (Builtin.append_ #[t, t] ty #[v, .slice A n c]).run P wr = .ok (.slice A2 (ys.length + n) c2) w1 ∧ SepF F w0 w1 (ts.set k (tsl E e (ys ++ xs) (.slice A2 (ys.length + n) c2) fp')) := by
  have hs : SlOwn E e wr ys v fp := h.at_ k hk
  obtain ⟨hown, hfp, hys, hlen⟩ := hN.owns hs
  have hE : ∀ w1 x, x ∈ xs → E.own w1 x (enc x) [] := fun w1 x hx => by
    obtain ⟨k, hk, rfl⟩ := List.mem_iff_getElem.1 hx
    obtain ⟨y, b, off, cs, hy, _, _, ha, _⟩ := hl.get (k := k) (by rw [← hl.1]; exact hk)
    rw [List.getElem?_eq_getElem hk] at hy
    injection hy with hy
    subst hy
    exact hF.own ha w1
  have main : ∀ v' w1, w1.ownsRow 0 e E.size v' (ys.length + n) (ys.flatMap enc ++ xs.flatMap enc) → wr.grownBy w1 v.ownBlock → (v'.ownBlock = v.ownBlock ∨ v'.ownBlock = some wr.heap.size) → ∃ A2 c2 fp', v' = .slice A2 (ys.length + n) c2 ∧ SepF F w0 w1 (ts.set k (tsl E e (ys ++ xs) (.slice A2 (ys.length + n) c2) fp')) := fun v' w1 k1 k2 k3 => by
    rw [← List.flatMap_append] at k1
    have hs1 : SlOwn E e w1 (ys ++ xs) v' v'.ownBlock.toList := SlOwn.of_row (enc := enc) (by rw [List.length_append, hl.1]; exact k1) (fun x hx => by
      rcases List.mem_append.1 hx with hx | hx
      · exact hys x hx w1
      · exact hE w1 x hx) rfl
    obtain ⟨A2, n2, c2, hv, hn2, _⟩ := hs1.form
    subst hv
    rw [List.length_append, hl.1] at hn2
    subst hn2
    refine ⟨A2, c2, _, rfl, h.upd hk (Chg.mk k2.os k2.tape k2.output k2.size fun b hb hn => k2.block b hb (fun hh => hn (row_in hs hh.symm))) (t' := tsl E e (ys ++ xs) (.slice A2 (ys.length + n) c2) _) hs1 (by simp only [tsl]; cases (Value.slice A2 (ys.length + n) c2).ownBlock <;> simp) (fun b hb => ?_)⟩
    simp only [tsl, Option.mem_toList] at hb
    rcases k3 with h3 | h3
    · rw [h3] at hb; exact .inl (row_in hs (by rw [Option.mem_def.1 hb]))
    · rw [h3] at hb; injection hb with hb; exact .inr (by omega)
  cases A with
  | none =>
    have hc0 : c = 0 := hl.2.2.2.1 rfl
    have hn0 : n = 0 := by have := hl.2.1; omega
    subst hc0; subst hn0
    have hx0 : xs = [] := List.length_eq_zero_iff.1 hl.1
    have hr := run_append_owned_none (P := P) wr 0 t ty e i E.size ht hi _ _ _ hown
    obtain ⟨A2, c2, fp', hv, hS⟩ := main _ wr (by rw [hx0]; simpa using hown) ⟨rfl, rfl, rfl, Nat.le_refl _, fun _ _ _ => rfl⟩ (.inl rfl)
    exact ⟨A2, c2, fp', wr, by rw [hr, hv], hS⟩
  | some a =>
    obtain ⟨v', w1, hr, h2, h3, _, h5⟩ := run_append_own_at (P := P) wr 0 t ty e i z E.size bytes ht hi hz hsize hby hzs hN.pos _ _ _ hown a n c (xs.flatMap enc) (flat_len (fun x cs h => hF.at_ h) hl) (flat_cells' (fun x cs h => hF.at_ h) hl) (fun u hu => by
      obtain ⟨x, hx, hu⟩ := List.mem_flatMap.1 hu
      exact E.one (hE wr x hx) u hu) hn hbytes (Nat.zero_le _)
    obtain ⟨A2, c2, fp', hv, hS⟩ := main v' w1 h2 h3 h5
    exact ⟨A2, c2, fp', w1, by rw [hr, hv], hS⟩
theorem wpList_appMany {ops : Array Oper} {rest : List Oper} {o : Oper} {a : Act} {Q : Exit → Act → World → Prop} {m : Nat} (hgd : o.guard = none) (s x : Operand) (t : TypeId)
    (ho : o.op = .call { callee := .builtin .append, args := #[s, x], argTypes := #[t, t] })
    (hF : Flat E enc) (hN : FlatN E enc) (i : TypeInfo) (z : Value) (bytes : Nat) (ht : P.underlying t = some (.slice e)) (hi : P.info? e = some i) (hz : i.zero = some z) (hsize : i.size = E.size) (hby : i.bytes = bytes) (hzs : z.cells.size = E.size)
    (h : SepF F w0 wr ts) (k : Nat) (hk : ts[k]? = some (tsl E e ys v fp)) (hl : SlAt E wr B xs A n c) (hm : ys.length + n = m) (hn : m ≤ maxLen) (hbytes : m * bytes ≤ 140737488355328) (hs : a.eval s = v) (hx : a.eval x = .slice A n c)
    (hnext : ∀ A2 c2 fp' w1, SepF F w0 w1 (ts.set k (tsl E e (ys ++ xs) (.slice A2 m c2) fp')) → wpList P ops Q rest (a.put o.dst (.slice A2 m c2)) w1) : wpList P ops Q (o :: rest) a wr := by
  subst hm
  refine wpList_plain hgd fun K hK => ?_
  obtain ⟨A2, c2, fp', w1, hr, h2⟩ := h.appMany (P := P) hF hN t o.type i z bytes ht hi hz hsize hby hzs k hk hl hn hbytes
  unfold Oper.wp execOp
  simp only [ho, resolve, invoke, builtin, Sem.run_bind, Sem.run_pure, Result.andThen_ok, List.map_toArray, List.map_cons, List.map_nil, hs, hx, hr]
  exact hK _ _ (hnext A2 c2 fp' w1 h2)
/-- a slice that is owned, read -/
theorem SepF.rdSl (h : SepF F w0 wr ts) (k : Nat) (hk : ts[k]? = some (tsl E e ys (.slice A n c) fp)) : SlAt E wr wr.heap.size ys A n c := (h.sl k hk).weak fun b hb => (h.sl k hk).olt b hb
/-- cut from the left, as Go lays it -/
theorem SlAt.cut {w : World} {g j : Nat} (h : SlAt E w B xs (some ⟨g, 0, none⟩) n c) (hj : j ≤ n) {s : Nat} (hs : E.size = s) : ∃ A', (if c = j then (some ⟨g, 0, none⟩ : Option Addr) else some ⟨g, j * s, none⟩) = A' ∧ SlAt E w B (xs.drop j) A' (n - j) (c - j) := by
  subst hs
  by_cases hc : c = j
  · rw [if_pos hc]
    have hn : n = j := by have := h.2.1; omega
    subst hn
    have hx : xs.drop n = [] := List.drop_eq_nil_of_le (by rw [h.1]; exact Nat.le_refl _)
    rw [hx, Nat.sub_self]
    exact ⟨_, rfl, SlAt.nil (by have := h.2.2.1; omega) (fun hh => by cases hh)⟩
  · rw [if_neg hc]
    have := h.drop hj
    rw [Nat.zero_add] at this
    exact ⟨_, rfl, this⟩
/-- 's[j:]', the bound an int, as one equation -/
theorem run_cut {P : Program} {t : TypeId} {s : Nat} (ht : P.underlying t = some (.slice (P.elem t))) (hs : ∀ W, (sizeOf (P.elem t)).run P W = .ok s W) {g n c : Nat} {j : Nat} {i : Int} (hi : i = j) (hj : j ≤ n) (W : World) :
    (Instr.slice t (.slice (some ⟨g, 0, none⟩) n c) (some (.int .i64 i)) none none).run P W = .ok (.slice (if c = j then (some ⟨g, 0, none⟩ : Option Addr) else some ⟨g, j * s, none⟩) (n - j) (c - j)) W := by
  subst hi
  rw [run_slice_l W t _ n c ht .i64 (j : Int) (by omega) (by omega), hs]
  simp only [Result.andThen_ok, sliced, Int.toNat_natCast]
  congr 1
  by_cases h : c = j
  · simp [h]
  · simp only [h, if_false, Option.map_some, Addr.add]
    by_cases h0 : j * s = 0
    · simp [h0]
    · simp [h0]
/-- an empty slice, just laid -/
theorem SepF.fresh {g : Nat} (h : SepF F w0 wr ts) (hg : wr.heap.size = g) (E : Rep α) (e : TypeId) : SepF F w0 (wr.alloc (.cells #[] e)) (tsl E e [] (.slice (some ⟨g, 0, none⟩) 0 0) [g] :: ts) := by
  have h1 := h.alloc' hg e []
  refine h1.conv (by simp [tblk, tsl]) (List.forall_mem_cons.2 ⟨?_, fun u hu => h1.hold u (List.mem_cons_of_mem _ hu)⟩)
  have hb : Blk (wr.alloc (.cells #[] e)) g e [] := h1.at_ 0 rfl
  exact ⟨[], ⟨rfl, fun i x y h => by simp at h⟩, ⟨by simp, .inr ⟨g, 0, #[], rfl, Nat.zero_le _, hb, Nat.le_refl _, Nat.zero_le _, by simp, by simp⟩⟩, by simp [Value.ownBlock]⟩
end
end Mm
end Go.Proofs.Ytnppcdiicnofpaa

/-
  'append([]T{}, l...)' inside a region that draws its order and gives; an empty slice just laid; the two ways of telling what a call owns. No program in sight. No conditions.
-/
namespace Go.Proofs.Ytnppcdiicnofpaa
open Go.RowKit
namespace Mm
theorem Sep.toF {w0 wr : World} {ts : List Thing} (h : Sep w0 wr ts) : SepF [] w0 wr ts := ⟨Chg.of_below h.bel, h.nd, fun b hb => .inr (h.new b hb), h.hold⟩
theorem SepF.toSep {w0 wr : World} {ts : List Thing} (h : SepF [] w0 wr ts) : Sep w0 wr ts := ⟨h.bel0, h.nd, fun b hb => (h.new b hb).resolve_left (fun h => by cases h), h.hold⟩
section
variable {P : Program} {F : List Nat} {w X : World} {ops : Array Oper} {o : Oper} {a a' : Act} {others tk : List Thing} {vals : List Value} {α : Type} {E : Rep α} {enc : α → List Value} {e : TypeId} {xs : List α} {v : Value} {fp : List Nat} {A : Option Addr} {n c B : Nat}
theorem clone_gvq (hgd : o.guard = none) (s y : Operand) (t : TypeId) (ho : o.op = .call { callee := .builtin .append, args := #[s, y], argTypes := #[t, t] }) (d : Nat) (hd : o.dst = some d) (hs : Nat.blt d a.tmps.size = true)
    (hF : Flat E enc) (hN : FlatN E enc) (i : TypeInfo) (z : Value) (bytes : Nat) (ht : P.underlying t = some (.slice e)) (hi : P.info? e = some i) (hz : i.zero = some z) (hsize : i.size = E.size) (hby : i.bytes = bytes) (hzs : z.cells.size = E.size)
    (hsv : a.eval s = v) (hyv : a.eval y = .slice A n c) (hl : SlAt E X B xs A n c) (hn : n ≤ maxLen) (hbytes : n * bytes ≤ 140737488355328)
    (hS : SepF F w X ([tsl E e [] v fp] ++ others)) : wpList P ops (GvQ F w (gSl E e xs vals tk) d a.defers others) [o] a X := by
  refine wpList_appMany hgd s y t ho hF hN i z bytes ht hi hz hsize hby hzs hS 0 rfl hl (m := n) (by simp) hn hbytes hsv hyv ?_
  intro A2 c2 fp' w1 h1
  have e1 : ((a.put o.dst (.slice A2 n c2)).tmps.getD d undef) = .slice A2 n c2 := by
    rw [hd]; exact put_get (by simpa [Nat.blt_eq] using hs) _
  unfold wpList
  exact ⟨rfl, by rw [hd]; rfl, _, ⟨A2, n, c2, fp', e1, rfl, hl.1.symm⟩, h1⟩
theorem gvq_fresh {g d : Nat} {df : List Deferred} (h : SepF F w X others) (hg : X.heap.size = g) (hv : a'.tmps.getD d undef = .slice (some ⟨g, 0, none⟩) 0 0) (hdf : a'.defers = df) : GvQ F w (gSl E e [] vals tk) d df others .normal a' (X.alloc (.cells #[] e)) :=
  ⟨rfl, hdf, _, ⟨_, _, _, _, hv, rfl, rfl⟩, h.fresh hg E e⟩
end
end Mm
end Go.Proofs.Ytnppcdiicnofpaa

/-
  Slices of slices that are cloned row by row: first the headers alone are copied, then each row is replaced by its clone. No program in sight. No conditions.
-/
namespace Go.Proofs.Ytnppcdiicnofpaa
open Go.RowKit
namespace Mm
abbrev Hdr := Option Addr × Nat × Nat
def hval (h : Hdr) : Value := .slice h.1 h.2.1 h.2.2
def hdr : Rep Hdr := flat 1 (fun h => [hval h]) (fun _ => True) (fun _ => rfl) (fun _ u hu => by rw [List.mem_singleton.1 hu]; rfl)
theorem flat_hdr : Flat hdr (fun h => [hval h]) := ⟨fun h => h.1, fun h w' => ⟨rfl, trivial, rfl⟩⟩
theorem flatN_hdr : FlatN hdr (fun h => [hval h]) := ⟨by decide, fun h => by
  obtain ⟨rfl, h1, rfl⟩ := h
  exact ⟨rfl, rfl, fun w' => ⟨rfl, trivial, rfl⟩⟩⟩
/-- a row of the call's own, or a header alone -/
def orv {α : Type} (E : Rep α) (e : TypeId) : Rep (List α ⊕ Hdr) where
  size := 1
  at_ := fun w B x cs => match x with
    | .inl xs => (slice E e).at_ w B xs cs
    | .inr h => cs = [hval h]
  own := fun w x cs fp => match x with
    | .inl xs => (slice E e).own w xs cs fp
    | .inr h => cs = [hval h] ∧ fp = []
  len := fun {w B x cs} h => by
    cases x with
    | inl xs => exact (slice E e).len h
    | inr y => rw [show cs = [hval y] from h]; rfl
  olen := fun {w x cs fp} h => by
    cases x with
    | inl xs => exact (slice E e).olen h
    | inr y => rw [show cs = [hval y] from h.1]; rfl
  one := fun {w x cs fp} h u hu => by
    cases x with
    | inl xs => exact (slice E e).one h u hu
    | inr y => rw [show cs = [hval y] from h.1] at hu; rw [List.mem_singleton.1 hu]; rfl
  keep := fun {w w' B x cs} h k => by
    cases x with
    | inl xs => exact (slice E e).keep h k
    | inr y => exact h
  more := fun {w B B' x cs} h k => by
    cases x with
    | inl xs => exact (slice E e).more h k
    | inr y => exact h
  okeep := fun {w w' x cs fp} h k => by
    cases x with
    | inl xs => exact (slice E e).okeep h k
    | inr y => exact h
  olt := fun {w x cs fp} h b hb => by
    cases x with
    | inl xs => exact (slice E e).olt h b hb
    | inr y => rw [show fp = [] from h.2] at hb; cases hb
  weak := fun {w B x cs fp} h k => by
    cases x with
    | inl xs => exact (slice E e).weak h k
    | inr y => exact h.1
section
variable {α : Type} {E : Rep α} {e e2 : TypeId} {w : World} {B : Nat} {v : Value} {fp : List Nat}
theorem orv_start {hs : List Hdr} (h : SlOwn hdr e2 w hs v fp) : SlOwn (orv E e) e2 w (hs.map .inr) v fp := by
  obtain ⟨es, he, ho, rfl⟩ := h
  refine ⟨es, ⟨by rw [List.length_map]; exact he.1, fun i x y hx hy => ?_⟩, by rw [List.length_map]; exact ho, rfl⟩
  rw [List.getElem?_map] at hx
  cases hh : hs[i]? with
  | none => rw [hh] at hx; cases hx
  | some h =>
    rw [hh] at hx
    injection hx with hx
    subst hx
    have := he.2 i h y hh hy
    exact ⟨this.1, this.2.2⟩
theorem orv_end {xs : List (List α)} (h : SlOwn (orv E e) e2 w (xs.map .inl) v fp) : SlOwn (slice E e) e2 w xs v fp := by
  obtain ⟨es, he, ho, rfl⟩ := h
  refine ⟨es, ⟨by rw [he.1, List.length_map], fun i x y hx hy => ?_⟩, by rw [List.length_map] at ho; exact ho, rfl⟩
  exact he.2 i (.inl x) y (by rw [List.getElem?_map, hx]; rfl) hy
/-- the headers of a slice of slices that is read -/
theorem hdrs {xs : List (List α)} {A : Option Addr} {n c : Nat} (h : SlAt (slice E e) w B xs A n c) : ∃ hs : List Hdr, SlAt hdr w B hs A n c ∧ ∀ (k : Nat) (x : List α), xs[k]? = some x → ∃ y, hs[k]? = some y ∧ SlAt E w B x y.1 y.2.1 y.2.2 := by
  have key : ∀ k : Nat, ∃ y : Hdr, ∀ x, xs[k]? = some x → ∃ b off, A = some ⟨b, off, none⟩ ∧ b < B ∧ SlAt E w B x y.1 y.2.1 y.2.2 ∧ w.cell? ⟨b, off + k, none⟩ = some (hval y) := fun k => by
    cases hx : xs[k]? with
    | none => exact ⟨(none, 0, 0), fun x h => by cases h⟩
    | some x =>
      obtain ⟨b, off, cs, hA, hb, ⟨A', n', c', rfl, ha⟩, hc⟩ := h.2.2.2.2 k x hx
      refine ⟨(A', n', c'), fun x' hx' => ?_⟩
      injection hx' with hx'
      subst hx'
      refine ⟨b, off, hA, hb, ha, ?_⟩
      have := hc 0 _ rfl
      rw [show (slice E e).size = 1 from rfl, Nat.mul_one, Nat.add_zero] at this
      exact this
  obtain ⟨f, hf⟩ := Classical.axiomOfChoice key
  refine ⟨(List.range n).map f, ⟨by simp, h.2.1, h.2.2.1, h.2.2.2.1, fun i y hy => ?_⟩, fun k x hx => ?_⟩
  · rw [List.getElem?_map] at hy
    have hi : i < n := by
      rcases Nat.lt_or_ge i n with h1 | h1
      · exact h1
      · rw [List.getElem?_eq_none (by simpa using h1)] at hy; cases hy
    rw [List.getElem?_range hi] at hy
    injection hy with hy
    subst hy
    have hl : i < xs.length := by rw [h.1]; exact hi
    obtain ⟨b, off, hA, hb, ha, hc⟩ := hf i _ (List.getElem?_eq_getElem hl)
    refine ⟨b, off, [hval (f i)], hA, hb, ⟨rfl, trivial⟩, fun j u hj => ?_⟩
    cases j with
    | zero =>
      injection hj with hj
      subst hj
      rw [show hdr.size = 1 from rfl, Nat.mul_one, Nat.add_zero]
      exact hc
    | succ j => simp at hj
  · have hk : k < n := by rw [← h.1]; exact (List.getElem?_eq_some_iff.1 hx).1
    obtain ⟨b, off, hA, hb, ha, hc⟩ := hf k x hx
    exact ⟨f k, by rw [List.getElem?_map, List.getElem?_range hk]; rfl, ha⟩
/-- row k, a header alone, becomes a row of the call's own -/
theorem SepF.rowIn {F : List Nat} {w0 wr : World} {ts : List Thing} {ys : List (List α ⊕ Hdr)} {g n c k : Nat} {z : List α ⊕ Hdr} {xs : List α} {A : Option Addr} {m d : Nat} {fx : List Nat} (h : SepF F w0 wr (tsl E e xs (.slice A m d) fx :: tsl (orv E e) e2 ys (.slice (some ⟨g, 0, none⟩) n c) fp :: ts)) (hk : ys[k]? = some z) :
    ∃ fp', SepF F w0 (wr.setCell ⟨g, k, none⟩ (.slice A m d)) (tsl (orv E e) e2 (ys.set k (.inl xs)) (.slice (some ⟨g, 0, none⟩) n c) fp' :: ts) := by
  have ho : SlOwn (orv E e) e2 wr ys (.slice (some ⟨g, 0, none⟩) n c) fp := h.at_ 1 rfl
  have hx : SlOwn E e wr xs (.slice A m d) fx := h.at_ 0 rfl
  have hnx : fx.Nodup := h.ndat (i := 0) rfl
  have hap : ∀ b, b ∈ fx → b ∉ fp := h.apart (i := 0) (j := 1) rfl rfl (by decide)
  have hgf : g ∈ fp := ho.mem_block
  have hown : (orv E e).own wr (.inl xs) [.slice A m d] fx := ⟨_, rfl, hx⟩
  have hkl : k < ys.length := (List.getElem?_eq_some_iff.1 hk).1
  obtain ⟨fp', h1, h2, h3⟩ := ho.set (i := k) hkl hown (h.ndat (i := 1) rfl) hnx (fun b hb hm => hap b hb hm)
  rw [show (orv E e).size = 1 from rfl, Nat.mul_one] at h1
  refine ⟨fp', ?_⟩
  have h4 := h.upd2 (i := 1) (j := 0) (by decide) rfl rfl (W := wr.setCell ⟨g, k, none⟩ (.slice A m d)) (t' := tsl (orv E e) e2 (ys.set k (.inl xs)) (.slice (some ⟨g, 0, none⟩) n c) fp') ((Chg.refl _ _).setCell (List.mem_append_left _ hgf) _) h1 h2 (fun b hb => by
    rcases h3 b hb with h | h
    · exact .inl h
    · exact .inr (.inl h))
  exact h4.tail
end
end Mm
end Go.Proofs.Ytnppcdiicnofpaa

/-
  Contracts: slices.Clone, for the chapters' structs that lead nowhere and for slices of slices (their headers). No conditions.
-/
namespace Go.Proofs.Ytnppcdiicnofpaa
open Go.RowKit
def Mm.encH (h : Mm.Hdr) : List Value := [Mm.hval h]
end Go.Proofs.Ytnppcdiicnofpaa

/-
  Contracts: the totals of a list combined, the program's. No conditions beyond those named.
-/
namespace Go.Proofs.Ytnppcdiicnofpaa
open Go.RowKit
attribute [local go_sem] und_cell World.cell?_alloc_some
def Mm.encLab (x : Label) : List Value := [.string x.Name, .string x.Value]
theorem Mm.flatA_lab : Mm.Flat rLabel Mm.encLab := ⟨fun h => (rLabel_at h).1, fun h w' => rLabel_own_mk (rLabel_at h).2⟩
theorem Try.info_clLab : (Try.prog.info? 97).map (fun i => (i.zero, i.size, i.bytes)) = some (some (.agg #[.string ⟨#[]⟩, .string ⟨#[]⟩]), 2, 32) := by kernel_rfl
set_option maxRecDepth 100000 in
set_option maxHeartbeats 1000000 in
theorem clLab_c (l : List Label) (A : Option Addr) (n c : Nat) (w : World) (B : Nat) (hl : Mm.SlAt rLabel w B l A n c) (hn : n ≤ 1048576) :
    Calls Try.prog 84 #[.slice A n c] w (Mm.NewSl rLabel 97 w l) := by
  have hlen := Lib.hid hl.1
  have hcap := hl.2.1
  have hq : ∀ (w : World) (a : Option Addr) (n c n' c' : Nat), (binOp .eql 48 (.slice a n c) (.slice none n' c')).run Try.prog w = .ok (.bool a.isNone) w := fun w a n c n' c' => Lib.run_eql_slice_nil w _ _ a n c n' c' Try.underlying48
  cases A with
  | none =>
    have hc : c = 0 := hl.2.2.2.1 rfl
    have hl0 : l = [] := List.length_eq_zero_iff.1 (by rw [hlen.out]; omega)
    subst hl0
    clear hl
    go_enter Try.func84, Try.ntmps84
    go_wp2
    go_ret
    exact (Mm.Acc.nil (Below.refl _ _)).newsl
  | some a =>
    have HC := Lib.hid (Mm.flat_cells' (E := rLabel) (enc := Mm.encLab) (fun x cs h => (Mm.flatA_lab).at_ h) hl)
    have HLN := Lib.hid (Mm.flat_len (E := rLabel) (enc := Mm.encLab) (fun x cs h => (Mm.flatA_lab).at_ h) hl)
    have HOK : Hid (∀ (w' : World) x, x ∈ l → (rLabel).own w' x ((Mm.encLab) x) []) := fun w' x hx => by
      obtain ⟨i, hi, rfl⟩ := List.mem_iff_getElem.1 hx
      obtain ⟨y, b, off, cs, hy, _, _, ha, _⟩ := hl.get (k := i) (by rw [← hlen.out]; exact hi)
      rw [List.getElem?_eq_getElem hi] at hy
      injection hy with hy
      subst hy
      exact (Mm.flatA_lab).own ha w'
    have H1 : Hid (∀ u : Value, u ∈ l.flatMap Mm.encLab → u.oneCell' = true) := fun u hu => by
      obtain ⟨x, hx, hu⟩ := List.mem_flatMap.1 hu
      exact (rLabel).one (HOK.out w x hx) u hu
    clear hl
    obtain ⟨i0, hi, hz0, hz1, hz2⟩ := info_parts Try.info_clLab
    go_enter Try.func84, Try.ntmps84
    go_wp2_with (at_builtin; refine wpList_append_own_at _ rfl _ _ 48 rfl w.heap.size 97 i0 (.agg #[.string ⟨#[]⟩, .string ⟨#[]⟩]) 2 32 Try.underlying48 hi hz0 hz1 hz2 rfl (by decide) _ _ _ rfl (World.ownsRow_made w #[] 0 (Nat.le_refl _) (Nat.zero_le _) rfl) a n c (l.flatMap Mm.encLab) rfl HLN.out (fun j u hj => Lib.cell?_alloc_some _ (HC.out j u hj)) H1.out (by unfold maxLen; omega) (by omega) (by simp) ?_; intro v' w1 hown hgrow hnil hat)
    have HA := Lib.hid (Mm.clone_post (E := rLabel) (e := 97) (Nat.zero_add _) (List.nil_append _) hown hgrow (fun x hx => HOK.out _ x hx) hlen.out)
    clear hown hgrow hat hnil
    go_wp2
    go_ret
    exact HA.out.newsl
theorem cell_set_off {w : World} {g a b : Nat} {u v : Value} (h : a ≠ b) (hc : w.cell? ⟨g, b, none⟩ = some v) : (w.setCell ⟨g, a, none⟩ u).cell? ⟨g, b, none⟩ = some v := by
  rw [World.cell?_setCell_other]
  · exact hc
  · intro e
    injection e with _ e _
    exact h e
theorem totOk_i64 {x : Total} (h : Pl.totOk x = true) : Mm.I64 x.Sum ∧ Mm.I64 x.Count ∧ Mm.I64 x.Least ∧ Mm.I64 x.Most := by
  obtain ⟨_, h2, h3, h4, h5⟩ := Pl.totOk_iff.1 h
  unfold Mm.I64
  omega
set_option maxRecDepth 100000 in
set_option maxHeartbeats 4000000 in
theorem combined_c (l : List Total) (A : Option Addr) (n c : Nat) (w : World) (B : Nat) (hl : Mm.SlAt rTotal w B l A n c) (hB : B ≤ w.heap.size) (hok : ∀ x, x ∈ l → Pl.totOk x = true) (hn : n ≤ 80) :
    Calls Try.prog 59 #[.slice A n c] w (Mm.RetS2 rTotal 50 w (Pl.tgood (Pl.tcomb l)).1 (Pl.tgood (Pl.tcomb l)).2) := by
  have HL := Lib.hid hl
  have HLN : Hid (l.length = n) := hl.1
  have HOK := Lib.hid hok
  clear hl hok
  go_enter Try.func59, Try.ntmps59
  go_wp2
  go_loopg [4, 12] n (fun g o i wr => ∃ (k m : Nat) (A1 : Option Addr) (c1 : Nat) (fp : List Nat) (xs : List Total), n - k ≤ g ∧ k ≤ n ∧ i = .int .i64 k ∧ o = .slice A1 m c1 ∧ Hid (m = xs.length) ∧ Hid (xs = Pl.tcomb (l.take k)) ∧ Hid (Mm.SepF [] w wr [Mm.tsl rTotal 50 xs (.slice A1 m c1) fp]))
  case atStart => exact ⟨0, 0, none, 0, [], [], Nat.le_refl _, Nat.zero_le _, rfl, rfl, rfl, rfl, (Mm.SepF.start w).add (Below.refl _ _) (t := Mm.tsl rTotal 50 [] (.slice none 0 0) []) Mm.SlOwn.nil List.nodup_nil (fun b hb => by cases hb)⟩
  case round =>
    obtain ⟨k, m, A1, c1, fp, xs, hgk, hk, rfl, rfl, HM, HX, HS⟩ := hrel
    obtain ⟨W, rfl⟩ : ∃ W : World, W = wr := ⟨_, rfl⟩
    have hT : Pl.TOk k xs := by rw [HX.out]; exact Pl.TOk.comb HOK.out k (by rw [HLN.out]; exact hk)
    have hm80 : m ≤ 80 := by have := hT.len; have := HM.out; omega
    have HT := Lib.hid hT
    clear hT
    have hsw := HS.out.chg.size
    by_cases hlt : k < n
    · have f1 : (k : Int) < (n : Nat) := by omega
      have f2 : (0 : Int) ≤ (k : Nat) := by omega
      have f3 : ((k : Nat) : Int).toNat = k := by omega
      obtain ⟨x, bb, off, A2, n2, c2, hx, rfl, hbb, hlb, i1, i2, i3, i4, e0, e1, e2, e3, e4⟩ := rTotal_get (HL.out.keep (w' := W) fun b hb => HS.out.bel0.block b (Nat.lt_of_lt_of_le hb hB)) hlt
      have htx := HOK.out x (List.mem_of_getElem? hx)
      have HTX := Lib.hid htx
      have HLB := Lib.hid hlb
      have HNX := Lib.hid (Pl.tcomb_next hx)
      have HI := Lib.hid (And.intro i1 (And.intro i2 (And.intro i3 i4)))
      clear hx htx hlb i1 i2 i3 i4
      obtain ⟨gt, hgt⟩ : ∃ gt, W.heap.size = gt := ⟨_, rfl⟩
      obtain ⟨W1, hW1⟩ : ∃ W1, W.alloc (.cells #[.slice A2 n2 c2, .int .i64 x.Sum, .int .i64 x.Count, .int .i64 x.Least, .int .i64 x.Most] 50) = W1 := ⟨_, rfl⟩
      have HS1 := Lib.hid ((HS.out.alloc' hgt 50 [.slice A2 n2 c2, .int .i64 x.Sum, .int .i64 x.Count, .int .i64 x.Least, .int .i64 x.Most]).atW hW1)
      have hB1 : Below W.heap.size W W1 := by rw [← hW1]; exact below_new (Below.refl _ _) _
      have hBW : B ≤ W1.heap.size := by have := hB1.size; omega
      have HLB1 := Lib.hid (HLB.out.keep (w' := W1) fun b hb => hB1.block b (by omega))
      go_upto_region 5 with fail
      clear hW1 hB1 HS
      have s0 := HS1.out.cell (k := 0) 0 rfl rfl
      obtain ⟨p, hp⟩ : ∃ p, Pl.tpos (Pl.labelsText x.Labels) xs = p := ⟨_, rfl⟩
      go_upto_if 25 with first
        | (go_at_call 78; (with_reducible refine (labelsText_c x.Labels A2 n2 c2 W1 B HLB1.out hBW (Pl.totOk_lab HTX.out)).mono ?_); rintro e w2 ⟨rfl, hb2⟩; (have HS2 := Lib.hid (HS1.out.step hb2)); (have hsz2 := hb2.size); (have HLB2 := Lib.hid (HLB1.out.keep (w' := w2) fun b hb => hb2.block b (Nat.lt_of_lt_of_le hb hBW))); clear hb2 s0)
        | (go_at_call 81; refine (bsTot_c xs (Pl.labelsText x.Labels) A1 m c1 w2 _ ((HS2.out.sl 1 rfl).weak (HS2.out.sl 1 rfl).olt) (Nat.le_refl _) (by omega) HT.out.lab HT.out.sort).mono ?_; rintro e w3 ⟨fd, rfl, hfd, hb3⟩; (have HS3 := Lib.hid (HS2.out.step hb3)); (have HLB3 := Lib.hid (HLB2.out.keep (w' := w3) fun b hb => hb3.block b (Nat.lt_of_lt_of_le hb (Nat.le_trans hBW hsz2)))); clear hb3)
      rw [hp] at hfd
      have hpm : p ≤ m := by have := Pl.tpos_le (Pl.labelsText x.Labels) xs; have := HM.out; omega
      have HP : Hid (Pl.tpos (Pl.txt x) xs = p) := hp
      clear hp
      cases fd with
      | false =>
        have HXN : Hid (Pl.tcomb (l.take (k + 1)) = Mm.insertAt xs p x) := by
          show _ = _
          rw [HNX.out, ← HX.out]
          refine (Pl.tput_miss fun o ho he => ?_).trans (by rw [HP.out])
          rw [HP.out] at ho
          exact absurd (hfd.2 ⟨o, ho, he⟩) (by simp)
        clear hfd
        have CC := clLab_c x.Labels A2 n2 c2 w3 B HLB3.out (by have := Pl.labelsOk_len (Pl.totOk_lab HTX.out); have := HLB3.out.1; omega)
        have s0 := HS3.out.cell (k := 0) 0 rfl rfl
        go_upto_region 8 with (go_at_call 84; (with_reducible refine CC.mono ?_); clear CC; rintro e w4 ⟨A3, n3, c3, fp3, rfl, ho, hnd, hnew, hb4⟩; (have HS4 := Lib.hid (HS3.out.add hb4 (t := Mm.tsl rLabel 97 x.Labels (.slice A3 n3 c3) fp3) ho hnd hnew)); clear ho hnd hnew hb4 s0; (have s0 := HS4.out.cell (k := 0) 1 rfl rfl); (have z0 := HS4.out.frz (k := 0) 1 rfl))
        obtain ⟨W5, hW5⟩ : ∃ W5, w4.setCell ⟨gt, 0, none⟩ (.slice A3 n3 c3) = W5 := ⟨_, rfl⟩
        have HS5 := Lib.hid ((HS4.out.setBlk (k := 0) 1 rfl (.slice A3 n3 c3)).atW hW5)
        rw [hW5]
        clear hW5 s0 z0
        have t0 := HS5.out.cell (k := 0) 1 rfl rfl
        have t1 := HS5.out.cell (k := 1) 1 rfl rfl
        have t2 := HS5.out.cell (k := 2) 1 rfl rfl
        have t3 := HS5.out.cell (k := 3) 1 rfl rfl
        have t4 := HS5.out.cell (k := 4) 1 rfl rfl
        obtain ⟨lc, ho, h1c, hnext⟩ := HS5.out.insert 2 0 (by decide) (k := p) rfl (by rw [← HM.out]; exact hpm) rfl (below_new (Below.refl W5.heap.size W5) (.cells #[.slice A3 n3 c3, .int .i64 x.Sum, .int .i64 x.Count, .int .i64 x.Least, .int .i64 x.Most] 50)) (x := x) (cx := [.slice A3 n3 c3, .int .i64 x.Sum, .int .i64 x.Count, .int .i64 x.Least, .int .i64 x.Most]) (fun W h => rTotal_own_mk h HI.out.1 HI.out.2.1 HI.out.2.2.1 HI.out.2.2.2)
        rw [← HM.out] at ho hnext
        have hnb := Mm.Blk.new W5 50 [.slice A3 n3 c3, .int .i64 x.Sum, .int .i64 x.Count, .int .i64 x.Least, .int .i64 x.Most]
        have CI := insTotal_c lc [.slice A3 n3 c3, .int .i64 x.Sum, .int .i64 x.Count, .int .i64 x.Least, .int .i64 x.Most] m p W5.heap.size A1 c1 _ ho hpm (by omega) rfl (fun j u hj => hnb.cell hj) (by simp [Value.oneCell']) h1c (fun g hg => by
          subst hg
          have := (HS5.out.sl 2 rfl).olt g (HS5.out.sl 2 rfl).mem_block
          omega) (Mm.shape_blk hnb) (fun j => hnb.frozen _) hnb.lt
        have HNE := Lib.hid hnext
        clear hnext ho h1c hnb
        go_wp2_with (go_at_call 85; (with_reducible refine CI.mono ?_); clear CI; rintro e w7 ⟨A', n', c', rfl, hrow, hgrow, hat⟩; obtain ⟨fp', hs7⟩ := HNE.out _ w7 (by rw [List.append_assoc]; exact hrow) hgrow (hat.imp id (fun h g hg => by rw [h] at hg; injection hg with hg; omega)); (have HS7 := Lib.hid hs7); clear hs7 hrow hgrow hat)
        have hn' : n' = (Mm.insertAt xs p x).length := by obtain ⟨_, _, _, hv, q1, _⟩ := (HS7.out.sl 2 rfl).form; injection hv with _ q2 _; omega
        go_roundg (n - (k + 1))
        case measure => omega
        case rel => exact ⟨k + 1, n', A', c', fp', Mm.insertAt xs p x, Nat.le_refl _, by omega, by go_num, rfl, hn', HXN.out.symm, HS7.out.sel [2] (by decide) rfl⟩
      | true =>
        obtain ⟨o, ho, he⟩ := hfd.1 rfl
        have HXN : Hid (Pl.tcomb (l.take (k + 1)) = xs.set p (Pl.tadd o x)) := by
          show _ = _
          rw [HNX.out, ← HX.out]
          exact (Pl.tput_hit (by rw [HP.out]; exact ho) he).trans (by rw [HP.out])
        clear hfd
        have hpl : p < m := by have := (List.getElem?_eq_some_iff.1 ho).1; have := HM.out; omega
        obtain ⟨g, hg, -, -⟩ := Mm.sl_addr (HS3.out.sl 1 rfl) (by have := HM.out; omega)
        subst hg
        have hom := List.mem_of_getElem? ho
        have q1 := HT.out.sum o hom
        have q2 := HT.out.cnt o hom
        have q3 := HT.out.least o hom
        obtain ⟨-, r2, r3, r4, r5⟩ := Pl.totOk_iff.1 HTX.out
        have hw1 : IntKind.i64.wrap (o.Sum + x.Sum) = o.Sum + x.Sum := IntWalk.i64_in _ (by omega)
        have hw2 : IntKind.i64.wrap (o.Count + x.Count) = o.Count + x.Count := IntWalk.i64_in _ (by omega)
        obtain ⟨A4, n4, c4, u0, u1, u2, u3, u4⟩ := rTotal_ocell (HS3.out.sl 1 rfl) (HS3.out.ndat (i := 1) rfl) ho
        have f4 : (p : Int) < (m : Nat) := by omega
        have f5 : (0 : Int) ≤ (p : Nat) := by omega
        have f6 : ((p : Nat) : Int).toNat = p := by omega
        have t1 := HS3.out.cell (k := 1) 0 rfl rfl
        have t2 := HS3.out.cell (k := 2) 0 rfl rfl
        have t3 := HS3.out.cell (k := 3) 0 rfl rfl
        have t4 := HS3.out.cell (k := 4) 0 rfl rfl
        have HB3 := Lib.hid (And.intro q1 (And.intro q2 q3))
        have HR := Lib.hid (And.intro r2 (And.intro r3 (And.intro r4 r5)))
        clear q1 q2 q3 r2 r3 r4 r5
        have HO := Lib.hid ho
        clear ho
        go_upto_region 10 with fail
        refine wp_region_und_tail 9 (by kernel_rfl) (by kernel_rfl) ?_
        simp only [List.take_succ_cons, List.take_zero, List.drop_succ_cons, List.drop_zero]
        repeat (go_big_quiet_step ((first | (fail))))
        refine wpQuiet_nil ?_
        intro X hX
        have HS4 := Lib.hid (HS3.out.step hX)
        replace u1 := below_some hX u1
        replace u2 := below_some hX u2
        replace u3 := below_some hX u3
        replace u4 := below_some hX u4
        replace t2 := below_some hX t2
        replace t3 := below_some hX t3
        replace t4 := below_some hX t4
        have z1 := (HS4.out.sl 1 rfl).frozen (p * 5 + 1)
        have z2 := (HS4.out.sl 1 rfl).frozen (p * 5 + 2)
        go_upto_region 11 with fail
        obtain ⟨X1, hX1⟩ : ∃ X1, X.setCell ⟨g, p * 5 + 1, none⟩ (.int .i64 (o.Sum + x.Sum)) = X1 := ⟨_, rfl⟩
        have hpx : p < xs.length := (List.getElem?_eq_some_iff.1 HO.out).1
        have HS5 := Lib.hid ((HS4.out.putSl (x' := ⟨o.Labels, o.Sum + x.Sum, o.Count, o.Least, o.Most⟩) (m := 1) 1 rfl HO.out (by decide) (fun cs fx h => by
          obtain ⟨A, n, c, f, rfl, rfl, h0, i1, i2, i3, i4⟩ := rTotal_own h
          have j1 := HB3.out; have j2 := HR.out
          exact rTotal_own_mk (x := ⟨o.Labels, o.Sum + x.Sum, o.Count, o.Least, o.Most⟩) h0 (by unfold Mm.I64; show _ ≤ o.Sum + x.Sum ∧ o.Sum + x.Sum ≤ _; omega) i2 i3 i4)).atW hX1)
        rw [hX1]
        have v2 : X1.cell? ⟨g, p * 5 + 2, none⟩ = some (.int .i64 o.Count) := hX1 ▸ cell_set_off (by omega) u2
        have v3 : X1.cell? ⟨g, p * 5 + 3, none⟩ = some (.int .i64 o.Least) := hX1 ▸ cell_set_off (by omega) u3
        have v4 : X1.cell? ⟨g, p * 5 + 4, none⟩ = some (.int .i64 o.Most) := hX1 ▸ cell_set_off (by omega) u4
        clear hX1 u1 u2 u3 u4 t1 t2 t3 t4 z1 z2 hX
        have t2 := HS5.out.cell (k := 2) 0 rfl rfl
        refine wp_region_und_tail 9 (by kernel_rfl) (by kernel_rfl) ?_
        simp only [List.take_succ_cons, List.take_zero, List.drop_succ_cons, List.drop_zero]
        repeat (go_big_quiet_step ((first | (fail))))
        refine wpQuiet_nil ?_
        intro X hX
        have HS6 := Lib.hid (HS5.out.step hX)
        replace v2 := below_some hX v2
        replace v3 := below_some hX v3
        replace v4 := below_some hX v4
        have z2 := (HS6.out.sl 1 rfl).frozen (p * 5 + 2)
        go_upto_region 12 with fail
        obtain ⟨X2, hX2⟩ : ∃ X2, X.setCell ⟨g, p * 5 + 2, none⟩ (.int .i64 (o.Count + x.Count)) = X2 := ⟨_, rfl⟩
        have HS7 := Lib.hid ((HS6.out.putSl (k := p) (x' := ⟨o.Labels, o.Sum + x.Sum, o.Count + x.Count, o.Least, o.Most⟩) (m := 2) 1 rfl (List.getElem?_set_self hpx) (by decide) (fun cs fx h => by
          obtain ⟨A, n, c, f, rfl, rfl, h0, i1, i2, i3, i4⟩ := rTotal_own h
          have j1 := HB3.out; have j2 := HR.out
          exact rTotal_own_mk (x := ⟨o.Labels, o.Sum + x.Sum, o.Count + x.Count, o.Least, o.Most⟩) h0 i1 (by unfold Mm.I64; show _ ≤ o.Count + x.Count ∧ o.Count + x.Count ≤ _; omega) i3 i4)).atW hX2)
        rw [hX2]
        replace v3 : X2.cell? ⟨g, p * 5 + 3, none⟩ = some (.int .i64 o.Least) := hX2 ▸ cell_set_off (by omega) v3
        replace v4 : X2.cell? ⟨g, p * 5 + 4, none⟩ = some (.int .i64 o.Most) := hX2 ▸ cell_set_off (by omega) v4
        clear hX2 v2 z2 hX t2
        have t3 := HS7.out.cell (k := 3) 0 rfl rfl
        have t4 := HS7.out.cell (k := 4) 0 rfl rfl
        have z3 := (HS7.out.sl 1 rfl).frozen (p * 5 + 3)
        have z4 := (HS7.out.sl 1 rfl).frozen (p * 5 + 4)
        have d3 := HS7.out.step (Below.refl _ _).drew
        have y3 := (d3.sl 1 rfl).frozen (p * 5 + 3)
        have y4 := (d3.sl 1 rfl).frozen (p * 5 + 4)
        clear d3
        go_region
        go_wp2
        have hmin : min o.Least x.Least = if x.Least < o.Least then x.Least else o.Least := by simp only [Int.min_def]; split <;> split <;> omega
        have hmax : max o.Most x.Most = if o.Most < x.Most then x.Most else o.Most := by simp only [Int.max_def]; split <;> split <;> omega
        obtain ⟨mi, hmi⟩ : ∃ mi, min o.Least x.Least = mi := ⟨_, rfl⟩
        obtain ⟨ma, hma⟩ : ∃ ma, max o.Most x.Most = ma := ⟨_, rfl⟩
        have hmib : Mm.I64 mi ∧ Mm.I64 ma := by
          have j1 := HB3.out; have j2 := HR.out
          unfold Mm.I64
          rw [← hmi, ← hma]
          omega
        have hp2 : p < (xs.set p (⟨o.Labels, o.Sum + x.Sum, o.Count, o.Least, o.Most⟩ : Total)).length := by rw [List.length_set]; exact hpx
        have HS8 := Lib.hid (HS7.out.putSl (k := p) (x' := ⟨o.Labels, o.Sum + x.Sum, o.Count + x.Count, mi, o.Most⟩) (u := .int .i64 mi) (m := 3) 1 rfl (List.getElem?_set_self hp2) (by decide) (fun cs fx h => by
          obtain ⟨A, n, c, f, rfl, rfl, h0, i1, i2, i3, i4⟩ := rTotal_own h
          exact rTotal_own_mk (x := ⟨o.Labels, o.Sum + x.Sum, o.Count + x.Count, mi, o.Most⟩) h0 i1 i2 hmib.1 i4))
        have HS9 := Lib.hid (HS8.out.putSl (k := p) (x' := ⟨o.Labels, o.Sum + x.Sum, o.Count + x.Count, mi, ma⟩) (u := .int .i64 ma) (m := 4) 1 rfl (List.getElem?_set_self (by rw [List.length_set]; exact hp2)) (by decide) (fun cs fx h => by
          obtain ⟨A, n, c, f, rfl, rfl, h0, i1, i2, i3, i4⟩ := rTotal_own h
          exact rTotal_own_mk (x := ⟨o.Labels, o.Sum + x.Sum, o.Count + x.Count, mi, ma⟩) h0 i1 i2 i3 hmib.2))
        have HSA := Lib.hid (HS9.out.step (Below.refl _ _).drew)
        have hlist : Pl.tcomb (l.take (k + 1)) = (((xs.set p (⟨o.Labels, o.Sum + x.Sum, o.Count, o.Least, o.Most⟩ : Total)).set p ⟨o.Labels, o.Sum + x.Sum, o.Count + x.Count, o.Least, o.Most⟩).set p ⟨o.Labels, o.Sum + x.Sum, o.Count + x.Count, mi, o.Most⟩).set p ⟨o.Labels, o.Sum + x.Sum, o.Count + x.Count, mi, ma⟩ := by
          rw [List.set_set, List.set_set, List.set_set, HXN.out]
          unfold Pl.tadd
          rw [← hmi, ← hma, hmin, hmax]
        rw [hmi, hma]
        go_roundg (n - (k + 1))
        case measure => omega
        case rel => exact ⟨k + 1, m, _, c1, fp, _, Nat.le_refl _, by omega, by go_num, rfl, (by show _ = _; rw [List.length_set, List.length_set, List.length_set, List.length_set]; exact HM.out), hlist.symm, HSA.out.sel [1] (by decide) rfl⟩
    · obtain rfl : k = n := by omega
      have f1 : ¬ (k : Int) < (k : Nat) := by omega
      have hxs : xs = Pl.tcomb l := by rw [HX.out, List.take_of_length_le (by rw [HLN.out]; exact Nat.le_refl _)]
      have CA := areTotals_c xs A1 m c1 W _ ((HS.out.sl 0 rfl).weak (HS.out.sl 0 rfl).olt) (Nat.le_refl _)
      obtain ⟨gd, hgd⟩ : ∃ gd, Pl.totalsOk xs = gd := ⟨_, rfl⟩
      rw [hgd] at CA
      cases gd with
      | false =>
        have HG : Hid (Pl.tgood (Pl.tcomb l) = ([], false)) := by show _ = _; rw [← hxs]; unfold Pl.tgood; rw [hgd]; rfl
        clear hxs hgd
        go_wp2_with (go_at_call 51; (with_reducible refine CA.mono ?_); clear CA; rintro e w1 ⟨rfl, hb1⟩)
        go_ret2
        rw [HG.out]
        exact (Mm.Acc.nil (below_step HS.out.bel0 hb1)).ret
      | true =>
        have HG : Hid (Pl.tgood (Pl.tcomb l) = (xs, true)) := by show _ = _; rw [← hxs]; unfold Pl.tgood; rw [hgd]; rfl
        clear hxs hgd
        go_wp2_with (go_at_call 51; (with_reducible refine CA.mono ?_); clear CA; rintro e w1 ⟨rfl, hb1⟩)
        go_ret2
        rw [HG.out]
        have HS2 := HS.out.step hb1
        exact ⟨_, _, _, fp, rfl, HS2.sl 0 rfl, HS2.ndat (i := 0) rfl, fun b hb => (HS2.new b (by simpa [Mm.tsl] using hb)).resolve_left (fun h => by cases h), HS2.bel0⟩
end Go.Proofs.Ytnppcdiicnofpaa

/-
  Rows of elements that lead on: what a slice that is read has in its cells; a row made of such cells reads as the same elements; append of such a row. No program in sight. No conditions.
-/
namespace Go.Proofs.Ytnppcdiicnofpaa
open Go.RowKit
namespace Mm
/-- the cells of elements that are read -/
structure Css {α : Type} (E : Rep α) (w : World) (B : Nat) (xs : List α) (css : List (List Value)) : Prop where
  len : css.length = xs.length
  at_ : ∀ (i : Nat) (x : α) (y : List Value), xs[i]? = some x → css[i]? = some y → E.at_ w B x y
section
variable {α : Type} {E : Rep α} {e : TypeId} {w w' : World} {B B' : Nat} {xs ys : List α} {A : Option Addr} {n c : Nat} {css dss : List (List Value)}
theorem Css.size (h : Css E w B xs css) : ∀ y ∈ css, y.length = E.size := fun y hy => by
  obtain ⟨i, hi, rfl⟩ := List.mem_iff_getElem.1 hy
  have hx := List.getElem?_eq_getElem (show i < xs.length by rw [← h.len]; exact hi)
  exact E.len (h.at_ i _ _ hx (List.getElem?_eq_getElem hi))
theorem Css.keep (h : Css E w B xs css) (k : ∀ b, b < B → w'.heap[b]? = w.heap[b]?) : Css E w' B xs css := ⟨h.len, fun i x y hx hy => E.keep (h.at_ i x y hx hy) k⟩
theorem Css.more (h : Css E w B xs css) (k : B ≤ B') : Css E w B' xs css := ⟨h.len, fun i x y hx hy => E.more (h.at_ i x y hx hy) k⟩
theorem Css.app (h : Css E w B xs css) (k : Css E w B ys dss) : Css E w B (xs ++ ys) (css ++ dss) := ⟨by rw [List.length_append, List.length_append, h.len, k.len], fun i x y hx hy => by
  by_cases hi : i < xs.length
  · rw [List.getElem?_append_left hi] at hx
    rw [List.getElem?_append_left (by rw [h.len]; exact hi)] at hy
    exact h.at_ i x y hx hy
  · rw [List.getElem?_append_right (by omega)] at hx
    rw [List.getElem?_append_right (by rw [h.len]; omega), h.len] at hy
    exact k.at_ _ x y hx hy⟩
theorem Css.flat_len (h : Css E w B xs css) : (css.flatMap id).length = xs.length * E.size := by
  have hs := h.size
  rw [← h.len]
  clear h
  induction css with
  | nil => simp
  | cons z t ih => rw [List.flatMap_cons, List.length_append, ih (fun y hy => hs y (by simp [hy])), id, hs z (by simp), List.length_cons, Nat.add_mul]; omega
theorem SlAt.cellsOf (h : SlAt E w B xs A n c) : ∃ css, Css E w B xs css ∧ ∀ a, A = some a → ∀ j u, (css.flatMap id)[j]? = some u → w.cell? (a.add j) = some u := by
  have step : ∀ k, k ≤ n → ∃ css : List (List Value), css.length = k ∧ ∀ i x y, xs[i]? = some x → css[i]? = some y → E.at_ w B x y ∧ ∃ b off, A = some ⟨b, off, none⟩ ∧ ∀ j u, y[j]? = some u → w.cell? ⟨b, off + i * E.size + j, none⟩ = some u := by
    intro k
    induction k with
    | zero => intro _; exact ⟨[], rfl, fun i x y _ hy => by simp at hy⟩
    | succ k ih =>
      intro hk
      obtain ⟨css, h1, h2⟩ := ih (by omega)
      obtain ⟨x0, b, off, cs, hx0, hA, hb, ha, hc⟩ := h.get (k := k) (by omega)
      refine ⟨css ++ [cs], by rw [List.length_append, h1]; rfl, fun i x y hx hy => ?_⟩
      by_cases hi : i < k
      · rw [List.getElem?_append_left (by omega)] at hy
        exact h2 i x y hx hy
      · rw [List.getElem?_append_right (by omega), h1] at hy
        obtain rfl : i = k := by
          have := (List.getElem?_eq_some_iff.1 hy).1
          simp at this; omega
        simp at hy
        subst hy
        rw [hx0] at hx
        injection hx with hx
        subst hx
        exact ⟨ha, b, off, hA, hc⟩
  obtain ⟨css, h1, h2⟩ := step n (Nat.le_refl _)
  have hC : Css E w B xs css := ⟨by rw [h1, h.1], fun i x y hx hy => (h2 i x y hx hy).1⟩
  refine ⟨css, hC, fun a hA j u hu => ?_⟩
  obtain ⟨i, r, y, rfl, h3, h4⟩ := flatMap_inv id E.size css hC.size j u hu
  have hx := List.getElem?_eq_getElem (show i < xs.length by rw [← hC.len]; exact (List.getElem?_eq_some_iff.1 h3).1)
  obtain ⟨_, b, off, hA', hc⟩ := h2 i _ y hx h3
  rw [hA] at hA'
  injection hA' with hA'
  subst hA'
  rw [Addr.add_lit, ← Nat.add_assoc]
  exact hc r u h4
/-- a row of such cells reads as the elements -/
theorem SlAt.of_css (hC : Css E w B xs css) {v : Value} (ho : w.ownsRow 0 e E.size v n (css.flatMap id)) (hn : xs.length = n) (hB : w.heap.size ≤ B) : ∃ A' c', v = .slice A' n c' ∧ SlAt E w B xs A' n c' := by
  rcases ho.2 with ⟨rfl, h0⟩ | ⟨g, cap, cur, rfl, _, hg, hnc, hcm, hcs, htake⟩
  · subst h0
    exact ⟨none, 0, rfl, hn, Nat.le_refl _, Nat.zero_le _, fun _ => rfl, fun i x hx => by
      have := (List.getElem?_eq_some_iff.1 hx).1; omega⟩
  · refine ⟨_, cap, rfl, hn, hnc, hcm, (fun h => by cases h), fun i x hx => ?_⟩
    have hi := (List.getElem?_eq_some_iff.1 hx).1
    have hy := List.getElem?_eq_getElem (show i < css.length by rw [hC.len]; exact hi)
    refine ⟨g, 0, css[i]'(by rw [hC.len]; exact hi), rfl, ?_, hC.at_ i x _ hx hy, fun j u hu => ?_⟩
    · have := (ho.lt g (by simp [Value.ownBlock])).2; omega
    · have hc := ho.cells (g := g) rfl (i * E.size + j) u (flatMap_get id _ css hC.size i _ j u hy hu)
      rw [add0] at hc
      simpa using hc
end
section
variable {P : Program} {w : World} {e : TypeId} {v : Value} {xs news : List Value} {n m c : Nat} {A : Option Addr}
/-- append of a whole row, the empty one too -/
theorem run_append_row (t ty : TypeId) (i : TypeInfo) (z : Value) (size bytes : Nat) (ht : P.underlying t = some (.slice e)) (hi : P.info? e = some i) (hz : i.zero = some z) (hsize : i.size = size) (hby : i.bytes = bytes) (hzs : z.cells.size = size) (hsz : 0 < size)
    (hown : w.ownsRow 0 e size v n xs) (hA : A = none → m = 0 ∧ c = 0) (hl : news.length = m * size) (hnews : ∀ a, A = some a → ∀ j u, news[j]? = some u → w.cell? (a.add j) = some u) (h1 : ∀ u ∈ news, u.oneCell' = true) (h63 : n + m ≤ maxLen) (hbytes : (n + m) * bytes ≤ 140737488355328) :
    ∃ v' w', (Builtin.append_ #[t, t] ty #[v, .slice A m c]).run P w = .ok v' w' ∧ w'.ownsRow 0 e size v' (n + m) (xs ++ news) ∧ w.grownBy w' v.ownBlock ∧ (v'.ownBlock = v.ownBlock ∨ v'.ownBlock = some w.heap.size) := by
  cases A with
  | none =>
    obtain ⟨rfl, rfl⟩ := hA rfl
    have hn0 : news = [] := List.length_eq_zero_iff.1 (by omega)
    subst hn0
    refine ⟨v, w, run_append_owned_none (P := P) w 0 t ty e i size ht hi v n xs hown, ?_, ⟨rfl, rfl, rfl, Nat.le_refl _, fun _ _ _ => rfl⟩, .inl rfl⟩
    rw [List.append_nil]
    exact hown
  | some a =>
    obtain ⟨v', w', hr, h2, h3, _, h5⟩ := run_append_own_at (P := P) w 0 t ty e i z size bytes ht hi hz hsize hby hzs hsz v n xs hown a m c news hl (hnews a rfl) h1 h63 hbytes (Nat.zero_le _)
    exact ⟨v', w', hr, h2, h3, h5⟩
end
end Mm
end Go.Proofs.Ytnppcdiicnofpaa

/-
  Contracts: slices.Concat of two lists of totals. No conditions beyond those named.
-/
namespace Go.Proofs.Ytnppcdiicnofpaa
open Go.RowKit
attribute [local go_sem] und_cell World.cell?_alloc_some
theorem rTotal_one {w : World} {B : Nat} {xs : List Total} {css : List (List Value)} (h : Mm.Css rTotal w B xs css) : ∀ u ∈ css.flatMap id, u.oneCell' = true := fun u hu => by
  obtain ⟨y, hy, hu⟩ := List.mem_flatMap.1 hu
  obtain ⟨i, hi, rfl⟩ := List.mem_iff_getElem.1 hy
  have hx := List.getElem?_eq_getElem (show i < xs.length by rw [← h.len]; exact hi)
  obtain ⟨A, n, c, hcs, -⟩ := rTotal_at (h.at_ i _ _ hx (List.getElem?_eq_getElem hi))
  rw [id, hcs] at hu
  simp only [List.mem_cons, List.not_mem_nil, or_false] at hu
  rcases hu with rfl | rfl | rfl | rfl | rfl <;> rfl
/-- a list with nothing in it, and room for many -/
theorem growTot_c (m : Nat) (w : World) (hm : m ≤ 1000) : Calls Try.prog 86 #[.slice none 0 0, .int .i64 m] w fun e w' => ∃ A c, e = .returned (.slice A 0 c) ∧ w'.ownsRow 0 50 5 (.slice A 0 c) 0 [] ∧ Below w.heap.size w w' ∧ (∀ g, (Value.slice A 0 c).ownBlock = some g → w.heap.size ≤ g) := by
  obtain ⟨i0, hi, hz0, hzs, hzb⟩ := info_parts Try.infoTot
  rcases Nat.eq_zero_or_pos m with rfl | h0
  · go_enter Try.func86, Try.ntmps86
    go_wp2
    go_ret
    exact ⟨_, _, rfl, World.ownsRow_nil _ _ _ _, Below.refl _ _, fun g hg => by cases hg⟩
  · obtain ⟨G, hG⟩ : ∃ G, G = grownCap w m 0 50 := ⟨_, rfl⟩
    obtain ⟨ROW, hROW⟩ : ∃ ROW : Array Value, ROW = Builtin.zeroCells (Value.agg #[.slice none 0 0, .int .i64 0, .int .i64 0, .int .i64 0, .int .i64 0]).cells m ++ Builtin.zeroCells (Value.agg #[.slice none 0 0, .int .i64 0, .int .i64 0, .int .i64 0, .int .i64 0]).cells (G - m) := ⟨_, rfl⟩
    have hrz : ∀ ty, (Builtin.append_ #[27, 3] ty #[.slice none 0 0, .int .i64 m]).run Try.prog w = .ok (.slice (some ⟨w.heap.size, 0, none⟩) m G) (w.drew.alloc (.cells ROW 50)) := fun ty => by
      rw [hROW, hG]
      exact Lib.run_append_nil_zeros w 27 3 ty 50 i0 _ .i64 .i64 Try.underlying27 Try.underlying3 hi hz0 m h0 (by omega) (by omega) (by rw [hzb]; omega)
    have hGn : m ≤ G := by rw [hG]; exact grownCap_ge w _ _ _
    have hGm : G ≤ maxLen := by rw [hG]; exact grownCap_le_maxLen w m 0 50 (by unfold maxLen; omega)
    have hRs : ROW.size = G * 5 := by
      rw [hROW]
      simp only [Array.size_append, Mm.zeroCells_len]
      show m * 5 + (G - m) * 5 = _
      omega
    have hm0 : ¬ ((m : Int) < 0) := by omega
    have hm1 : (0 : Int) < (m : Nat) := by omega
    have hw : IntKind.i64.wrap (m : Int) = m := IntWalk.i64_in _ (by omega)
    have hg0 : (0 : Int) ≤ (G : Nat) := by omega
    have HG := Lib.hid (And.intro hGn (And.intro hGm hRs))
    have hB1 := Lib.hid (show Mm.Blk (w.drew.alloc (.cells ROW 50)) w.heap.size 50 ROW.toList by
      have := Mm.Blk.new w.drew 50 ROW.toList
      rw [Array.toArray_toList] at this
      exact this)
    clear hG hROW hGn hGm hRs
    go_enter Try.func86, Try.ntmps86
    go_wp2_with (at_builtin; refine Lib.wpList_append_run _ rfl _ _ _ _ rfl _ _ rfl rfl _ _ (hrz _) ?_)
    go_ret
    refine ⟨_, _, rfl, ⟨by simp, .inr ⟨w.heap.size, G, ROW, rfl, Nat.zero_le _, ?_, Nat.zero_le _, HG.out.2.1, HG.out.2.2, by simp⟩⟩, ?_, fun g hg => ?_⟩
    · have := hB1.out
      unfold Mm.Blk at this
      rw [Array.toArray_toList] at this
      exact this
    · exact (Below.refl _ _).drew.alloc (by exact Nat.le_refl _) _
    · simp [Value.ownBlock] at hg; omega
set_option maxRecDepth 100000 in
set_option maxHeartbeats 1000000 in
theorem concatTot_c (a b : List Total) (A1 A2 : Option Addr) (n1 c1 n2 c2 vb : Nat) (w : World) (B : Nat) (ha : Mm.SlAt rTotal w B a A1 n1 c1) (hb : Mm.SlAt rTotal w B b A2 n2 c2) (hB : B ≤ w.heap.size) (h1 : n1 ≤ 100) (h2 : n2 ≤ 100) (hv0 : w.cell? ⟨vb, 0, none⟩ = some (.slice A1 n1 c1)) (hv1 : w.cell? ⟨vb, 1, none⟩ = some (.slice A2 n2 c2)) (hvw : vb < w.heap.size) :
    Calls Try.prog 60 #[.slice (some ⟨vb, 0, none⟩) 2 2] w fun e w' => ∃ A c, e = .returned (.slice A (n1 + n2) c) ∧ Mm.SlAt rTotal w' w'.heap.size (a ++ b) A (n1 + n2) c ∧ Below w.heap.size w w' := by
  obtain ⟨i0, hi, hz0, hzs, hzb⟩ := info_parts Try.infoTot
  obtain ⟨cssA, hcA, hA⟩ := ha.cellsOf
  obtain ⟨cssB, hcB, hBB⟩ := hb.cellsOf
  have hla := hcA.flat_len
  have hlb := hcB.flat_len
  rw [ha.1, show rTotal.size = 5 from rfl] at hla
  rw [hb.1, show rTotal.size = 5 from rfl] at hlb
  have HLN := Lib.hid (And.intro ha.1 hb.1)
  have HNA : Hid (A1 = none → n1 = 0 ∧ c1 = 0) := fun h => by have h3 := ha.2.2.2.1 h; have h4 := ha.2.1; omega
  have HNB : Hid (A2 = none → n2 = 0 ∧ c2 = 0) := fun h => by have h3 := hb.2.2.2.1 h; have h4 := hb.2.1; omega
  have HCA := Lib.hid (And.intro hcA (And.intro hA hla))
  have HCB := Lib.hid (And.intro hcB (And.intro hBB hlb))
  have HV := Lib.hid (And.intro hv0 hv1)
  have HA1 : Hid (∀ wr, Below w.heap.size w wr → ∀ x, A1 = some x → ∀ j u, (cssA.flatMap id)[j]? = some u → wr.cell? (x.add j) = some u) := fun wr hbl x hx j u hu => by
    have h3 := hA x hx j u hu
    have h0 : 0 < n1 := by
      have := (List.getElem?_eq_some_iff.1 hu).1
      omega
    obtain ⟨_, b, off, _, _, hA', hb', _⟩ := ha.get (k := 0) h0
    rw [hx] at hA'
    injection hA' with hA'
    subst hA'
    rw [Addr.add_lit] at h3 ⊢
    exact (hbl.cell (by show b < _; omega)).trans h3
  have HA2 : Hid (∀ wr, Below w.heap.size w wr → ∀ x, A2 = some x → ∀ j u, (cssB.flatMap id)[j]? = some u → wr.cell? (x.add j) = some u) := fun wr hbl x hx j u hu => by
    have h3 := hBB x hx j u hu
    have h0 : 0 < n2 := by
      have := (List.getElem?_eq_some_iff.1 hu).1
      omega
    obtain ⟨_, b, off, _, _, hA', hb', _⟩ := hb.get (k := 0) h0
    rw [hx] at hA'
    injection hA' with hA'
    subst hA'
    rw [Addr.add_lit] at h3 ⊢
    exact (hbl.cell (by show b < _; omega)).trans h3
  clear hcA hA hla hcB hBB hlb ha hb hv0 hv1
  go_enter Try.func60, Try.ntmps60
  go_wp2
  go_loopg [3, 11] 2 (fun g s i wr => ∃ k m : Nat, 2 - k ≤ g ∧ i = .int .i64 k ∧ s = .int .i64 m ∧ Hid (k = 0 ∧ m = 0 ∨ k = 1 ∧ m = n1 ∨ k = 2 ∧ m = n1 + n2) ∧ w = wr)
  case atStart => exact ⟨0, 0, Nat.le_refl _, rfl, rfl, .inl ⟨rfl, rfl⟩, rfl⟩
  case round =>
    obtain ⟨k, m, hg, rfl, rfl, HK, rfl⟩ := hrel
    rcases HK.out with ⟨rfl, rfl⟩ | ⟨rfl, rfl⟩ | ⟨rfl, rfl⟩
    · have v0 := HV.out.1
      have f1 : ¬ ((n1 : Int) < 0) := by omega
      go_wp2
      go_roundg 1
      case measure => omega
      case rel => exact ⟨1, n1, Nat.le_refl _, rfl, rfl, .inr (.inl ⟨rfl, rfl⟩), rfl⟩
    · have v1 := HV.out.2
      have f1 : ¬ ((m : Int) + (n2 : Int) < 0) := by omega
      have f2 : IntKind.i64.wrap ((m : Int) + (n2 : Int)) = (m : Int) + (n2 : Int) := IntWalk.i64_in _ (by omega)
      go_wp2
      go_roundg 0
      case measure => omega
      case rel => exact ⟨2, m + n2, Nat.le_refl _, rfl, by go_num, .inr (.inr ⟨rfl, rfl⟩), rfl⟩
    · clear HK
      have CG := growTot_c (n1 + n2) w (by omega)
      go_wp2_with (go_at_call 86; refine CG.mono ?_; clear CG; rintro e w1 ⟨A, c, rfl, ho, hb1, hg1⟩)
      go_loopg [6, 27] 2 (fun g o i wr => ∃ (k nn cc : Nat) (AA : Option Addr) (cells : List Value), 2 - k ≤ g ∧ i = .int .i64 k ∧ o = .slice AA nn cc ∧ Hid (wr.ownsRow 0 50 5 (.slice AA nn cc) nn cells) ∧ Hid (Below w.heap.size w wr) ∧ Hid (∀ g, (Value.slice AA nn cc).ownBlock = some g → w.heap.size ≤ g) ∧ Hid (k = 0 ∧ nn = 0 ∧ cells = [] ∨ k = 1 ∧ nn = n1 ∧ cells = cssA.flatMap id ∨ k = 2 ∧ nn = n1 + n2 ∧ cells = cssA.flatMap id ++ cssB.flatMap id))
      case atStart => exact ⟨0, 0, c, A, [], Nat.le_refl _, rfl, rfl, ho, hb1, hg1, .inl ⟨rfl, rfl, rfl⟩⟩
      case round =>
        clear ho hb1 hg1
        obtain ⟨k, nn, cc, AA, cells, hg, rfl, rfl, HO, HB, HG, HK⟩ := hrel
        obtain ⟨W, rfl⟩ : ∃ W : World, W = wr := ⟨_, rfl⟩
        rcases HK.out with ⟨rfl, rfl, rfl⟩ | ⟨rfl, rfl, rfl⟩ | ⟨rfl, rfl, rfl⟩
        · have v0 : W.cell? ⟨vb, 0, none⟩ = some (.slice A1 n1 c1) := (HB.out.cell hvw).trans HV.out.1
          obtain ⟨v', w', hr, h3, h4, h5⟩ := Mm.run_append_row (P := Try.prog) (w := W) 27 27 i0 _ 5 56 Try.underlying27 hi hz0 hzs hzb rfl (by omega) HO.out HNA.out HCA.out.2.2 (HA1.out W HB.out) (rTotal_one HCA.out.1) (by unfold maxLen; omega) (by omega)
          rw [Nat.zero_add, List.nil_append] at h3
          obtain ⟨A', c', rfl⟩ : ∃ A' c', v' = .slice A' n1 c' := by
            rcases h3.2 with ⟨q1, q2⟩ | ⟨g', cap, cur, q1, _⟩
            · exact ⟨none, 0, by rw [q1, q2]⟩
            · exact ⟨_, cap, q1⟩
          have H3 := Lib.hid (And.intro h3 (And.intro h4 h5))
          clear h3 h4 h5
          go_wp2_with (at_builtin; refine Lib.wpList_append_run _ rfl _ _ _ _ rfl _ _ rfl rfl _ _ hr ?_)
          go_roundg 1
          case measure => omega
          case rel => exact ⟨1, n1, c', A', _, Nat.le_refl _, rfl, rfl, H3.out.1, HB.out.grown H3.out.2.1 HB.out.size (fun k hk => HG.out k hk), (fun g hg => by rcases H3.out.2.2 with h | h <;> rw [h] at hg <;> first | exact HG.out g hg | (injection hg with hg; have := HB.out.size; omega)), .inr (.inl ⟨rfl, rfl, rfl⟩)⟩
        · have v0 : W.cell? ⟨vb, 1, none⟩ = some (.slice A2 n2 c2) := (HB.out.cell hvw).trans HV.out.2
          obtain ⟨v', w', hr, h3, h4, h5⟩ := Mm.run_append_row (P := Try.prog) (w := W) 27 27 i0 _ 5 56 Try.underlying27 hi hz0 hzs hzb rfl (by omega) HO.out HNB.out HCB.out.2.2 (HA2.out W HB.out) (rTotal_one HCB.out.1) (by unfold maxLen; omega) (by omega)
          obtain ⟨A', c', rfl⟩ : ∃ A' c', v' = .slice A' (nn + n2) c' := by
            rcases h3.2 with ⟨q1, q2⟩ | ⟨g', cap, cur, q1, _⟩
            · exact ⟨none, 0, by rw [q1, q2]⟩
            · exact ⟨_, cap, q1⟩
          have H3 := Lib.hid (And.intro h3 (And.intro h4 h5))
          clear h3 h4 h5
          go_wp2_with (at_builtin; refine Lib.wpList_append_run _ rfl _ _ _ _ rfl _ _ rfl rfl _ _ hr ?_)
          go_roundg 0
          case measure => omega
          case rel => exact ⟨2, nn + n2, c', A', _, Nat.le_refl _, rfl, rfl, H3.out.1, HB.out.grown H3.out.2.1 HB.out.size (fun k hk => HG.out k hk), (fun g hg => by rcases H3.out.2.2 with h | h <;> rw [h] at hg <;> first | exact HG.out g hg | (injection hg with hg; have := HB.out.size; omega)), .inr (.inr ⟨rfl, rfl, rfl⟩)⟩
        · have hC := (HCA.out.1.app HCB.out.1).keep (w' := W) fun b hb => HB.out.block b (Nat.lt_of_lt_of_le hb hB)
          obtain ⟨A', c', hv, hsl⟩ := Mm.SlAt.of_css (hC.more (Nat.le_trans hB HB.out.size)) (v := .slice AA (n1 + n2) cc) (by rw [List.flatMap_append]; exact HO.out) (by rw [List.length_append, HLN.out.1, HLN.out.2]) (Nat.le_refl _)
          injection hv with e1 _ e2
          subst e1 e2
          have HSL := Lib.hid hsl
          clear hsl hC
          go_wp2
          go_ret
          exact ⟨_, _, rfl, HSL.out, HB.out⟩
end Go.Proofs.Ytnppcdiicnofpaa

/-
  One element of an owned slice changed, in its own cell and in what it leads to; the same among the things of a call. No program in sight. No conditions.
-/
namespace Go.Proofs.Ytnppcdiicnofpaa
open Go.RowKit
namespace Mm
section
variable {α : Type} {E : Rep α} {e : TypeId} {w w' : World} {xs : List α} {fp : List Nat}
theorem Chg.grow {fx : List Nat} {a b : World} (h : Chg fx a b) {k : Nat} (hk : k < a.heap.size) (hn : k ∉ fx) : b.heap[k]? = a.heap[k]? := h.block k hk hn
theorem SlOwn.swap {g n c : Nat} (h : SlOwn E e w xs (.slice (some ⟨g, 0, none⟩) n c) fp) (hnd : fp.Nodup) {i : Nat} {x : α} (hi : xs[i]? = some x) :
    ∃ cs fx, E.own w x cs fx ∧ fx.Nodup ∧ (∀ b, b ∈ fx → b ∈ fp ∧ b ≠ g) ∧ (∀ j u, cs[j]? = some u → w.cell? ⟨g, i * E.size + j, none⟩ = some u) ∧
      ∀ W x' j u fx', Chg fx w W → j < E.size → E.own W x' (cs.set j u) fx' → fx'.Nodup → (∀ b, b ∈ fx' → b ∈ fx ∨ w.heap.size ≤ b) →
        ∃ fp', SlOwn E e (W.setCell ⟨g, i * E.size + j, none⟩ u) (xs.set i x') (.slice (some ⟨g, 0, none⟩) n c) fp' ∧ fp'.Nodup ∧ (∀ b, b ∈ fp' → b ∈ fp ∨ w.heap.size ≤ b) ∧ Chg fp w (W.setCell ⟨g, i * E.size + j, none⟩ u) := by
  have hol := h.olt
  have hgm := h.mem_block
  obtain ⟨es, he, ho, rfl⟩ := h
  have hn : n = xs.length := by
    rcases ho.2 with ⟨h, _⟩ | ⟨g', cap, cur, h, _⟩
    · cases h
    · injection h
  subst hn
  have hil : i < xs.length := (List.getElem?_eq_some_iff.1 hi).1
  have hie : i < es.length := by rw [he.1]; exact hil
  have hy := List.getElem?_eq_getElem hie
  have hown := he.2 i x _ hi hy
  have hgl := hol g hgm
  simp only [Value.ownBlock, Option.toList_some, List.singleton_append, List.nodup_cons] at hnd
  have hgn : ∀ y ∈ es, g ∉ y.2 := fun y hy hg => hnd.1 (List.mem_flatMap.2 ⟨y, hy, hg⟩)
  have hsp := flat_split (·.2) hy
  have hd := hnd.2
  rw [(hsp es[i]).1] at hd
  simp only [List.nodup_append] at hd
  have hmem : ∀ b, b ∈ es[i].2 → b ∈ es.flatMap (·.2) := fun b hb => List.mem_flatMap.2 ⟨_, List.getElem_mem hie, hb⟩
  refine ⟨es[i].1, es[i].2, hown, hd.2.1.1, fun b hb => ⟨List.mem_append_right _ (hmem b hb), fun e => hgn _ (List.getElem_mem hie) (e ▸ hb)⟩, fun j u hu => ?_, fun W x' j u fx' hc hj hx' hxn hxs => ?_⟩
  · have := ho.cells (g := g) rfl (i * E.size + j) u (flatMap_get (·.1) E.size es he.len i _ j u hy hu)
    rw [add0] at this
    exact this
  · have hW : ∀ b, b ≠ g → (W.setCell ⟨g, i * E.size + j, none⟩ u).heap[b]? = W.heap[b]? := fun b hb => Below.heap_setCell _ _ _ _ hb
    have m1 : ∀ y, y ∈ es.take i → ∀ b, b ∈ y.2 → b ∉ es[i].2 := fun y hy b hb hm => hd.2.2 b (List.mem_flatMap.2 ⟨y, hy, hb⟩) b (List.mem_append_left _ hm) rfl
    have m2 : ∀ y, y ∈ es.drop (i + 1) → ∀ b, b ∈ y.2 → b ∉ es[i].2 := fun y hy b hb hm => hd.2.1.2.2 b hm b (List.mem_flatMap.2 ⟨y, hy, hb⟩) rfl
    have hgx : g ∉ fx' := fun hg => by
      rcases hxs g hg with h | h
      · exact hgn _ (List.getElem_mem hie) h
      · omega
    have hsub : ∀ b, b ∈ (es.set i (es[i].1.set j u, fx')).flatMap (·.2) → b ∈ es.flatMap (·.2) ∨ w.heap.size ≤ b := by
      intro b hb
      obtain ⟨y, hy, hb⟩ := List.mem_flatMap.1 hb
      rcases List.mem_or_eq_of_mem_set hy with h | rfl
      · exact .inl (List.mem_flatMap.2 ⟨y, h, hb⟩)
      · exact (hxs b hb).imp (hmem b) id
    have hWo : W.ownsRow 0 e E.size (.slice (some ⟨g, 0, none⟩) xs.length c) xs.length (es.flatMap (·.1)) := by
      refine ⟨ho.1, ?_⟩
      rcases ho.2 with h | ⟨g', cap, cur, hv, h1, h2, h3⟩
      · exact .inl h
      · injection hv with hA _ hcap
        injection hA with hA
        injection hA with hA
        subst hA
        subst hcap
        exact .inr ⟨g, _, cur, rfl, h1, (hc.block g hgl (hgn _ (List.getElem_mem hie))).trans h2, h3⟩
    have h1 := (hWo.stored (i * E.size + j) u).1
    have hs : setList (es.flatMap (·.1)) (i * E.size) (es[i].1.set j u) = (es.flatMap (·.1)).set (i * E.size + j) u := by
      have hlen : (es.flatMap (·.1)).length = xs.length * E.size := ho.1
      have hle : i * E.size + E.size ≤ xs.length * E.size := by
        have := Nat.mul_le_mul_right E.size (show i + 1 ≤ xs.length by omega)
        rw [Nat.add_mul] at this; omega
      have hol := E.olen hown
      apply List.ext_getElem?
      intro k
      rw [setList_get _ _ _ _ (by rw [List.length_set, hol, hlen]; exact hle), List.length_set, hol]
      by_cases hkk : i * E.size ≤ k ∧ k < i * E.size + E.size
      · rw [if_pos hkk]
        by_cases hkj : k = i * E.size + j
        · subst hkj
          rw [show i * E.size + j - i * E.size = j by omega, List.getElem?_set_self (by omega), List.getElem?_set_self (by omega)]
        · rw [List.getElem?_set_ne (by omega), List.getElem?_set_ne (by omega)]
          have hu := List.getElem?_eq_getElem (show k - i * E.size < es[i].1.length by omega)
          have := flatMap_get (·.1) E.size es he.len i _ (k - i * E.size) _ hy hu
          rw [show i * E.size + (k - i * E.size) = k by omega] at this
          rw [this, hu]
      · rw [if_neg hkk, List.getElem?_set_ne (by omega)]
    have hll := setList_elems E.size es i (es[i].1.set j u) fx' he.len (by rw [List.length_set]; exact E.olen hown) hie
    have hchg : Chg (g :: es.flatMap (·.2)) w (W.setCell ⟨g, i * E.size + j, none⟩ u) := (hc.more fun b hb => List.mem_cons_of_mem _ (hmem b hb)).setCell (by simp) u
    refine ⟨_, ⟨es.set i (es[i].1.set j u, fx'), ⟨by rw [List.length_set, List.length_set, he.1], fun k y z hy hz => ?_⟩, ?_, rfl⟩, ?_, ?_, hchg⟩
    · by_cases hki : i = k
      · subst hki
        rw [List.getElem?_set_self hie] at hz
        rw [List.getElem?_set_self hil] at hy
        injection hy with hy; injection hz with hz
        subst hy; subst hz
        exact E.okeep hx' fun b hb => hW b (fun e => hgx (e ▸ hb))
      · rw [List.getElem?_set_ne hki] at hz hy
        have hk := he.2 k y z hy hz
        refine E.okeep hk fun b hb => (hW b (fun e => hgn z (List.mem_of_getElem? hz) (e ▸ hb))).trans (hc.block b (E.olt hk b hb) ?_)
        rcases Nat.lt_or_gt_of_ne hki with h | h
        · refine m2 z (List.mem_of_getElem? (i := k - (i + 1)) ?_) b hb
          rw [List.getElem?_drop, show i + 1 + (k - (i + 1)) = k by omega]
          exact hz
        · refine m1 z (List.mem_of_getElem? (i := k) ?_) b hb
          rw [List.getElem?_take, if_pos h]
          exact hz
    · rw [List.length_set, ← hll, hs]; exact h1
    · simp only [Value.ownBlock, Option.toList_some, List.singleton_append, List.nodup_cons]
      refine ⟨fun hg => ?_, ?_⟩
      · rcases hsub g hg with h | h
        · exact hnd.1 h
        · omega
      rw [(hsp (es[i].1.set j u, fx')).2]
      simp only [List.nodup_append]
      have hL : ∀ b, b ∈ es.flatMap (·.2) → b < w.heap.size := fun b hb => hol b (List.mem_append_right _ hb)
      rw [(hsp es[i]).1] at hL
      refine ⟨hd.1, ⟨hxn, hd.2.1.2.1, fun a ha b hb hab => ?_⟩, fun a ha b hb hab => ?_⟩
      · subst hab
        rcases hxs a ha with h | h
        · exact hd.2.1.2.2 a h a hb rfl
        · have := hL a (List.mem_append_right _ (List.mem_append_right _ hb)); omega
      · subst hab
        rcases List.mem_append.1 hb with hb | hb
        · rcases hxs a hb with h | h
          · exact hd.2.2 a ha a (List.mem_append_left _ h) rfl
          · have := hL a (List.mem_append_left _ ha); omega
        · exact hd.2.2 a ha a (List.mem_append_right _ hb) rfl
    · intro b hb
      rcases List.mem_append.1 hb with hb | hb
      · exact .inl (List.mem_append_left _ hb)
      · exact (hsub b hb).imp (List.mem_append_right _) id
/-- element k is changed, one of its own cells and what it leads to -/
theorem SepF.swap {F : List Nat} {w0 wr : World} {ts : List Thing} {g n c k : Nat} {x : α} (h : SepF F w0 wr ts) (i : Nat) (hi : ts[i]? = some (tsl E e xs (.slice (some ⟨g, 0, none⟩) n c) fp)) (hk : xs[k]? = some x) :
    ∃ cs fx, E.own wr x cs fx ∧ fx.Nodup ∧ (∀ b, b ∈ fx → b ∈ fp ∧ b ≠ g) ∧ (∀ j u, cs[j]? = some u → wr.cell? ⟨g, k * E.size + j, none⟩ = some u) ∧
      ∀ W x' j u fx', Chg fx wr W → j < E.size → E.own W x' (cs.set j u) fx' → fx'.Nodup → (∀ b, b ∈ fx' → b ∈ fx ∨ wr.heap.size ≤ b) →
        ∃ fp', SepF F w0 (W.setCell ⟨g, k * E.size + j, none⟩ u) (ts.set i (tsl E e (xs.set k x') (.slice (some ⟨g, 0, none⟩) n c) fp')) := by
  have h1 : SlOwn E e wr xs (.slice (some ⟨g, 0, none⟩) n c) fp := h.at_ i hi
  obtain ⟨cs, fx, k1, k2, k3, k4, k5⟩ := h1.swap (h.ndat hi) hk
  refine ⟨cs, fx, k1, k2, k3, k4, fun W x' j u fx' m1 m2 m3 m4 m5 => ?_⟩
  obtain ⟨fp', p1, p2, p3, p4⟩ := k5 W x' j u fx' m1 m2 m3 m4 m5
  exact ⟨fp', h.upd hi p4 p1 p2 p3⟩
end
end Mm
end Go.Proofs.Ytnppcdiicnofpaa

/-
  Three appends in a row that lay one total among others; memory that a store leaves as it was. No conditions beyond those named.
-/
namespace Go.Proofs.Ytnppcdiicnofpaa
open Go.RowKit
attribute [local go_sem] und_cell World.cell?_alloc_some
theorem Mm.setCell_id {w : World} {g k : Nat} {t : TypeId} {cs : List Value} {v : Value} (h : Mm.Blk w g t cs) (hk : cs[k]? = some v) : w.setCell ⟨g, k, none⟩ v = w := by
  unfold Mm.Blk at h
  rw [setCell_eq_setRow w g k cs.toArray t (0, 0) v h]
  have e : cs.toArray.setIfInBounds k v = cs.toArray := by
    apply Array.toList_inj.1
    rw [Array.toList_setIfInBounds]
    apply List.ext_getElem?
    intro i
    by_cases hi : k = i
    · subst hi
      rw [List.getElem?_set_self (by simpa using (List.getElem?_eq_some_iff.1 hk).1)]
      exact hk.symm
    · rw [List.getElem?_set_ne hi]
  rw [e, setRow_self w g cs.toArray t (0, 0) h]
theorem Mm.Blk.cell_inv {w : World} {g k : Nat} {t : TypeId} {cs : List Value} {v : Value} (h : Mm.Blk w g t cs) (hc : w.cell? ⟨g, k, none⟩ = some v) : cs[k]? = some v := by
  unfold Mm.Blk at h
  unfold World.cell? at hc
  rw [h] at hc
  simpa using hc
theorem Mm.SlOwn.blk {α : Type} {E : Mm.Rep α} {e : TypeId} {w : World} {xs : List α} {g n c : Nat} {fp : List Nat} (h : Mm.SlOwn E e w xs (.slice (some ⟨g, 0, none⟩) n c) fp) : ∃ cur, Mm.Blk w g e cur := by
  obtain ⟨es, he, ho, rfl⟩ := h
  rcases ho.2 with ⟨h, _⟩ | ⟨g', cap, cur, h, _, hg, _⟩
  · cases h
  · injection h with h _ _
    injection h with h
    injection h with h _
    subst h
    exact ⟨cur.toList, by unfold Mm.Blk; rw [Array.toArray_toList]; exact hg⟩
theorem Mm.rowKeep {w w' : World} {base S : Nat} {e : TypeId} {v : Value} {n : Nat} {xs : List Value} (h : w.ownsRow base e S v n xs) (hk : ∀ g, v.ownBlock = some g → w'.heap[g]? = w.heap[g]?) : w'.ownsRow base e S v n xs := by
  refine ⟨h.1, h.2.imp id ?_⟩
  rintro ⟨g, cap, cur, rfl, h1, h2, h3⟩
  exact ⟨g, cap, cur, rfl, h1, (hk g rfl).trans h2, h3⟩
theorem Mm.rowForm {w : World} {S : Nat} {e : TypeId} {v : Value} {n : Nat} {xs : List Value} (h : w.ownsRow 0 e S v n xs) : ∃ A c, v = .slice A n c := by
  rcases h.2 with ⟨h1, h2⟩ | ⟨g', cap, cur, h1, _⟩
  · exact ⟨none, 0, by rw [h1, h2]⟩
  · exact ⟨_, cap, h1⟩
set_option maxRecDepth 100000 in
theorem put3 (W : World) (A1 A3 : Option Addr) (n p m3 c1 c3 : Nat) (lc ct : List Value) (ho : W.ownsRow 0 50 5 (.slice A1 n c1) n lc) (h1c : ∀ u ∈ lc, u.oneCell' = true) (hp : p ≤ n) (hn : n ≤ 100) (hct : ct.length = 5) (h1 : ∀ u ∈ ct, u.oneCell' = true) (hA1 : A1 = none → p = 0 ∧ c1 = 0) (hm : m3 = n - p) (hA3 : A3 = none → m3 = 0 ∧ c3 = 0) (hs1 : ∀ a, A1 = some a → ∀ j u, (lc.take (p * 5))[j]? = some u → W.cell? (a.add j) = some u) (hs3 : ∀ a, A3 = some a → ∀ j u, (lc.drop (p * 5))[j]? = some u → W.cell? (a.add j) = some u) :
    ∃ A8 c8 w8, (∀ ty, (Builtin.append_ #[27, 27] ty #[.slice (some ⟨W.heap.size, 0, none⟩) 0 0, .slice A1 p c1]).run Try.prog (W.alloc (.cells #[] 50)) = .ok (.slice A8 p c8) w8) ∧
    ∃ A10 c10 w10, (∀ ty, (Builtin.append_ #[27, 27] ty #[.slice A8 p c8, .slice (some ⟨w8.heap.size, 0, none⟩) 1 1]).run Try.prog (w8.alloc (.cells ct.toArray 50)) = .ok (.slice A10 (p + 1) c10) w10) ∧
    ∃ A11 c11 w11, (∀ ty, (Builtin.append_ #[27, 27] ty #[.slice A10 (p + 1) c10, .slice A3 m3 c3]).run Try.prog w10 = .ok (.slice A11 (n + 1) c11) w11) ∧
      w11.ownsRow 0 50 5 (.slice A11 (n + 1) c11) (n + 1) (lc.take (p * 5) ++ ct ++ lc.drop (p * 5)) ∧ Below W.heap.size W w8 ∧ Below W.heap.size W w11 ∧ (∀ g, (Value.slice A11 (n + 1) c11).ownBlock = some g → W.heap.size ≤ g) := by
  obtain ⟨i0, hi, hz0, hzs, hzb⟩ := info_parts Try.infoTot
  have hcl := ho.1
  have hU := Try.underlying27
  have k0 : Below W.heap.size W (W.alloc (.cells #[] 50)) := below_new (Below.refl _ _) _
  have hblk : ∀ {V : World}, Below W.heap.size W V → ∀ (a : Addr) j u, W.cell? (a.add j) = some u → V.cell? (a.add j) = some u := fun hb a j u h => below_some hb h
  have r0 : (W.alloc (.cells #[] 50)).ownsRow 0 50 5 (.slice (some ⟨W.heap.size, 0, none⟩) 0 0) 0 [] := ⟨rfl, .inr ⟨W.heap.size, 0, #[], rfl, Nat.zero_le _, heap_alloc_new W _, Nat.le_refl _, Nat.zero_le _, rfl, rfl⟩⟩
  have ap : ∀ {V : World} {v : Value} {nn : Nat} {xs news : List Value} {A : Option Addr} {mm cc : Nat}, V.ownsRow 0 50 5 v nn xs → (A = none → mm = 0 ∧ cc = 0) → news.length = mm * 5 → (∀ a, A = some a → ∀ j u, news[j]? = some u → V.cell? (a.add j) = some u) → (∀ u ∈ news, u.oneCell' = true) → nn + mm ≤ 1000 →
      ∃ v' w', (∀ ty, (Builtin.append_ #[27, 27] ty #[v, .slice A mm cc]).run Try.prog V = .ok v' w') ∧ w'.ownsRow 0 50 5 v' (nn + mm) (xs ++ news) ∧ V.grownBy w' v.ownBlock ∧ (v'.ownBlock = v.ownBlock ∨ v'.ownBlock = some V.heap.size) := by
    intro V v nn xs news A mm cc q1 q2 q3 q4 q5 q6
    obtain ⟨v', w', hr, h2, h3, h4⟩ := Mm.run_append_row (P := Try.prog) (w := V) 27 0 i0 _ 5 56 hU hi hz0 hzs hzb rfl (by omega) q1 q2 q3 q4 q5 (by unfold maxLen; omega) (by omega)
    exact ⟨v', w', fun ty => hr, h2, h3, h4⟩
  obtain ⟨v8, w8, e1, r1, g1, o1⟩ := ap r0 hA1 (by rw [List.length_take, hcl]; omega) (fun a ha j u hj => hblk k0 a j u (hs1 a ha j u hj)) (fun u hu => h1c u (List.mem_of_mem_take hu)) (by omega)
  rw [Nat.zero_add, List.nil_append] at r1
  obtain ⟨A8, c8, rfl⟩ := Mm.rowForm r1
  have k1 : Below W.heap.size W w8 := k0.grown g1 k0.size (fun k hk => by simp [Value.ownBlock] at hk; omega)
  have n1 : ∀ g, (Value.slice A8 p c8).ownBlock = some g → W.heap.size ≤ g ∧ g < w8.heap.size := fun g hg => ⟨by
    rcases o1 with h | h
    · rw [hg] at h; simp [Value.ownBlock] at h; omega
    · rw [hg] at h; injection h with h; have := k0.size; omega, (r1.lt g hg).2⟩
  have k2 : Below W.heap.size W (w8.alloc (.cells ct.toArray 50)) := below_new k1 _
  have r2 : (w8.alloc (.cells ct.toArray 50)).ownsRow 0 50 5 (.slice A8 p c8) p (lc.take (p * 5)) := Mm.rowKeep r1 (fun g hg => heap_alloc_old w8 _ (n1 g hg).2)
  have nb := Mm.Blk.new w8 50 ct
  obtain ⟨v10, w10, e2, r3, g2, o2⟩ := ap (A := some ⟨w8.heap.size, 0, none⟩) (mm := 1) (cc := 1) (news := ct) r2 (fun h => by cases h) (by omega) (fun a ha j u hj => by injection ha with ha; subst ha; rw [Mm.add0]; exact nb.cell hj) h1 (by omega)
  obtain ⟨A10, c10, rfl⟩ := Mm.rowForm r3
  have k3 : Below W.heap.size W w10 := k2.grown g2 k2.size (fun k hk => (n1 k hk).1)
  have n2 : ∀ g, (Value.slice A10 (p + 1) c10).ownBlock = some g → W.heap.size ≤ g := fun g hg => by
    rcases o2 with h | h
    · rw [hg] at h; exact (n1 g h.symm).1
    · rw [hg] at h; injection h with h; have := k2.size; omega
  obtain ⟨v11, w11, e3, r4, g3, o3⟩ := ap r3 hA3 (by rw [List.length_drop, hcl, hm]; omega) (fun a ha j u hj => hblk k3 a j u (hs3 a ha j u hj)) (fun u hu => h1c u (List.mem_of_mem_drop hu)) (by omega)
  rw [show p + 1 + m3 = n + 1 by omega] at r4
  obtain ⟨A11, c11, rfl⟩ := Mm.rowForm r4
  refine ⟨A8, c8, w8, e1, A10, c10, w10, e2, A11, c11, w11, e3, r4, k1, k3.grown g3 k3.size (fun k hk => n2 k hk), fun g hg => ?_⟩
  rcases o3 with h | h
  · rw [hg] at h; exact n2 g h.symm
  · rw [hg] at h; injection h with h; have := k3.size; omega
end Go.Proofs.Ytnppcdiicnofpaa

/-
  Contracts: one total put among others, the reference's (l14Put). No conditions beyond those named.
-/
namespace Go.Proofs.Ytnppcdiicnofpaa
open Go.RowKit
attribute [local go_sem] und_cell World.cell?_alloc_some
def PutAns (fp : List Nat) (y : List Total) (w : World) (e : Ending) (w' : World) : Prop :=
  ∃ A' n' c' fp', e = .returned (.slice A' n' c') ∧ Mm.SepF fp w w' [Mm.tsl rTotal 50 y (.slice A' n' c') fp']
set_option maxRecDepth 100000 in
set_option maxHeartbeats 4000000 in
theorem l14Put_c (l : List Total) (m : Nat) (x : Total) (A1 A2 : Option Addr) (n c1 n2 c2 : Nat) (fp : List Nat) (w : World) (B : Nat) (hl : Mm.SlOwn rTotal 50 w l (.slice A1 n c1) fp) (hnd : fp.Nodup) (hT : Pl.TOk m l) (hm : m ≤ 100) (hx : Mm.SlAt rLabel w B x.Labels A2 n2 c2) (hB : B ≤ w.heap.size) (hok : Pl.totOk x = true) :
    Calls Try.prog 58 #[.slice A1 n c1, .agg #[.slice A2 n2 c2, .int .i64 x.Sum, .int .i64 x.Count, .int .i64 x.Least, .int .i64 x.Most]] w (PutAns fp (Pl.tput l x) w) := by
  obtain ⟨gb, hgb⟩ : ∃ gb, w.heap.size = gb := ⟨_, rfl⟩
  obtain ⟨W1, hW1⟩ : ∃ W1, w.alloc (.cells #[.slice A2 n2 c2, .int .i64 x.Sum, .int .i64 x.Count, .int .i64 x.Least, .int .i64 x.Most] 50) = W1 := ⟨_, rfl⟩
  have HS0 : Mm.SepF fp w w [Mm.tsl rTotal 50 l (.slice A1 n c1) fp] := Mm.SepF.one (Mm.tsl rTotal 50 l (.slice A1 n c1) fp) w hl hnd
  have hB1 : Below w.heap.size w W1 := by rw [← hW1]; exact below_new (Below.refl _ _) _
  have HS := Lib.hid ((HS0.alloc' hgb 50 [.slice A2 n2 c2, .int .i64 x.Sum, .int .i64 x.Count, .int .i64 x.Least, .int .i64 x.Most]).atW hW1)
  have HX1 := Lib.hid (hx.keep (w' := W1) fun b hb => hB1.block b (by omega))
  have hBW : B ≤ W1.heap.size := by have := hB1.size; omega
  have HLN : Hid (n = l.length) := by obtain ⟨_, _, _, hv, q1, _⟩ := hl.form; injection hv with _ q2 _; exact q2.trans q1
  have HT := Lib.hid hT
  have hn100 : n ≤ 100 := by have := hT.len; have := HLN.out; omega
  have HOK := Lib.hid hok
  obtain ⟨p, hp⟩ : ∃ p, Pl.tpos (Pl.txt x) l = p := ⟨_, rfl⟩
  have HP := Lib.hid hp
  have hpn : p ≤ n := by have := Pl.tpos_le (Pl.txt x) l; have := HLN.out; omega
  clear HS0 hl hx hT hok hp
  go_enter Try.func58, Try.ntmps58
  go_upto_region 1 with fail
  clear hW1 hB1
  have s0 := HS.out.cell (k := 0) 0 rfl rfl
  go_upto_region 2 with (go_at_call 76; (with_reducible refine (l3Text_c x.Labels A2 n2 c2 W1 B HX1.out hBW (Pl.totOk_lab HOK.out)).mono ?_); rintro e w2 ⟨rfl, hb2⟩; (have HS2 := Lib.hid (HS.out.step hb2)); (have HX2 := Lib.hid (HX1.out.keep (w' := w2) fun b hb => hb2.block b (Nat.lt_of_lt_of_le hb hBW))); (have hBW2 := Nat.le_trans hBW hb2.size); clear hb2 s0)
  clear HS HX1
  go_upto_block 0 with fail
  go_cut [6] (fun s6 wx => s6 = .int .i64 p ∧ Hid (Below w2.heap.size w2 wx))
  case first =>
    go_wp2_with fail
    go_loopg [6] n (fun g i wr => ∃ k : Nat, n - k ≤ g ∧ k ≤ p ∧ i = .int .i64 k ∧ Hid (Below w2.heap.size w2 wr))
    case atStart => exact ⟨0, Nat.le_refl _, Nat.zero_le _, rfl, Below.refl _ _⟩
    case round =>
      obtain ⟨k, hg, hk, rfl, HB⟩ := hrel
      obtain ⟨W, rfl⟩ : ∃ W : World, W = wr := ⟨_, rfl⟩
      by_cases hlt : k < n
      · have HSW := Lib.hid (HS2.out.step HB.out)
        obtain ⟨y, b, off, A4, n4, c4, hy, rfl, hb, hlb, i1, i2, i3, i4, e0, -⟩ := rTotal_get ((HSW.out.sl 1 rfl).weak (HSW.out.sl 1 rfl).olt) hlt
        have hly := HT.out.lab y (List.mem_of_getElem? hy)
        have CL := l3Text_c y.Labels A4 n4 c4 W W.heap.size hlb (Nat.le_refl _) hly
        have HY := Lib.hid hy
        have f1 : (k : Int) < (n : Nat) := by omega
        have f2 : (0 : Int) ≤ (k : Nat) := by omega
        have f3 : ((k : Nat) : Int).toNat = k := by omega
        clear hy hlb i1 i2 i3 i4
        cases hls : Pl.lessB (Pl.txt y) (Pl.txt x) with
        | true =>
          have hkp : k < p := by
            apply Classical.byContradiction
            intro hh
            have := Pl.tpos_ge (Pl.txt x) l HT.out.sort k y (by have := HP.out; omega) HY.out
            rw [hls] at this; cases this
          have hq : Op.bytesLess (Pl.labelsText y.Labels).toList (Pl.labelsText x.Labels).toList = true := hls
          clear hls
          go_wp2_with (go_at_call 76; (with_reducible refine CL.mono ?_); clear CL; rintro e w3 ⟨rfl, hb3⟩)
          go_roundg (n - (k + 1))
          case measure => omega
          case rel => exact ⟨k + 1, Nat.le_refl _, by omega, by go_num, below_step HB.out hb3⟩
        | false =>
          have HKP : Hid (k = p) := by
            show k = p
            apply Classical.byContradiction
            intro hh
            have := Pl.tpos_lt (Pl.txt x) l k y (by have := HP.out; omega) HY.out
            rw [hls] at this; cases this
          have hq : Op.bytesLess (Pl.labelsText y.Labels).toList (Pl.labelsText x.Labels).toList = false := hls
          clear hls
          go_wp2_with (go_at_call 76; (with_reducible refine CL.mono ?_); clear CL; rintro e w3 ⟨rfl, hb3⟩)
          go_meet
          exact ⟨by rw [HKP.out], below_step HB.out hb3⟩
      · have f1 : ¬ (k : Int) < (n : Nat) := by omega
        go_wp2
        go_meet
        exact ⟨by rw [show k = p by omega], HB.out⟩
  case rest =>
  obtain ⟨rfl, HB⟩ := hcut
  obtain ⟨W, rfl⟩ : ∃ W : World, W = wc := ⟨_, rfl⟩
  have HS := Lib.hid (HS2.out.step HB.out)
  have HXB := Lib.hid (HX2.out.keep (w' := W) fun b hb => HB.out.block b (Nat.lt_of_lt_of_le hb hBW2))
  have hBWW := Nat.le_trans hBW2 HB.out.size
  clear HS2 HX2 hBW2 HB
  by_cases hit : ∃ y, l[p]? = some y ∧ Pl.txt y = Pl.txt x
  · obtain ⟨y, hy, he⟩ := hit
    have HXN : Hid (Pl.tput l x = l.set p (Pl.tadd y x)) := by
      show _ = _
      exact (Pl.tput_hit (by rw [HP.out]; exact hy) he).trans (by rw [HP.out])
    have hpl : p < n := by have := (List.getElem?_eq_some_iff.1 hy).1; have := HLN.out; omega
    obtain ⟨g, hg, -, -⟩ := Mm.sl_addr (HS.out.sl 1 rfl) (by have := HLN.out; omega)
    subst hg
    obtain ⟨y', A4, n4, c4, hy', -, hlb, i1, i2, i3, i4, e0, e1, e2, e3, e4⟩ := rTotal_get' ((HS.out.sl 1 rfl).weak (HS.out.sl 1 rfl).olt) hpl
    obtain rfl : y = y' := by rw [hy] at hy'; injection hy'
    have hly := HT.out.lab y (List.mem_of_getElem? hy)
    have CL := l3Text_c y.Labels A4 n4 c4 W W.heap.size hlb (Nat.le_refl _) hly
    rw [show Pl.labelsText y.Labels = Pl.labelsText x.Labels from he] at CL
    simp only [Nat.zero_add] at e0 e1 e2 e3 e4
    have HY := Lib.hid hy
    have f1 : (p : Int) < (n : Nat) := by omega
    have f2 : (0 : Int) ≤ (p : Nat) := by omega
    have f3 : ((p : Nat) : Int).toNat = p := by omega
    clear hy hy' hlb i1 i2 i3 i4 he
    go_upto_region 7 with (go_at_call 76; (with_reducible refine CL.mono ?_); clear CL; rintro e w3 ⟨rfl, hb3⟩; (replace HS := Lib.hid (HS.out.step hb3)); (replace e0 := below_some hb3 e0); (replace e1 := below_some hb3 e1); (replace e2 := below_some hb3 e2); (replace e3 := below_some hb3 e3); (replace e4 := below_some hb3 e4); clear hb3)
    obtain ⟨go, hgo⟩ : ∃ go, w3.heap.size = go := ⟨_, rfl⟩
    obtain ⟨W4, hW4⟩ : ∃ W4, w3.alloc (.cells #[.slice A4 n4 c4, .int .i64 y.Sum, .int .i64 y.Count, .int .i64 y.Least, .int .i64 y.Most] 50) = W4 := ⟨_, rfl⟩
    have hb4 : Below w3.heap.size w3 W4 := by rw [← hW4]; exact below_new (Below.refl _ _) _
    replace HS := Lib.hid ((HS.out.alloc' hgo 50 [.slice A4 n4 c4, .int .i64 y.Sum, .int .i64 y.Count, .int .i64 y.Least, .int .i64 y.Most]).atW hW4)
    rw [hW4, hgo]
    clear hW4 hgo
    replace e0 := below_some hb4 e0
    replace e1 := below_some hb4 e1
    replace e2 := below_some hb4 e2
    replace e3 := below_some hb4 e3
    replace e4 := below_some hb4 e4
    clear hb4
    have hym := List.mem_of_getElem? HY.out
    have q1 := HT.out.sum y hym
    have q2 := HT.out.cnt y hym
    have q3 := HT.out.least y hym
    obtain ⟨-, r2, r3, r4, r5⟩ := Pl.totOk_iff.1 HOK.out
    have hw1 : IntKind.i64.wrap (y.Sum + x.Sum) = y.Sum + x.Sum := IntWalk.i64_in _ (by omega)
    have hw2 : IntKind.i64.wrap (y.Count + x.Count) = y.Count + x.Count := IntWalk.i64_in _ (by omega)
    have HI : Hid (Mm.I64 (y.Sum + x.Sum) ∧ Mm.I64 (y.Count + x.Count) ∧ Mm.I64 x.Least ∧ Mm.I64 y.Least ∧ Mm.I64 x.Most ∧ Mm.I64 y.Most) := by unfold Hid Mm.I64; omega
    clear q1 q2 q3 r2 r3 r4 r5
    obtain ⟨mi, ma, hmi, hma, HMI⟩ : ∃ mi ma, mi = (if x.Least < y.Least then x.Least else y.Least) ∧ ma = (if y.Most < x.Most then x.Most else y.Most) ∧ Hid (Mm.I64 mi ∧ Mm.I64 ma) := ⟨_, _, rfl, rfl, by
      have := HI.out
      constructor <;> split <;> simp [this]⟩
    have HMM := Lib.hid (And.intro hmi hma)
    have c1' := HS.out.cell (k := 1) 0 rfl rfl
    have c2' := HS.out.cell (k := 2) 0 rfl rfl
    have c3' := HS.out.cell (k := 3) 0 rfl rfl
    have c4' := HS.out.cell (k := 4) 0 rfl rfl
    have z1 := HS.out.frz (k := 1) 0 rfl
    have z2 := HS.out.frz (k := 2) 0 rfl
    have z3 := HS.out.frz (k := 3) 0 rfl
    have z4 := HS.out.frz (k := 4) 0 rfl
    have b1 := HS.out.cell (k := 1) 1 rfl rfl
    have b2 := HS.out.cell (k := 2) 1 rfl rfl
    have b3 := HS.out.cell (k := 3) 1 rfl rfl
    have b4 := HS.out.cell (k := 4) 1 rfl rfl
    have ne1 : gb ≠ go := fun e => HS.out.apart (i := 1) (j := 0) rfl rfl (by decide) gb (by simp [Mm.tblk]) (by simp [Mm.tblk, e])
    clear hmi hma
    have hgo : go ≠ g := fun e => HS.out.apart (i := 2) (j := 0) rfl rfl (by decide) g (HS.out.sl 2 rfl).mem_block (by simp [Mm.tblk, e])
    go_upto_if 62 with fail
    obtain ⟨W5, hW5⟩ : ∃ W5, (W4.setCell ⟨go, 1, none⟩ (.int .i64 (y.Sum + x.Sum))).setCell ⟨go, 2, none⟩ (.int .i64 (y.Count + x.Count)) = W5 := ⟨_, rfl⟩
    replace HS := Lib.hid (((HS.out.setBlk (k := 1) 0 rfl (.int .i64 (y.Sum + x.Sum))).setBlk (k := 2) 0 rfl (.int .i64 (y.Count + x.Count))).atW hW5)
    have far : ∀ (V : World) (k j : Nat) (u v : Value), V.cell? ⟨g, j, none⟩ = some v → (V.setCell ⟨go, k, none⟩ u).cell? ⟨g, j, none⟩ = some v := fun V k j u v h => by
      rw [World.cell?_setCell_other]
      · exact h
      · intro e
        injection e with e _ _
        exact hgo e
    replace e0 : W5.cell? ⟨g, p * 5, none⟩ = some (.slice A4 n4 c4) := by rw [← hW5]; exact far _ _ _ _ _ (far _ _ _ _ _ e0)
    rw [hW5]
    clear hW5 e1 e2 e3 e4 c1' c2' c3' c4' z1 z2 z3 z4 b1 b2 b3 b4 hw1 hw2
    have c3' := HS.out.cell (k := 3) 0 rfl rfl
    have z3 := HS.out.frz (k := 3) 0 rfl
    have b3 := HS.out.cell (k := 3) 1 rfl rfl
    go_cut [] (fun wx => wx.cell? ⟨g, p * 5, none⟩ = some (.slice A4 n4 c4) ∧ Hid (Mm.SepF fp w wx [Mm.tblk go 50 [.slice A4 n4 c4, .int .i64 (y.Sum + x.Sum), .int .i64 (y.Count + x.Count), .int .i64 mi, .int .i64 y.Most], Mm.tblk gb 50 [.slice A2 n2 c2, .int .i64 x.Sum, .int .i64 x.Count, .int .i64 x.Least, .int .i64 x.Most], Mm.tsl rTotal 50 l (.slice (some ⟨g, 0, none⟩) n c1) fp]))
    case first =>
      by_cases hc : x.Least < y.Least
      · go_wp2_with fail
        go_meet
        refine ⟨far _ _ _ _ _ e0, ?_⟩
        have := HS.out.setBlk (k := 3) 0 rfl (.int .i64 x.Least)
        rw [HMM.out.1, if_pos hc]
        exact this
      · go_wp2_with fail
        go_meet
        refine ⟨e0, ?_⟩
        rw [HMM.out.1, if_neg (by omega)]
        exact HS.out
    case rest =>
    clear HS e0 c3' z3 b3
    obtain ⟨e0, HS⟩ := hcut
    obtain ⟨W6, rfl⟩ : ∃ W : World, W = wc := ⟨_, rfl⟩
    have c4' := HS.out.cell (k := 4) 0 rfl rfl
    have z4 := HS.out.frz (k := 4) 0 rfl
    have b4 := HS.out.cell (k := 4) 1 rfl rfl
    go_upto_if 70 with fail
    go_cut [] (fun wx => wx.cell? ⟨g, p * 5, none⟩ = some (.slice A4 n4 c4) ∧ Hid (Mm.SepF fp w wx [Mm.tblk go 50 [.slice A4 n4 c4, .int .i64 (y.Sum + x.Sum), .int .i64 (y.Count + x.Count), .int .i64 mi, .int .i64 ma], Mm.tblk gb 50 [.slice A2 n2 c2, .int .i64 x.Sum, .int .i64 x.Count, .int .i64 x.Least, .int .i64 x.Most], Mm.tsl rTotal 50 l (.slice (some ⟨g, 0, none⟩) n c1) fp]))
    case first =>
      by_cases hc : y.Most < x.Most
      · go_wp2_with fail
        go_meet
        refine ⟨far _ _ _ _ _ e0, ?_⟩
        have := HS.out.setBlk (k := 4) 0 rfl (.int .i64 x.Most)
        rw [HMM.out.2, if_pos hc]
        exact this
      · go_wp2_with fail
        go_meet
        refine ⟨e0, ?_⟩
        rw [HMM.out.2, if_neg (by omega)]
        exact HS.out
    case rest =>
    clear HS e0 c4' z4 b4
    obtain ⟨e0, HS⟩ := hcut
    obtain ⟨W7, rfl⟩ : ∃ W : World, W = wc := ⟨_, rfl⟩
    obtain ⟨cur, hcur⟩ := (HS.out.sl 2 rfl).blk
    have hid : W7.setCell ⟨g, p * 5, none⟩ (.slice A4 n4 c4) = W7 := Mm.setCell_id hcur (hcur.cell_inv e0)
    obtain ⟨A5, n5, c5, u0, u1, u2, u3, u4⟩ := rTotal_ocell (HS.out.sl 2 rfl) (HS.out.ndat (i := 2) rfl) HY.out
    have z0 := (HS.out.sl 2 rfl).frozen (p * 5)
    have z1 := (HS.out.sl 2 rfl).frozen (p * 5 + 1)
    have z2 := (HS.out.sl 2 rfl).frozen (p * 5 + 2)
    have z3 := (HS.out.sl 2 rfl).frozen (p * 5 + 3)
    have z4 := (HS.out.sl 2 rfl).frozen (p * 5 + 4)
    have t0 := HS.out.cell (k := 0) 0 rfl rfl
    have t1 := HS.out.cell (k := 1) 0 rfl rfl
    have t2 := HS.out.cell (k := 2) 0 rfl rfl
    have t3 := HS.out.cell (k := 3) 0 rfl rfl
    have t4 := HS.out.cell (k := 4) 0 rfl rfl
    clear u0 hcur far
    go_wp2
    have hpx : p < l.length := (List.getElem?_eq_some_iff.1 HY.out).1
    have HA := Lib.hid (HS.out.putSl (x' := ⟨y.Labels, y.Sum + x.Sum, y.Count, y.Least, y.Most⟩) (u := .int .i64 (y.Sum + x.Sum)) (m := 1) 2 rfl HY.out (by decide) (fun cs fx h => by
      obtain ⟨A, n, c, f, rfl, rfl, h0, i1, i2, i3, i4⟩ := rTotal_own h
      exact rTotal_own_mk (x := ⟨y.Labels, y.Sum + x.Sum, y.Count, y.Least, y.Most⟩) h0 HI.out.1 i2 i3 i4))
    have HB := Lib.hid (HA.out.putSl (k := p) (x' := ⟨y.Labels, y.Sum + x.Sum, y.Count + x.Count, y.Least, y.Most⟩) (u := .int .i64 (y.Count + x.Count)) (m := 2) 2 rfl (List.getElem?_set_self hpx) (by decide) (fun cs fx h => by
      obtain ⟨A, n, c, f, rfl, rfl, h0, i1, i2, i3, i4⟩ := rTotal_own h
      exact rTotal_own_mk (x := ⟨y.Labels, y.Sum + x.Sum, y.Count + x.Count, y.Least, y.Most⟩) h0 i1 HI.out.2.1 i3 i4))
    have HC := Lib.hid (HB.out.putSl (k := p) (x' := ⟨y.Labels, y.Sum + x.Sum, y.Count + x.Count, mi, y.Most⟩) (u := .int .i64 mi) (m := 3) 2 rfl (List.getElem?_set_self (by rw [List.length_set]; exact hpx)) (by decide) (fun cs fx h => by
      obtain ⟨A, n, c, f, rfl, rfl, h0, i1, i2, i3, i4⟩ := rTotal_own h
      exact rTotal_own_mk (x := ⟨y.Labels, y.Sum + x.Sum, y.Count + x.Count, mi, y.Most⟩) h0 i1 i2 HMI.out.1 i4))
    have HD := Lib.hid (HC.out.putSl (k := p) (x' := ⟨y.Labels, y.Sum + x.Sum, y.Count + x.Count, mi, ma⟩) (u := .int .i64 ma) (m := 4) 2 rfl (List.getElem?_set_self (by rw [List.length_set, List.length_set]; exact hpx)) (by decide) (fun cs fx h => by
      obtain ⟨A, n, c, f, rfl, rfl, h0, i1, i2, i3, i4⟩ := rTotal_own h
      exact rTotal_own_mk (x := ⟨y.Labels, y.Sum + x.Sum, y.Count + x.Count, mi, ma⟩) h0 i1 i2 i3 HMI.out.2))
    have hlist : Pl.tput l x = (((l.set p (⟨y.Labels, y.Sum + x.Sum, y.Count, y.Least, y.Most⟩ : Total)).set p ⟨y.Labels, y.Sum + x.Sum, y.Count + x.Count, y.Least, y.Most⟩).set p ⟨y.Labels, y.Sum + x.Sum, y.Count + x.Count, mi, y.Most⟩).set p ⟨y.Labels, y.Sum + x.Sum, y.Count + x.Count, mi, ma⟩ := by
      rw [List.set_set, List.set_set, List.set_set, HXN.out]
      unfold Pl.tadd
      rw [HMM.out.1, HMM.out.2]
    go_ret
    rw [hlist]
    exact ⟨_, _, _, fp, rfl, HD.out.sel [2] (by decide) rfl⟩
  · have hmiss : ∀ o, l[p]? = some o → Pl.txt o ≠ Pl.txt x := fun o ho he => hit ⟨o, ho, he⟩
    have HXN : Hid (Pl.tput l x = Mm.insertAt l p x) := by
      show _ = _
      exact (Pl.tput_miss (by rw [HP.out]; exact hmiss)).trans (by rw [HP.out])
    have HMS := Lib.hid hmiss
    clear hmiss hit
    go_upto_region 5 with fail
    go_cut [41] (fun c wx => c = .bool false ∧ Hid (Below W.heap.size W wx))
    case first =>
      by_cases hlt : p < n
      · obtain ⟨y, b, off, A4, n4, c4, hy, rfl, hb, hlb, i1, i2, i3, i4, e0, -⟩ := rTotal_get ((HS.out.sl 1 rfl).weak (HS.out.sl 1 rfl).olt) hlt
        have hly := HT.out.lab y (List.mem_of_getElem? hy)
        have CL := l3Text_c y.Labels A4 n4 c4 W W.heap.size hlb (Nat.le_refl _) hly
        have hne := HMS.out y hy
        have hq : ((Pl.labelsText y.Labels).toList == (Pl.labelsText x.Labels).toList) = false := by
          rw [beq_eq_false_iff_ne]
          exact fun e => hne (Pl.ba_inj e)
        have f1 : (p : Int) < (n : Nat) := by omega
        have f2 : (0 : Int) ≤ (p : Nat) := by omega
        have f3 : ((p : Nat) : Int).toNat = p := by omega
        clear hy hlb i1 i2 i3 i4 hne
        go_wp2_with (go_at_call 76; (with_reducible refine CL.mono ?_); clear CL; rintro e w3 ⟨rfl, hb3⟩)
        go_meet
        exact ⟨rfl, hb3⟩
      · have f1 : ¬ (p : Int) < (n : Nat) := by omega
        go_wp2
        go_meet
        exact ⟨rfl, Below.refl _ _⟩
    case rest =>
    obtain ⟨rfl, HB⟩ := hcut
    obtain ⟨w3, rfl⟩ : ∃ W : World, W = wc := ⟨_, rfl⟩
    replace HS := Lib.hid (HS.out.step HB.out)
    have HX3 := Lib.hid (HXB.out.keep (w' := w3) fun b hb => HB.out.block b (Nat.lt_of_lt_of_le hb hBWW))
    have hBW3 := Nat.le_trans hBWW HB.out.size
    clear HB HXB hBWW
    have s0 := HS.out.cell (k := 0) 0 rfl rfl
    have z0 := HS.out.frz (k := 0) 0 rfl
    go_upto_region 15 with fail
    obtain ⟨g0, hg0⟩ : ∃ g0, w3.heap.size = g0 := ⟨_, rfl⟩
    obtain ⟨W4, hW4⟩ : ∃ W4, w3.alloc (.cells #[] 97) = W4 := ⟨_, rfl⟩
    have hb4 : Below w3.heap.size w3 W4 := by rw [← hW4]; exact below_new (Below.refl _ _) _
    have hz4 : W4.heap.size = g0 + 1 := by rw [← hW4, Mm.sz1, hg0]
    have hX4 := HX3.out.keep (w' := W4) fun b hb => hb4.block b (Nat.lt_of_lt_of_le hb hBW3)
    have ho4 : W4.ownsRow 0 97 2 (.slice (some ⟨g0, 0, none⟩) 0 0) 0 [] := ⟨rfl, .inr ⟨g0, 0, #[], rfl, Nat.zero_le _, by rw [← hW4, ← hg0]; exact heap_alloc_new w3 _, Nat.le_refl _, Nat.zero_le _, rfl, rfl⟩⟩
    have hlab6 := Pl.labelsOk_len (Pl.totOk_lab HOK.out)
    have hlx := hX4.1
    obtain ⟨iL, hiL, hL0, hLs, hLb⟩ := info_parts Try.info_clLab
    have hown : ∀ (w' : World) z, z ∈ x.Labels → rLabel.own w' z (Mm.encLab z) [] := fun w' z hz => by
      obtain ⟨i, hi, rfl⟩ := List.mem_iff_getElem.1 hz
      obtain ⟨y, b, off, cs, hy, _, _, ha, _⟩ := hX4.get (k := i) (by rw [← hX4.1]; exact hi)
      rw [List.getElem?_eq_getElem hi] at hy
      injection hy with hy
      subst hy
      exact Mm.flatA_lab.own ha w'
    obtain ⟨v5, w5, hr5, h51, h52, h53⟩ := Mm.run_append_row (P := Try.prog) (w := W4) (A := A2) (m := n2) (c := c2) (news := x.Labels.flatMap Mm.encLab) 48 48 iL _ 2 32 Try.underlying48 hiL hL0 hLs hLb rfl (by omega) ho4 (fun h => by have h3 := hX4.2.2.2.1 h; have h4 := hX4.2.1; omega) (by
        have := Mm.flat_len (E := rLabel) (enc := Mm.encLab) (fun x cs h => Mm.flatA_lab.at_ h) hX4
        rw [show rLabel.size = 2 from rfl] at this
        exact this) (fun a ha => by subst ha; exact Mm.flat_cells' (E := rLabel) (enc := Mm.encLab) (fun x cs h => Mm.flatA_lab.at_ h) hX4) (fun u hu => by
        obtain ⟨z, hz, hu⟩ := List.mem_flatMap.1 hu
        exact rLabel.one (hown W4 z hz) u hu) (by unfold maxLen; omega) (by omega)
    rw [Nat.zero_add, List.nil_append] at h51
    have hsl5 : Mm.SlOwn rLabel 97 w5 x.Labels v5 v5.ownBlock.toList := Mm.SlOwn.of_row (enc := Mm.encLab) (E := rLabel) h51 (fun z hz => hown w5 z hz) hlx
    have hb5 : Below w3.heap.size w3 w5 := hb4.grown h52 hb4.size (fun k hk => by
      simp [Value.ownBlock] at hk; omega)
    have hnew5 : ∀ b, b ∈ v5.ownBlock.toList → w3.heap.size ≤ b := fun b hb => by
      have hb' : v5.ownBlock = some b := by simpa using hb
      rcases h53 with h | h
      · rw [hb'] at h; simp [Value.ownBlock] at h; omega
      · rw [hb'] at h; injection h with h; omega
    obtain ⟨A3, n3, c3, rfl, -⟩ := hsl5.form
    have HS5 := Lib.hid (HS.out.add hb5 (t := Mm.tsl rLabel 97 x.Labels (.slice A3 n3 c3) _) hsl5 (by simp only [Mm.tsl]; cases (Value.slice A3 n3 c3).ownBlock <;> simp) hnew5)
    have HR5 := Lib.hid hr5
    have t0 := HS5.out.cell (k := 0) 1 rfl rfl
    have y0 := HS5.out.frz (k := 0) 1 rfl
    clear hr5 h51 h52 h53 hsl5 hb5 hnew5 hown ho4 hX4 hz4 hb4 hlx hlab6
    have s4 : W4.cell? ⟨gb, 0, none⟩ = some (.slice A2 n2 c2) := by rw [← hW4]; exact below_some (below_new (Below.refl w3.heap.size w3) _) s0
    go_upto_region 16 with (at_builtin; refine Lib.wpList_append_run _ rfl _ _ _ _ rfl _ _ rfl rfl _ _ HR5.out ?_)
    obtain ⟨W6, hW6⟩ : ∃ W6, w5.setCell ⟨gb, 0, none⟩ (.slice A3 n3 c3) = W6 := ⟨_, rfl⟩
    have HS6 := Lib.hid ((HS5.out.setBlk (k := 0) 1 rfl (.slice A3 n3 c3)).atW hW6)
    rw [hW6]
    clear hW6 HS5 HR5 t0 y0 s4 hW4 hg0 s0 z0 HS HX3 hBW3
    have b0 := HS6.out.cell (k := 0) 1 rfl rfl
    have b1 := HS6.out.cell (k := 1) 1 rfl rfl
    have b2 := HS6.out.cell (k := 2) 1 rfl rfl
    have b3 := HS6.out.cell (k := 3) 1 rfl rfl
    have b4 := HS6.out.cell (k := 4) 1 rfl rfl
    obtain ⟨lc, ho, h1c, hnext⟩ := HS6.out.insert 2 0 (by decide) (k := p) rfl (by rw [← HLN.out]; exact hpn) rfl (Below.refl W6.heap.size W6) (x := x) (cx := [.slice A3 n3 c3, .int .i64 x.Sum, .int .i64 x.Count, .int .i64 x.Least, .int .i64 x.Most]) (fun W h => by
      obtain ⟨i1, i2, i3, i4⟩ := totOk_i64 HOK.out
      exact rTotal_own_mk h i1 i2 i3 i4)
    rw [← HLN.out] at ho hnext
    have ho : W6.ownsRow 0 50 5 (.slice A1 n c1) n lc := ho
    have HNX := Lib.hid hnext
    clear hnext
    rcases ho.2 with ⟨hv, hn0⟩ | ⟨g, cap, cur, hv, _, hg, hnc, hcm, hcs, htake⟩
    · injection hv with e1 e2 e3
      subst e1 e3
      subst hn0
      obtain rfl : p = 0 := by omega
      obtain ⟨A8, c8, w8, e1, A10, c10, w10, e2, A11, c11, w11, e3, r4, k1, k3, n3'⟩ := put3 W6 none none 0 0 0 0 0 lc [.slice A3 n3 c3, .int .i64 x.Sum, .int .i64 x.Count, .int .i64 x.Least, .int .i64 x.Most] ho h1c hpn hn100 rfl (by simp [Value.oneCell']) (fun _ => ⟨rfl, rfl⟩) rfl (fun _ => ⟨rfl, rfl⟩) (fun a h => by cases h) (fun a h => by cases h)
      obtain ⟨fp', hsE⟩ := HNX.out _ w11 r4 (Mm.Chg.grown0 k3) (.inr n3')
      have HSE := Lib.hid hsE
      have HK := Lib.hid (And.intro e1 (And.intro e2 e3))
      replace b0 := below_some k1 b0
      replace b1 := below_some k1 b1
      replace b2 := below_some k1 b2
      replace b3 := below_some k1 b3
      replace b4 := below_some k1 b4
      clear hsE e1 e2 e3 r4 k1 k3 n3' ho h1c HNX
      have f1 : (0 : Int) ≤ (0 : Nat) := by omega
      go_upto_region 17 with (at_builtin; refine Lib.wpList_append_run _ rfl _ _ _ _ rfl _ _ rfl rfl _ _ (HK.out.1 _) ?_)
      go_upto_region 18 with (at_builtin; refine Lib.wpList_append_run _ rfl _ _ _ _ rfl _ _ rfl rfl _ _ (HK.out.2.1 _) ?_)
      go_wp2_with (at_builtin; refine Lib.wpList_append_run _ rfl _ _ _ _ rfl _ _ rfl rfl _ _ (HK.out.2.2 _) ?_)
      go_ret
      rw [HXN.out]
      exact ⟨_, _, _, fp', rfl, HSE.out.sel [2] (by decide) rfl⟩
    · injection hv with e1 e2 e3
      subst e1 e3
      have hcc : ∀ j u, lc[j]? = some u → W6.cell? ⟨g, j, none⟩ = some u := fun j u hj => by
        have := ho.cells (g := g) rfl j u hj
        rwa [Mm.add0] at this
      have hcl := ho.1
      unfold maxLen at hcm
      clear hg hcs htake
      have hs1 : ∀ (q : Nat) (a : Addr), (some (⟨g, 0, none⟩ : Addr)) = some a → ∀ j u, (lc.take q)[j]? = some u → W6.cell? (a.add j) = some u := by
        intro q a ha j u hj
        injection ha with ha
        subst ha
        rw [Mm.add0]
        rw [List.getElem?_take] at hj
        split at hj
        · exact hcc j u hj
        · cases hj
      have hs3 : ∀ (q : Nat) (a : Addr), (some (⟨g, q, none⟩ : Addr)) = some a → ∀ j u, (lc.drop q)[j]? = some u → W6.cell? (a.add j) = some u := by
        intro q a ha j u hj
        injection ha with ha
        subst ha
        rw [Addr.add_lit]
        rw [List.getElem?_drop] at hj
        exact hcc _ u hj
      by_cases hcp : c1 = p
      · subst hcp
        obtain ⟨A8, c8, w8, e1, A10, c10, w10, e2, A11, c11, w11, e3, r4, k1, k3, n3'⟩ := put3 W6 (some ⟨g, 0, none⟩) (some ⟨g, 0, none⟩) n c1 0 c1 0 lc [.slice A3 n3 c3, .int .i64 x.Sum, .int .i64 x.Count, .int .i64 x.Least, .int .i64 x.Most] ho h1c hpn hn100 rfl (by simp [Value.oneCell']) (fun h => by cases h) (by omega) (fun h => by cases h) (hs1 _) (fun a ha j u hj => by rw [List.drop_of_length_le (by omega)] at hj; simp at hj)
        obtain ⟨fp', hsE⟩ := HNX.out _ w11 r4 (Mm.Chg.grown0 k3) (.inr n3')
        have HSE := Lib.hid hsE
        have HK := Lib.hid (And.intro e1 (And.intro e2 e3))
        replace b0 := below_some k1 b0
        replace b1 := below_some k1 b1
        replace b2 := below_some k1 b2
        replace b3 := below_some k1 b3
        replace b4 := below_some k1 b4
        clear hsE e1 e2 e3 r4 k1 k3 n3' ho h1c HNX
        have f1 : (0 : Int) ≤ (c1 : Nat) := by omega
        go_upto_region 17 with (at_builtin; refine Lib.wpList_append_run _ rfl _ _ _ _ rfl _ _ rfl rfl _ _ (HK.out.1 _) ?_)
        go_upto_region 18 with (at_builtin; refine Lib.wpList_append_run _ rfl _ _ _ _ rfl _ _ rfl rfl _ _ (HK.out.2.1 _) ?_)
        go_wp2_with (at_builtin; refine Lib.wpList_append_run _ rfl _ _ _ _ rfl _ _ rfl rfl _ _ (HK.out.2.2 _) ?_)
        go_ret
        rw [HXN.out]
        exact ⟨_, _, _, fp', rfl, HSE.out.sel [2] (by decide) rfl⟩
      · have hcp2 : ¬ (c1 = p) := hcp
        obtain ⟨A8, c8, w8, e1, A10, c10, w10, e2, A11, c11, w11, e3, r4, k1, k3, n3'⟩ := put3 W6 (some ⟨g, 0, none⟩) (some ⟨g, p * 5, none⟩) n p (n - p) c1 (c1 - p) lc [.slice A3 n3 c3, .int .i64 x.Sum, .int .i64 x.Count, .int .i64 x.Least, .int .i64 x.Most] ho h1c hpn hn100 rfl (by simp [Value.oneCell']) (fun h => by cases h) rfl (fun h => by cases h) (hs1 _) (hs3 _)
        obtain ⟨fp', hsE⟩ := HNX.out _ w11 r4 (Mm.Chg.grown0 k3) (.inr n3')
        have HSE := Lib.hid hsE
        have HK := Lib.hid (And.intro e1 (And.intro e2 e3))
        replace b0 := below_some k1 b0
        replace b1 := below_some k1 b1
        replace b2 := below_some k1 b2
        replace b3 := below_some k1 b3
        replace b4 := below_some k1 b4
        clear hsE e1 e2 e3 r4 k1 k3 n3' ho h1c HNX
        have f1 : (0 : Int) ≤ (p : Nat) := by omega
        go_upto_region 17 with (at_builtin; refine Lib.wpList_append_run _ rfl _ _ _ _ rfl _ _ rfl rfl _ _ (HK.out.1 _) ?_)
        go_upto_region 18 with (at_builtin; refine Lib.wpList_append_run _ rfl _ _ _ _ rfl _ _ rfl rfl _ _ (HK.out.2.1 _) ?_)
        go_wp2_with (at_builtin; refine Lib.wpList_append_run _ rfl _ _ _ _ rfl _ _ rfl rfl _ _ (HK.out.2.2 _) ?_)
        go_ret
        rw [HXN.out]
        exact ⟨_, _, _, fp', rfl, HSE.out.sel [2] (by decide) rfl⟩
end Go.Proofs.Ytnppcdiicnofpaa
