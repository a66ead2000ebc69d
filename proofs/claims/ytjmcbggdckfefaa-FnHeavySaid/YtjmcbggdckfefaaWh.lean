/-
  Contracts on new heavies. No conditions.
-/
import Derived.Test.YtjmcbggdckfefaaWa
import Derived.Test.YtjmcbggdckfefaaTy
import Derived.Deep.RegionLaw
import Derived.Lib.Hide
namespace Go.Proofs.Ytjmcbggdckfefaa
open Go.RowKit
attribute [local go_sem] und_cell World.cell?_alloc_some
def Pl.newHv (n : Nat) : Heavy := ⟨List.replicate n ByteArray.empty, List.replicate n 0, 0, 0⟩
def Pl.newHeavy (n : Int) : Heavy × Bool := if Pl.isIn n 1 6 = true then (Pl.newHv n.toNat, true) else (⟨[], [], 0, 0⟩, false)
theorem upto6 {p : Nat → Prop} (h1 : p 1) (h2 : p 2) (h3 : p 3) (h4 : p 4) (h5 : p 5) (h6 : p 6) (n : Nat) (a : 1 ≤ n) (b : n ≤ 6) : p n := by
  have : n = 1 ∨ n = 2 ∨ n = 3 ∨ n = 4 ∨ n = 5 ∨ n = 6 := by omega
  rcases this with rfl | rfl | rfl | rfl | rfl | rfl <;> assumption
theorem make_strs (n : Nat) (h1 : 1 ≤ n) (h6 : n ≤ 6) (W : World) : (Instr.makeSlice 33 (.int .i64 n) (.int .i64 n)).run Try.prog W = .ok (.slice (some ⟨W.heap.size, 0, none⟩) n n) (W.alloc (.cells (Array.replicate n (.string ByteArray.empty)) 9)) :=
  upto6 (p := fun n => (Instr.makeSlice 33 (.int .i64 n) (.int .i64 n)).run Try.prog W = .ok (.slice (some ⟨W.heap.size, 0, none⟩) n n) (W.alloc (.cells (Array.replicate n (.string ByteArray.empty)) 9))) (by kernel_rfl) (by kernel_rfl) (by kernel_rfl) (by kernel_rfl) (by kernel_rfl) (by kernel_rfl) n h1 h6
theorem make_ints (n : Nat) (h1 : 1 ≤ n) (h6 : n ≤ 6) (W : World) : (Instr.makeSlice 34 (.int .i64 n) (.int .i64 n)).run Try.prog W = .ok (.slice (some ⟨W.heap.size, 0, none⟩) n n) (W.alloc (.cells (Array.replicate n (.int .i64 0)) 3)) :=
  upto6 (p := fun n => (Instr.makeSlice 34 (.int .i64 n) (.int .i64 n)).run Try.prog W = .ok (.slice (some ⟨W.heap.size, 0, none⟩) n n) (W.alloc (.cells (Array.replicate n (.int .i64 0)) 3))) (by kernel_rfl) (by kernel_rfl) (by kernel_rfl) (by kernel_rfl) (by kernel_rfl) (by kernel_rfl) n h1 h6
theorem fm_rep {α : Type} (f : α → Value) (x : α) : ∀ n : Nat, (List.replicate n x).flatMap (fun s => [f s]) = List.replicate n (f x)
  | 0 => rfl
  | n + 1 => by rw [List.replicate_succ, List.flatMap_cons, fm_rep f x n]; rfl
theorem newHv_own {w : World} {g h : Nat} {n : Nat} (hg : w.heap[g]? = some (.cells (Array.replicate n (.string ByteArray.empty)) 9 (0, 0))) (hh : w.heap[h]? = some (.cells (Array.replicate n (.int .i64 0)) 3 (0, 0))) (h6 : n ≤ 6) : rHeavy.own w (Pl.newHv n) [.slice (some ⟨g, 0, none⟩) n n, .slice (some ⟨h, 0, none⟩) n n, .int .i64 0, .int .i64 0] ([g] ++ [h]) := by
  have hm : n ≤ maxLen := by unfold maxLen; omega
  have e1 : Mm.SlOwn Mm.str 9 w (List.replicate n ByteArray.empty) (.slice (some ⟨g, 0, none⟩) n n) [g] :=
    Mm.SlOwn.of_blk (fun s => [.string s]) (by rw [fm_rep]; unfold Mm.Blk; rw [hg]; simp) (fun x hx => by rw [(List.mem_replicate.1 hx).2]; exact ⟨rfl, by show (0 : Nat) ≤ _; exact Nat.zero_le _, rfl⟩) (by simp) hm
  have e2 : Mm.SlOwn Mm.int 3 w (List.replicate n 0) (.slice (some ⟨h, 0, none⟩) n n) [h] :=
    Mm.SlOwn.of_blk (fun s => [.int .i64 s]) (by rw [fm_rep]; unfold Mm.Blk; rw [hh]; simp) (fun x hx => by rw [(List.mem_replicate.1 hx).2]; exact ⟨rfl, by show Mm.I64 0; unfold Mm.I64; simp, rfl⟩) (by simp) hm
  exact rHeavy_own_mk (x := Pl.newHv n) e1 e2 (by show Mm.I64 0; unfold Mm.I64; simp) (by show Mm.I64 0; unfold Mm.I64; simp)
theorem implNewHeavy_no (n : Int) (w : World) (h : Pl.isIn n 1 6 = false) :
    Calls Try.prog 51 #[.int .i64 n] w (Mm.Ret2 rHeavy w ⟨[], [], 0, 0⟩ false) := by
  go_enter Try.func51, Try.ntmps51
  go_wp2_with (go_at_call 78; refine (within_c _ _ _ _).mono ?_; rintro e w' ⟨rfl, rfl⟩)
  exact bodyPost_ret (v := .tuple #[.agg #[.slice none 0 0, .slice none 0 0, .int .i64 0, .int .i64 0], .bool false]) (by simp [results, Try.results51, go_sem]) rfl
    ⟨[.slice none 0 0, .slice none 0 0, .int .i64 0, .int .i64 0], [], rfl, rHeavy_own_mk (x := ⟨[], [], 0, 0⟩) Mm.SlOwn.nil Mm.SlOwn.nil (by show Mm.I64 0; unfold Mm.I64; simp) (by show Mm.I64 0; unfold Mm.I64; simp), List.nodup_nil, (fun b hb => by cases hb), below_new (Below.refl _ _) _⟩
theorem implNewHeavy_yes (n : Nat) (w : World) (h1 : 1 ≤ n) (h3 : n ≤ 6) :
    Calls Try.prog 51 #[.int .i64 n] w (Mm.Ret2 rHeavy w (Pl.newHv n) true) := by
  have hin : Pl.isIn n 1 6 = true := by unfold Pl.isIn; simp; omega
  have hms := make_strs n h1 h3
  have hmi := make_ints n h1 h3
  go_enter Try.func51, Try.ntmps51
  go_wp2_with (go_at_call 78; refine (within_c _ _ _ _).mono ?_; rintro e w' ⟨rfl, rfl⟩)
  go_region_law (fail)
  · go_wp2
    exact bodyPost_ret (v := .tuple #[.agg #[.slice (some ⟨w.heap.size + 1, 0, none⟩) n n, .slice (some ⟨w.heap.size + 1 + 1, 0, none⟩) n n, .int .i64 0, .int .i64 0], .bool true]) (by simp [results, Try.results51, go_sem]) rfl
      ⟨[.slice (some ⟨w.heap.size + 1, 0, none⟩) n n, .slice (some ⟨w.heap.size + 1 + 1, 0, none⟩) n n, .int .i64 0, .int .i64 0], [w.heap.size + 1] ++ [w.heap.size + 1 + 1], rfl,
        newHv_own ((Below.heap_alloc _ _ _ (by simp)).trans (Mm.heap_new _ (Mm.sz1 _ _) _)) (Mm.heap_new _ (Mm.sz2 _ _ _) _) h3, by simp, fun b hb => by simp at hb; omega, (below_new (below_new (below_new (Below.refl _ _) _) _) _).drew⟩
  · go_wp2
    exact bodyPost_ret (v := .tuple #[.agg #[.slice (some ⟨w.heap.size + 1 + 1, 0, none⟩) n n, .slice (some ⟨w.heap.size + 1, 0, none⟩) n n, .int .i64 0, .int .i64 0], .bool true]) (by simp [results, Try.results51, go_sem]) rfl
      ⟨[.slice (some ⟨w.heap.size + 1 + 1, 0, none⟩) n n, .slice (some ⟨w.heap.size + 1, 0, none⟩) n n, .int .i64 0, .int .i64 0], [w.heap.size + 1 + 1] ++ [w.heap.size + 1], rfl,
        newHv_own (Mm.heap_new _ (Mm.sz2 _ _ _) _) ((Below.heap_alloc _ _ _ (by simp)).trans (Mm.heap_new _ (Mm.sz1 _ _) _)) h3, by simp, fun b hb => by simp at hb; omega, (below_new (below_new (below_new (Below.refl _ _) _) _) _).drew⟩
theorem implNewHeavy_c (n : Int) (w : World) : Calls Try.prog 51 #[.int .i64 n] w (Mm.Ret2 rHeavy w (Pl.newHeavy n).1 (Pl.newHeavy n).2) := by
  cases h : Pl.isIn n 1 6
  · have e : Pl.newHeavy n = (⟨[], [], 0, 0⟩, false) := if_neg (by rw [h]; simp)
    rw [e]
    exact implNewHeavy_no n w h
  · have e : Pl.newHeavy n = (Pl.newHv n.toNat, true) := if_pos h
    rw [e]
    have hb : 1 ≤ n ∧ n ≤ 6 := by unfold Pl.isIn at h; simpa using h
    have := implNewHeavy_yes n.toNat w (by omega) (by omega)
    rwa [show ((n.toNat : Nat) : Int) = n by omega] at this
theorem specNewHeavy_no (n : Int) (w : World) (h : Pl.isIn n 1 6 = false) :
    Calls Try.prog 52 #[.int .i64 n] w (Mm.Ret2 rHeavy w ⟨[], [], 0, 0⟩ false) := by
  go_enter Try.func52, Try.ntmps52
  go_wp2_with (go_at_call 87; refine (l1In_c _ _ _ _).mono ?_; rintro e w' ⟨rfl, rfl⟩)
  exact bodyPost_ret (v := .tuple #[.agg #[.slice none 0 0, .slice none 0 0, .int .i64 0, .int .i64 0], .bool false]) (by simp [results, Try.results52, go_sem]) rfl
    ⟨[.slice none 0 0, .slice none 0 0, .int .i64 0, .int .i64 0], [], rfl, rHeavy_own_mk (x := ⟨[], [], 0, 0⟩) Mm.SlOwn.nil Mm.SlOwn.nil (by show Mm.I64 0; unfold Mm.I64; simp) (by show Mm.I64 0; unfold Mm.I64; simp), List.nodup_nil, (fun b hb => by cases hb), below_new (Below.refl _ _) _⟩
theorem specNewHeavy_yes (n : Nat) (w : World) (h1 : 1 ≤ n) (h3 : n ≤ 6) :
    Calls Try.prog 52 #[.int .i64 n] w (Mm.Ret2 rHeavy w (Pl.newHv n) true) := by
  have hin : Pl.isIn n 1 6 = true := by unfold Pl.isIn; simp; omega
  have hms := make_strs n h1 h3
  have hmi := make_ints n h1 h3
  go_enter Try.func52, Try.ntmps52
  go_wp2_with (go_at_call 87; refine (l1In_c _ _ _ _).mono ?_; rintro e w' ⟨rfl, rfl⟩)
  go_region_law (fail)
  · go_wp2
    exact bodyPost_ret (v := .tuple #[.agg #[.slice (some ⟨w.heap.size + 1, 0, none⟩) n n, .slice (some ⟨w.heap.size + 1 + 1, 0, none⟩) n n, .int .i64 0, .int .i64 0], .bool true]) (by simp [results, Try.results52, go_sem]) rfl
      ⟨[.slice (some ⟨w.heap.size + 1, 0, none⟩) n n, .slice (some ⟨w.heap.size + 1 + 1, 0, none⟩) n n, .int .i64 0, .int .i64 0], [w.heap.size + 1] ++ [w.heap.size + 1 + 1], rfl,
        newHv_own ((Below.heap_alloc _ _ _ (by simp)).trans (Mm.heap_new _ (Mm.sz1 _ _) _)) (Mm.heap_new _ (Mm.sz2 _ _ _) _) h3, by simp, fun b hb => by simp at hb; omega, (below_new (below_new (below_new (Below.refl _ _) _) _) _).drew⟩
  · go_wp2
    exact bodyPost_ret (v := .tuple #[.agg #[.slice (some ⟨w.heap.size + 1 + 1, 0, none⟩) n n, .slice (some ⟨w.heap.size + 1, 0, none⟩) n n, .int .i64 0, .int .i64 0], .bool true]) (by simp [results, Try.results52, go_sem]) rfl
      ⟨[.slice (some ⟨w.heap.size + 1 + 1, 0, none⟩) n n, .slice (some ⟨w.heap.size + 1, 0, none⟩) n n, .int .i64 0, .int .i64 0], [w.heap.size + 1 + 1] ++ [w.heap.size + 1], rfl,
        newHv_own (Mm.heap_new _ (Mm.sz2 _ _ _) _) ((Below.heap_alloc _ _ _ (by simp)).trans (Mm.heap_new _ (Mm.sz1 _ _) _)) h3, by simp, fun b hb => by simp at hb; omega, (below_new (below_new (below_new (Below.refl _ _) _) _) _).drew⟩
theorem specNewHeavy_c (n : Int) (w : World) : Calls Try.prog 52 #[.int .i64 n] w (Mm.Ret2 rHeavy w (Pl.newHeavy n).1 (Pl.newHeavy n).2) := by
  cases h : Pl.isIn n 1 6
  · have e : Pl.newHeavy n = (⟨[], [], 0, 0⟩, false) := if_neg (by rw [h]; simp)
    rw [e]
    exact specNewHeavy_no n w h
  · have e : Pl.newHeavy n = (Pl.newHv n.toNat, true) := if_pos h
    rw [e]
    have hb : 1 ≤ n ∧ n ≤ 6 := by unfold Pl.isIn at h; simpa using h
    have := specNewHeavy_yes n.toNat w (by omega) (by omega)
    rwa [show ((n.toNat : Nat) : Int) = n by omega] at this
end Go.Proofs.Ytjmcbggdckfefaa
