/-
  Contracts: slices.Delete of one element at slices of structs. No conditions.
-/
import Derived.Test.YtaepohocabealaaEr
import Derived.Test.YtaepohocabealaaTy
import Derived.Test.YtaepohocabealaaWa
import Derived.Lib.Hide
import Derived.Deep.DeepFit
import Derived.Deep.RegionLaw
import Derived.Test.YtaepohocabealaaOp
namespace Go.Proofs.Ytaepohocabealaa
open Go.RowKit
def Mm.encNote (m : Note) : List Value := [.bool m.Back, .int .i64 m.What.Who, .int .i64 m.What.No, .string m.What.Text]
def Mm.zNote : Value := .agg #[.bool false, .int .i64 0, .int .i64 0, .string ⟨#[]⟩]
theorem Mm.flat_note : Mm.FlatN rNote Mm.encNote := ⟨by decide, fun h => by
  obtain ⟨rfl, h1, rfl⟩ := rNote_own h
  exact ⟨rfl, rfl, fun w' => rNote_own_mk h1⟩⟩
theorem Try.infoDel_NAME : (Try.prog.info? 94).map (fun i => (i.zero, i.size, i.bytes)) = some (some Mm.zNote, 4, 40) := by kernel_rfl
set_option maxRecDepth 100000 in
set_option maxHeartbeats 2000000 in
theorem delNote_c (xs : List Note) (g n c k : Nat) (fp : List Nat) (w : World) (hs : Mm.SlOwn rNote 94 w xs (.slice (some ⟨g, 0, none⟩) n c) fp) (hk : k < n) (hn : n ≤ 1000000) :
    Calls Try.prog 90 #[.slice (some ⟨g, 0, none⟩) n c, .int .i64 k, .int .i64 (k + 1 : Nat)] w fun e w' => e = .returned (.slice (some ⟨g, 0, none⟩) (n - 1) c) ∧ Mm.Chg fp w w' ∧ Mm.SlOwn rNote 94 w' (xs.eraseIdx k) (.slice (some ⟨g, 0, none⟩) (n - 1) c) fp := by
  obtain ⟨i0, hi, hz0, hz1, hz2⟩ := info_parts Try.infoDel_NAME
  have hF := Mm.flat_note
  obtain ⟨_, _, hown, hlen⟩ := hF.owns hs
  obtain ⟨cur, hb, hcl, ht, hnx, hnc, hcm, rfl⟩ := hF.blk hs
  have herase := hF.erase hs hk (z := (Mm.zNote : Value).cells.toList) (by rfl) (o1 := k * 4) (o2 := (n - 1) * 4) rfl rfl
  obtain ⟨news, hnews⟩ : ∃ news, (xs.drop (k + 1)).flatMap Mm.encNote = news := ⟨_, rfl⟩
  rw [hnews] at herase
  have hln : news.length = (n - (k + 1)) * 4 := by rw [← hnews, Mm.flatMap_len (s := 4) (fun x hx => hlen x (List.mem_of_mem_drop hx)), List.length_drop, hnx]
  have hone : Hid (∀ u ∈ news, u.oneCell' = true) := by
    intro u hu
    rw [← hnews] at hu
    obtain ⟨x, hx, hu⟩ := List.mem_flatMap.1 hu
    exact (rNote).one (hown x (List.mem_of_mem_drop hx) w) u hu
  have hcells : ∀ j u, news[j]? = some u → w.cell? ⟨g, (k + 1) * 4 + j, none⟩ = some u := fun j u hj => by
    refine hF.cells hs (j := (k + 1) * 4 + j) ?_
    rw [← hnews, Mm.flatMap_drop (s := 4) (k + 1) hlen, List.getElem?_drop] at hj
    exact hj
  obtain ⟨A, hA, hsrc⟩ : ∃ A : Addr, (if c = k + 1 then (some ⟨g, 0, none⟩ : Option Addr) else some ⟨g, (k + 1) * 4, none⟩) = some A ∧ Hid (∀ j u, news[j]? = some u → w.drew.cell? (A.add j) = some u) := by
    by_cases h : c = k + 1
    · refine ⟨⟨g, 0, none⟩, by simp [h], fun t u hu => ?_⟩
      have h0 : news.length = 0 := by rw [hln, show n - (k + 1) = 0 by omega, Nat.zero_mul]
      rw [List.length_eq_zero_iff.1 h0] at hu
      simp at hu
    · refine ⟨⟨g, (k + 1) * 4, none⟩, by simp [h], fun t u hu => ?_⟩
      rw [Addr.add_lit]
      exact hcells t u hu
  have s1 : Hid (news.length = (n - (k + 1)) * 4) := hln
  have hroom : Hid (∀ j, j < news.length → (w.drew.cell? ⟨g, 0 + k * 4 + j, none⟩).isSome = true ∧ w.drew.frozen? ⟨g, 0 + k * 4 + j, none⟩ = false) := by
    intro t ht
    have h1 : n * 4 ≤ cur.length := by rw [hcl]; exact Nat.mul_le_mul_right _ hnc
    rw [hln] at ht
    have h2 : 0 + k * 4 + t < cur.length := by omega
    exact ⟨by show (w.cell? _).isSome = true; rw [hb.cell (List.getElem?_eq_getElem h2)]; rfl, hb.frozen _⟩
  obtain ⟨W1, hW1⟩ : ∃ W1, w.drew.setCells g (0 + k * 4) news = W1 := ⟨_, rfl⟩
  have hb1 : Mm.Blk W1 g 94 (Mm.setList cur (0 + k * 4) news) := by rw [← hW1]; exact Mm.setCells_blk news _ _ _ hb
  rw [Nat.zero_add] at hW1
  rw [hW1] at herase
  have hcl1 : ∀ ty, (Builtin.clear_ #[28] ty #[.slice (some ⟨g, (k + (n - (k + 1))) * 4, none⟩) (n - (k + (n - (k + 1)))) (c - (k + (n - (k + 1))))]).run Try.prog W1 = .ok (.tuple #[]) (W1.setCells g ((n - 1) * 4) (Mm.zNote : Value).cells.toList) := fun ty => by
    rw [show k + (n - (k + 1)) = n - 1 by omega, show n - (n - 1) = 1 by omega]
    have hsz : ((Mm.zNote : Value).cells).size = 4 := by rfl
    have h1 : n * 4 ≤ cur.length := by rw [hcl]; exact Nat.mul_le_mul_right _ hnc
    have h2 : ∀ j, j < 4 → (n - 1) * 4 + j < (Mm.setList cur (0 + k * 4) news).length := fun j hj => by rw [Mm.setList_len]; omega
    refine Mm.run_clear_one W1 _ 94 ty Mm.zNote Try.underlying28 (fun w => by simp [zeroValue, typeInfo, hi, hz0]) (by decide) g _ _ (fun j hj => ?_) (fun j hj => hb1.frozen _)
    rw [hsz] at hj
    rw [hb1.cell (List.getElem?_eq_getElem (h2 j hj))]; rfl
  obtain ⟨zl, hzl⟩ : ∃ zl, (Mm.zNote : Value).cells.toList = zl := ⟨_, rfl⟩
  rw [hzl] at herase
  simp only [hzl] at hcl1
  clear hzl
  have HE := Lib.hid herase
  have hW : Hid (w.drew.setCells g (0 + k * 4) news = W1) := by rw [Nat.zero_add]; exact hW1
  have hkc : k ≤ c := by omega
  have hk1c : k + 1 ≤ c := by omega
  have hkn : k + 1 ≤ n := by omega
  have hc2 := hcm
  have hnx2 := Lib.hid hnx
  have f1 : (0 : Int) ≤ (k : Int) + 1 := by omega
  have f2 : (k : Int) + 1 ≤ ((n : Nat) : Int) := by omega
  have f3 : (k : Int) ≤ ((n : Nat) : Int) := by omega
  unfold maxLen at hc2
  clear hnx hW1 herase hcells hb hb1 hcl ht hown hlen hnews hs hln
  go_enter Try.func90, Try.ntmps90
  go_wp2_with fail
  go_region_law (refine step_append_room rfl (.tmp 22) (.tmp 25) 28 rfl 94 i0 4 Try.underlying28 hi hz1 g 0 k c (by simp [Act.eval, Act.put]) A (n - (k + 1)) (c - (k + 1)) news (by simp [Act.eval, Act.put]) s1.out hsrc.out hone.out (by omega) hroom.out ?_; rw [hW.out])
  go_wp2
  exact bodyPost_ret (v := .slice (some ⟨g, 0, none⟩) (k + (n - (k + 1))) c) (by simp [results, Try.results90, go_sem]) rfl ⟨by rw [show k + (n - (k + 1)) = n - 1 by omega], HE.out⟩
end Go.Proofs.Ytaepohocabealaa
