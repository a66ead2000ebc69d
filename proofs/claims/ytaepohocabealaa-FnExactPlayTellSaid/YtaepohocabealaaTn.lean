/-
  Contracts: the teller's step, all of it (chapter 10). No conditions.
-/
import Derived.Test.YtaepohocabealaaTl
namespace Go.Proofs.Ytaepohocabealaa
open Go.RowKit
attribute [local go_sem] und_cell cha_cell World.cell?_alloc_some
theorem ba_empty {x : ByteArray} (h : x.size = 0) : x = ⟨#[]⟩ := by
  cases x with
  | mk d => congr; exact Array.eq_empty_of_size_eq_zero h
set_option maxRecDepth 100000 in
set_option maxHeartbeats 2000000 in
theorem stepNo_c (t : Tell) (kd kk : Int) (tx : ByteArray) (g : Nat) (fp : List Nat) (w : World) (h : (Mm.tptr rTell 31 g t fp).holds w) (hnd : (g :: fp).Nodup) (hk1 : kd ≠ 1) (hno : tx.size ≠ 0 ∨ kk < 0 ∨ kd < 2 ∨ 5 < kd) :
    Calls Try.prog 49 #[.pointer (some ⟨g, 0, none⟩), .agg #[.int .i64 kd, .int .i64 kk, .string tx]] w (StepAns t g fp w (Pl.tstep t ⟨kd, kk, tx⟩)) := by
  have HF : Hid (Pl.tstep t ⟨kd, kk, tx⟩ = (t, false)) := by
    show _ = _
    unfold Pl.tstep
    rw [if_neg hk1]
    by_cases h1 : tx.size ≠ 0 ∨ kk < 0
    · rw [if_pos h1]
    · rw [if_neg h1, if_neg (by show ¬ kd = 2; omega), if_neg (by show ¬ (3 ≤ kd ∧ kd ≤ 5 ∧ _); omega)]
  obtain ⟨A0, n0, c0, A1, n1, c1, A2, n2, c2, A3, n3, c3, A4, n4, c4, f0, f1, f2, f3, f4, rfl, hs⟩ := open_Tell (Mm.SepF.one _ w h hnd)
  have HSX := Lib.hid (hs.alloc' rfl 46 [.int .i64 kd, .int .i64 kk, .string tx])
  clear h hs hnd
  have b0 := HSX.out.cell (k := 0) 0 rfl rfl
  have b1 := HSX.out.cell (k := 1) 0 rfl rfl
  have b2 := HSX.out.cell (k := 2) 0 rfl rfl
  have q1 : (kd != 1) = true := by simpa using hk1
  have q1' : (kd == 1) = false := by simpa using hk1
  by_cases h1 : tx.size = 0
  · obtain rfl := ba_empty h1
    by_cases h2 : kk < 0
    · have HH := Lib.hid hno
      clear hno h1 hk1
      go_enter Try.func49, Try.ntmps49
      go_wp2
      exact bodyPost_ret (v := .bool false) (by simp [results, Try.results49, go_sem]) rfl ⟨by rw [HF.out], _, by rw [HF.out]; exact (shut_Tell HSX.out.tail).left⟩
    · have q2 : (kd == 2) = false := by simp; rcases hno with h | h | h | h <;> omega
      have q3 : (kd == 3) = false := by simp; rcases hno with h | h | h | h <;> omega
      have q4 : (kd == 4) = false := by simp; rcases hno with h | h | h | h <;> omega
      have q5 : (kd == 5) = false := by simp; rcases hno with h | h | h | h <;> omega
      have HH := Lib.hid hno
      clear hno h1 hk1
      go_enter Try.func49, Try.ntmps49
      go_wp2
      exact bodyPost_ret (v := .bool false) (by simp [results, Try.results49, go_sem]) rfl ⟨by rw [HF.out], _, by rw [HF.out]; exact (shut_Tell HSX.out.tail).left⟩
  · have q6 : tx.toList.isEmpty = false := by
      cases hh : tx.toList with
      | nil => exact absurd (by rw [Lib.toList_data] at hh; cases tx with | mk a => simp at hh; rw [hh]; rfl) h1
      | cons => rfl
    have HH := Lib.hid hno
    clear hno h1 hk1
    go_enter Try.func49, Try.ntmps49
    go_wp2
    exact bodyPost_ret (v := .bool false) (by simp [results, Try.results49, go_sem]) rfl ⟨by rw [HF.out], _, by rw [HF.out]; exact (shut_Tell HSX.out.tail).left⟩
theorem step_c (t : Tell) (s : TellStep) (g : Nat) (fp : List Nat) (w : World) (h : (Mm.tptr rTell 31 g t fp).holds w) (hnd : (g :: fp).Nodup) (hm : Mm.I64 s.K ∧ s.Text.size ≤ maxLen) (hw : Pl.TWf t) :
    Calls Try.prog 49 #[.pointer (some ⟨g, 0, none⟩), .agg #[.int .i64 s.Kind, .int .i64 s.K, .string s.Text]] w (StepAns t g fp w (Pl.tstep t s)) := by
  obtain ⟨kd, kk, tx⟩ := s
  by_cases h1 : kd = 1
  · subst h1
    have e : Pl.tstep t ⟨1, kk, tx⟩ = Pl.tput t kk tx := by unfold Pl.tstep; rw [if_pos rfl]
    rw [e]
    exact stepPut_c t kk tx g fp w h hnd hm hw
  by_cases hno : tx.size ≠ 0 ∨ kk < 0 ∨ kd < 2 ∨ 5 < kd
  · exact stepNo_c t kd kk tx g fp w h hnd h1 hno
  · obtain rfl := ba_empty (x := tx) (by omega)
    have h0 : 0 ≤ kk := by omega
    rcases (show kd = 2 ∨ kd = 3 ∨ kd = 4 ∨ kd = 5 by omega) with rfl | rfl | rfl | rfl
    · exact stepSend_c t kk g fp w h hnd hm.1 h0 hw
    · exact stepTake_c t kk g fp w h hnd hm.1 h0 hw
    · exact stepLose_c t kk g fp w h hnd hm.1 h0 hw
    · exact stepTwice_c t kk g fp w h hnd hm.1 h0 hw
end Go.Proofs.Ytaepohocabealaa
