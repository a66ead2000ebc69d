/-
  The text of a mark. No conditions.
-/
import Derived.Test.YtaepohocabealaaRows
import Derived.Test.YtaepohocabealaaTy
import Derived.Test.YtaepohocabealaaQu
import Derived.WalkLawsBesides
import Derived.WalkSpells
import Derived.Outline
import Derived.Lib.Hide
import Derived.Laws.IdiomStrings
import Derived.Laws.Concat
namespace Go.Proofs.Ytaepohocabealaa
open Go.RowKit
theorem conv_byte (W : World) (n : Nat) (hn : n < 256) : (convert 22 9 (.slice (some ⟨W.heap.size, 0, none⟩) 1 1)).run Try.prog (W.alloc (.cells #[.int .u8 (n : Int)] 5)) = .ok (.string ⟨#[UInt8.ofNat n]⟩) (W.alloc (.cells #[.int .u8 (n : Int)] 5)) := by
  refine run_convert_bytes_back _ _ _ 5 ⟨W.heap.size, 0, none⟩ 1 [UInt8.ofNat n] Try.underlying22 Try.underlying5 Try.underlying9 (fun j hj => ?_)
  obtain rfl : j = 0 := by simp at hj; exact hj
  have := cell_of_row (W.alloc (.cells #[.int .u8 (n : Int)] 5)) W.heap.size 0 _ _ _ (heap_alloc_new _ _)
  rw [show ((⟨W.heap.size, 0, none⟩ : Addr).add 0) = ⟨W.heap.size, 0, none⟩ from rfl, this]
  simp [Nat.mod_eq_of_lt hn]
theorem str_add (c : UInt8) (acc : List UInt8) : (⟨#[c]⟩ : ByteArray) ++ ⟨acc.toArray⟩ = ⟨(c :: acc).toArray⟩ := by
  apply ByteArray.ext
  simp
set_option maxRecDepth 100000 in
set_option maxHeartbeats 1000000 in
theorem markText_c (k : Int) (w : World) (h0 : 1 ≤ k) (h1 : k ≤ 1000000000000) :
    Calls Try.prog 69 #[.int .i64 k] w fun e w' => e = .returned (.string (Pl.mkText k)) ∧ Below w.heap.size w w' := by
  go_enter Try.func69, Try.ntmps69
  go_wp2
  go_loopw [0, 3] (fun kk s wr => ∃ (f q : Nat) (acc : List UInt8), q ≤ f ∧ acc.length + f ≤ 1000000000000 ∧ kk = .int .i64 q ∧ s = .string ⟨acc.toArray⟩ ∧ Below w.heap.size w wr ∧ Pl.digs f q acc = Pl.digs k.toNat k.toNat []) (fun kk _ _ => (intOf kk).toNat)
  case atStart => exact ⟨k.toNat, k.toNat, [], Nat.le_refl _, by simp; omega, by rw [Int.toNat_of_nonneg (by omega)], rfl, Below.refl _ _, rfl⟩
  case round =>
      obtain ⟨f, q, acc, hq, hq2, rfl, rfl, hbel, hd⟩ := hrel
      rename_i wr _
      have HD := Lib.hid hd
      clear hd
      by_cases h0 : 0 < q
      · obtain ⟨f', rfl⟩ : ∃ f', f = f' + 1 := ⟨f - 1, by omega⟩
        have hdv : q / 10 ≤ f' := by omega
        have HD2 : Hid (Pl.digs f' (q / 10) (UInt8.ofNat (48 + q % 10) :: acc) = Pl.digs k.toNat k.toNat []) := by
          rw [← HD.out]
          show _ = _
          conv => rhs; unfold Pl.digs
          rw [if_neg (by omega)]
        have hcv := fun W : World => conv_byte W (48 + q % 10) (by omega)
        have hca : ((48 + q % 10 : Nat) : Int) = 48 + (q : Int) % 10 := by omega
        rw [hca] at hcv
        clear hca
        go_wp2
        go_roundw
        case rel => exact ⟨f', q / 10, UInt8.ofNat (48 + q % 10) :: acc, hdv, by simp; omega, by simp, by rw [← str_add (UInt8.ofNat (48 + q % 10)) acc, show UInt8.ofNat (48 + q % 10) = 48 + UInt8.ofNat (q % 10) from by simp], below_new hbel _, HD2.out⟩
        case measure => simp [intOf]; omega
      · obtain rfl : q = 0 := by omega
        have HF : Hid (Pl.mkText k = ⟨#[109]⟩ ++ ⟨acc.toArray⟩) := by
          show _ = _
          have h2 := HD.out
          have h3 : Pl.digs f 0 acc = acc := by cases f <;> simp [Pl.digs]
          rw [h3] at h2
          unfold Pl.mkText
          rw [← h2, str_add]
        go_wp2
        go_ret
        exact ⟨by rw [HF.out]; rfl, hbel⟩
end Go.Proofs.Ytaepohocabealaa
