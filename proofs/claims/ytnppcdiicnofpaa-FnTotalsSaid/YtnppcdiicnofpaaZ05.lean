/-
  Joined texts, in build order: Mg, Kp, Kd, Ke, Pl, Mc, It, Mb, Dv, Dy, Kl, LwN, Sn. Each part says what it proves; no conditions beyond those that a part names.
-/
import Derived.Test.YtnppcdiicnofpaaZ01
import Derived.Test.YtnppcdiicnofpaaZ02
import Derived.Test.YtnppcdiicnofpaaZ03
import Derived.Test.YtnppcdiicnofpaaZ04
import Derived.Deep.LoopGhost
import Derived.Deep.DeepCutAuto
import Derived.Deep.CutBlock
import Derived.Deep.RegionHeld3
/-
  Contracts: MergeTotals, the program's and the reference's. No conditions.
-/
namespace Go.Proofs.Ytnppcdiicnofpaa
open Go.RowKit
attribute [local go_sem] und_cell World.cell?_alloc_some
theorem Pl.totalsOk_all {l : List Total} (h : Pl.totalsOk l = true) : ∀ x, x ∈ l → Pl.totOk x = true := fun x hx => by
  obtain ⟨i, hi, rfl⟩ := List.mem_iff_getElem.1 hx
  exact Pl.totalsOk_at h (List.getElem?_eq_getElem hi)
set_option maxRecDepth 100000 in
set_option maxHeartbeats 1000000 in
theorem implMergeTotals_c (a : List Total) (A1 : Option Addr) (n1 c1 : Nat) (b : List Total) (A2 : Option Addr) (n2 c2 : Nat) (w : World) (B : Nat) (ha : Mm.SlAt rTotal w B a A1 n1 c1) (hb : Mm.SlAt rTotal w B b A2 n2 c2) (hB : B ≤ w.heap.size) :
    Calls Try.prog 21 #[.slice A1 n1 c1, .slice A2 n2 c2] w (Mm.RetS2 rTotal 50 w (Pl.tmerge a b).1 (Pl.tmerge a b).2) := by
  have HLA := Lib.hid ha
  have HLB := Lib.hid hb
  have HLN := Lib.hid (And.intro ha.1 hb.1)
  clear ha hb
  have CA := areTotals_c a A1 n1 c1 w B HLA.out hB
  cases hca : Pl.totalsOk a with
  | false =>
    have HF : Hid (Pl.tmerge a b = ([], false)) := if_neg (by rw [hca]; simp)
    rw [hca] at CA
    clear hca
    go_enter Try.func21, Try.ntmps21
    go_wp2_with (go_at_call 51; (with_reducible refine CA.mono ?_); rintro e w1 ⟨rfl, hb1⟩)
    rw [HF.out]
    go_ret2
    exact (Mm.Acc.nil hb1).ret
  | true =>
  rw [hca] at CA
  have CB := fun (w1 : World) (h : Below w.heap.size w w1) => areTotals_c b A2 n2 c2 w1 B (HLB.out.keep fun x hx => h.block x (Nat.lt_of_lt_of_le hx hB)) (Nat.le_trans hB h.size)
  cases hcb : Pl.totalsOk b with
  | false =>
    have HF : Hid (Pl.tmerge a b = ([], false)) := if_neg (by rw [hcb]; simp)
    rw [hcb] at CB
    clear hca hcb
    go_enter Try.func21, Try.ntmps21
    go_wp2_with (go_at_call 51; (with_reducible refine CA.mono ?_); clear CA; rintro e w1 ⟨rfl, hb1⟩; go_wp2_with (go_at_call 51; (with_reducible refine (CB w1 hb1).mono ?_); clear CB; rintro e w2 ⟨rfl, hb2⟩))
    rw [HF.out]
    go_ret2
    exact (Mm.Acc.nil (below_step hb1 hb2)).ret
  | true =>
    have HF : Hid (Pl.tmerge a b = Pl.tgood (Pl.tcomb (a ++ b))) := if_pos (by rw [hca, hcb]; rfl)
    rw [hcb] at CB
    have hna : n1 ≤ 40 := by have := Pl.totalsOk_len hca; have := HLN.out.1; omega
    have hnb : n2 ≤ 40 := by have := Pl.totalsOk_len hcb; have := HLN.out.2; omega
    have HOK : Hid (∀ x, x ∈ a ++ b → Pl.totOk x = true) := fun x hx => (List.mem_append.1 hx).elim (Pl.totalsOk_all hca x) (Pl.totalsOk_all hcb x)
    clear hca hcb
    go_enter Try.func21, Try.ntmps21
    go_upto_region 3 with (go_at_call 51; (with_reducible refine CA.mono ?_); clear CA; rintro e w1 ⟨rfl, hb1⟩; go_upto_region 3 with (go_at_call 51; (with_reducible refine (CB w1 hb1).mono ?_); clear CB; rintro e w2 ⟨rfl, hb2⟩))
    have hb3 := below_step hb1 hb2
    obtain ⟨vb, hvb⟩ : ∃ vb, w2.heap.size = vb := ⟨_, rfl⟩
    obtain ⟨W3, hW3⟩ : ∃ W3, w2.alloc (.cells #[.slice A1 n1 c1, .slice A2 n2 c2] 27) = W3 := ⟨_, rfl⟩
    have hnew := Mm.Blk.new w2 27 [.slice A1 n1 c1, .slice A2 n2 c2]
    rw [hvb] at hnew
    have hnew2 : Mm.Blk W3 vb 27 [.slice A1 n1 c1, .slice A2 n2 c2] := hW3 ▸ hnew
    have hb4 : Below w.heap.size w W3 := by rw [← hW3]; exact below_new hb3 _
    have CC := concatTot_c a b A1 A2 n1 c1 n2 c2 vb W3 B (HLA.out.keep fun x hx => hb4.block x (Nat.lt_of_lt_of_le hx hB)) (HLB.out.keep fun x hx => hb4.block x (Nat.lt_of_lt_of_le hx hB)) (Nat.le_trans hB hb4.size) (by omega) (by omega) (hnew2.cell rfl) (hnew2.cell rfl) hnew2.lt
    have HB4 := Lib.hid hb4
    clear hnew hnew2 hb1 hb2 hb3 hb4
    go_wp2_with first
      | (go_at_call 60; (with_reducible refine CC.mono ?_); clear CC; rintro e w5 ⟨A5, c5, rfl, hs5, hb5⟩; (have HS5 := Lib.hid hs5); (have HB5 := Lib.hid (below_step HB4.out hb5)); clear hs5 hb5)
      | (go_at_call 59; refine (combined_c (a ++ b) A5 (n1 + n2) c5 w5 _ HS5.out (Nat.le_refl _) HOK.out (by omega)).mono ?_; rintro e w6 ⟨A6, n6, c6, f6, rfl, k1, k2, k3, k4⟩)
    rw [HF.out]
    go_ret2
    exact ⟨A6, n6, c6, f6, rfl, k1, k2, fun b hb => Nat.le_trans HB5.out.size (k3 b hb), below_step HB5.out k4⟩
set_option maxRecDepth 100000 in
set_option maxHeartbeats 2000000 in
theorem specMergeTotals_c (a : List Total) (A1 : Option Addr) (n1 c1 : Nat) (b : List Total) (A2 : Option Addr) (n2 c2 : Nat) (w : World) (B : Nat) (ha : Mm.SlAt rTotal w B a A1 n1 c1) (hb : Mm.SlAt rTotal w B b A2 n2 c2) (hB : B ≤ w.heap.size) :
    Calls Try.prog 20 #[.slice A1 n1 c1, .slice A2 n2 c2] w (Mm.RetS2 rTotal 50 w (Pl.tmerge a b).1 (Pl.tmerge a b).2) := by
  have HLA := Lib.hid ha
  have HLB := Lib.hid hb
  have HLN := Lib.hid (And.intro ha.1 hb.1)
  clear ha hb
  have CA := GoodTotals_c a A1 n1 c1 w B HLA.out hB
  cases hca : Pl.totalsOk a with
  | false =>
    have HF : Hid (Pl.tmerge a b = ([], false)) := if_neg (by rw [hca]; simp)
    rw [hca] at CA
    clear hca
    go_enter Try.func20, Try.ntmps20
    go_wp2_with (go_at_call 47; (with_reducible refine CA.mono ?_); rintro e w1 ⟨rfl, hb1⟩)
    rw [HF.out]
    go_ret2
    exact (Mm.Acc.nil hb1).ret
  | true =>
  rw [hca] at CA
  have CB := fun (w1 : World) (h : Below w.heap.size w w1) => GoodTotals_c b A2 n2 c2 w1 B (HLB.out.keep fun x hx => h.block x (Nat.lt_of_lt_of_le hx hB)) (Nat.le_trans hB h.size)
  cases hcb : Pl.totalsOk b with
  | false =>
    have HF : Hid (Pl.tmerge a b = ([], false)) := if_neg (by rw [hcb]; simp)
    rw [hcb] at CB
    clear hca hcb
    go_enter Try.func20, Try.ntmps20
    go_wp2_with (go_at_call 47; (with_reducible refine CA.mono ?_); clear CA; rintro e w1 ⟨rfl, hb1⟩; go_wp2_with (go_at_call 47; (with_reducible refine (CB w1 hb1).mono ?_); clear CB; rintro e w2 ⟨rfl, hb2⟩))
    rw [HF.out]
    go_ret2
    exact (Mm.Acc.nil (below_step hb1 hb2)).ret
  | true =>
    have HF : Hid (Pl.tmerge a b = Pl.tgood (Pl.tcomb (a ++ b))) := if_pos (by rw [hca, hcb]; rfl)
    rw [hcb] at CB
    have hna : n1 ≤ 40 := by have := Pl.totalsOk_len hca; have := HLN.out.1; omega
    have hnb : n2 ≤ 40 := by have := Pl.totalsOk_len hcb; have := HLN.out.2; omega
    have HOK : Hid (∀ x, x ∈ a ++ b → Pl.totOk x = true) := fun x hx => (List.mem_append.1 hx).elim (Pl.totalsOk_all hca x) (Pl.totalsOk_all hcb x)
    clear hca hcb
    go_enter Try.func20, Try.ntmps20
    go_wp2_with (go_at_call 47; (with_reducible refine CA.mono ?_); clear CA; rintro e w1 ⟨rfl, hb1⟩; go_wp2_with (go_at_call 47; (with_reducible refine (CB w1 hb1).mono ?_); clear CB; rintro e w2 ⟨rfl, hb2⟩))
    have HB2 := Lib.hid (below_step hb1 hb2)
    clear hb1 hb2
    go_loopg [6, 21] n1 (fun g o i wr => ∃ (k nn cc : Nat) (AA : Option Addr) (fp : List Nat) (xs : List Total), n1 - k ≤ g ∧ k ≤ n1 ∧ i = .int .i64 k ∧ o = .slice AA nn cc ∧ Hid (nn = xs.length) ∧ Hid (xs = Pl.tcomb ((a ++ b).take (0 + k))) ∧ Hid (Mm.SepF [] w wr [Mm.tsl rTotal 50 xs (.slice AA nn cc) fp]))
    case atStart => exact ⟨0, 0, 0, none, [], [], Nat.le_refl _, Nat.zero_le _, rfl, rfl, rfl, rfl, (Mm.SepF.start w).add HB2.out (t := Mm.tsl rTotal 50 [] (.slice none 0 0) []) Mm.SlOwn.nil List.nodup_nil (fun b hb => by cases hb)⟩
    case round =>
      obtain ⟨k, nn, cc, AA, fp, xs, hgk, hk, rfl, rfl, HN, HX, HS⟩ := hrel
      obtain ⟨W, rfl⟩ : ∃ W : World, W = wr := ⟨_, rfl⟩
      have hT : Pl.TOk (0 + k) xs := by rw [HX.out]; exact Pl.TOk.comb HOK.out (0 + k) (by rw [List.length_append, HLN.out.1, HLN.out.2]; omega)
      have HT := Lib.hid hT
      clear hT
      by_cases hlt : k < n1
      · have f1 : (k : Int) < (n1 : Nat) := by omega
        have f2 : (0 : Int) ≤ (k : Nat) := by omega
        have f3 : ((k : Nat) : Int).toNat = k := by omega
        obtain ⟨x, bb, off, A2', n2', c2', hx, rfl, hbb, hlb, i1, i2, i3, i4, e0, e1, e2, e3, e4⟩ := rTotal_get (HLA.out.keep (w' := W) fun b hb => HS.out.bel0.block b (Nat.lt_of_lt_of_le hb hB)) hlt
        have hxl : (a ++ b)[0 + k]? = some x := (by rw [Nat.zero_add, List.getElem?_append_left (by rw [HLN.out.1]; exact hlt)]; exact hx)
        have htx := HOK.out x (List.mem_of_getElem? hxl)
        have HTX := Lib.hid htx
        have HLB := Lib.hid hlb
        have HNX := Lib.hid (Pl.tcomb_next hxl)
        clear hx hxl htx hlb i1 i2 i3 i4
        obtain ⟨W1, hW1⟩ : ∃ W1, W.alloc (.cells #[.slice A2' n2' c2', .int .i64 x.Sum, .int .i64 x.Count, .int .i64 x.Least, .int .i64 x.Most] 50) = W1 := ⟨_, rfl⟩
        have hB1 : Below W.heap.size W W1 := by rw [← hW1]; exact below_new (Below.refl _ _) _
        obtain ⟨gt, hgt⟩ : ∃ gt, W.heap.size = gt := ⟨_, rfl⟩
        have HS1 := Lib.hid ((HS.out.alloc' hgt 50 [.slice A2' n2' c2', .int .i64 x.Sum, .int .i64 x.Count, .int .i64 x.Least, .int .i64 x.Most]).atW hW1)
        have hBW : B ≤ W.heap.size := by have := HS.out.bel0.size; omega
        have CP := l14Put_c xs (0 + k) x AA A2' nn cc n2' c2' fp W1 B (HS1.out.sl 1 rfl) (HS1.out.ndat (i := 1) rfl) HT.out (by omega) (HLB.out.keep (w' := W1) fun b hb => hB1.block b (Nat.lt_of_lt_of_le hb hBW)) (Nat.le_trans hBW hB1.size) HTX.out
        have t0 := HS1.out.cell (k := 0) 0 rfl rfl
        have t1 := HS1.out.cell (k := 1) 0 rfl rfl
        have t2 := HS1.out.cell (k := 2) 0 rfl rfl
        have t3 := HS1.out.cell (k := 3) 0 rfl rfl
        have t4 := HS1.out.cell (k := 4) 0 rfl rfl
        go_upto_region 7 with fail
        clear hB1
        go_wp2_with (go_at_call 58; (with_reducible refine CP.mono ?_); clear CP; rintro e w3 ⟨A3, n3, c3, fp3, rfl, hS3⟩; (have HS3 := Lib.hid (HS1.out.callAll 1 rfl hS3)); clear hS3)
        have hn3 : n3 = (Pl.tput xs x).length := by obtain ⟨_, _, _, hv, q1, _⟩ := (HS3.out.sl 2 rfl).form; injection hv with _ q2 _; omega
        go_roundg (n1 - (k + 1))
        case measure => omega
        case rel => exact ⟨k + 1, n3, c3, A3, fp3, Pl.tput xs x, Nat.le_refl _, by omega, by go_num, rfl, hn3, (by show _ = _; rw [← Nat.add_assoc, HNX.out, HX.out]), HS3.out.sel [2] (by decide) rfl⟩
      · obtain rfl : n1 = k := by omega
        have f1 : ¬ (n1 : Int) < (n1 : Nat) := by omega
        have HX0 := Lib.hid HX.out
        clear HT HX
        go_wp2
        go_loopg [6, 31] n2 (fun g o i wr => ∃ (j nn cc : Nat) (AA : Option Addr) (fp : List Nat) (xs : List Total), n2 - j ≤ g ∧ j ≤ n2 ∧ i = .int .i64 j ∧ o = .slice AA nn cc ∧ Hid (nn = xs.length) ∧ Hid (xs = Pl.tcomb ((a ++ b).take (n1 + j))) ∧ Hid (Mm.SepF [] w wr [Mm.tsl rTotal 50 xs (.slice AA nn cc) fp]))
        case atStart => exact ⟨0, nn, cc, AA, fp, xs, Nat.le_refl _, Nat.zero_le _, rfl, rfl, HN.out, (by show _ = _; rw [HX0.out, Nat.zero_add, Nat.add_zero]), HS.out⟩
        case round =>
          clear HX0 HS HN hgk f1 hk hlt
          obtain ⟨k, nn, cc, AA, fp, xs, hgk, hk, rfl, rfl, HN, HX, HS⟩ := hrel
          obtain ⟨W, rfl⟩ : ∃ W : World, W = wr := ⟨_, rfl⟩
          have hT : Pl.TOk (n1 + k) xs := by rw [HX.out]; exact Pl.TOk.comb HOK.out (n1 + k) (by rw [List.length_append, HLN.out.1, HLN.out.2]; omega)
          have HT := Lib.hid hT
          clear hT
          by_cases hlt : k < n2
          · have f1 : (k : Int) < (n2 : Nat) := by omega
            have f2 : (0 : Int) ≤ (k : Nat) := by omega
            have f3 : ((k : Nat) : Int).toNat = k := by omega
            obtain ⟨x, bb, off, A2', n2', c2', hx, rfl, hbb, hlb, i1, i2, i3, i4, e0, e1, e2, e3, e4⟩ := rTotal_get (HLB.out.keep (w' := W) fun b hb => HS.out.bel0.block b (Nat.lt_of_lt_of_le hb hB)) hlt
            have hxl : (a ++ b)[n1 + k]? = some x := (by rw [List.getElem?_append_right (by rw [HLN.out.1]; omega), HLN.out.1, Nat.add_sub_cancel_left]; exact hx)
            have htx := HOK.out x (List.mem_of_getElem? hxl)
            have HTX := Lib.hid htx
            have HLB := Lib.hid hlb
            have HNX := Lib.hid (Pl.tcomb_next hxl)
            clear hx hxl htx hlb i1 i2 i3 i4
            obtain ⟨W1, hW1⟩ : ∃ W1, W.alloc (.cells #[.slice A2' n2' c2', .int .i64 x.Sum, .int .i64 x.Count, .int .i64 x.Least, .int .i64 x.Most] 50) = W1 := ⟨_, rfl⟩
            have hB1 : Below W.heap.size W W1 := by rw [← hW1]; exact below_new (Below.refl _ _) _
            obtain ⟨gt, hgt⟩ : ∃ gt, W.heap.size = gt := ⟨_, rfl⟩
            have HS1 := Lib.hid ((HS.out.alloc' hgt 50 [.slice A2' n2' c2', .int .i64 x.Sum, .int .i64 x.Count, .int .i64 x.Least, .int .i64 x.Most]).atW hW1)
            have hBW : B ≤ W.heap.size := by have := HS.out.bel0.size; omega
            have CP := l14Put_c xs (n1 + k) x AA A2' nn cc n2' c2' fp W1 B (HS1.out.sl 1 rfl) (HS1.out.ndat (i := 1) rfl) HT.out (by omega) (HLB.out.keep (w' := W1) fun b hb => hB1.block b (Nat.lt_of_lt_of_le hb hBW)) (Nat.le_trans hBW hB1.size) HTX.out
            have t0 := HS1.out.cell (k := 0) 0 rfl rfl
            have t1 := HS1.out.cell (k := 1) 0 rfl rfl
            have t2 := HS1.out.cell (k := 2) 0 rfl rfl
            have t3 := HS1.out.cell (k := 3) 0 rfl rfl
            have t4 := HS1.out.cell (k := 4) 0 rfl rfl
            go_upto_region 12 with fail
            clear hB1
            go_wp2_with (go_at_call 58; (with_reducible refine CP.mono ?_); clear CP; rintro e w3 ⟨A3, n3, c3, fp3, rfl, hS3⟩; (have HS3 := Lib.hid (HS1.out.callAll 1 rfl hS3)); clear hS3)
            have hn3 : n3 = (Pl.tput xs x).length := by obtain ⟨_, _, _, hv, q1, _⟩ := (HS3.out.sl 2 rfl).form; injection hv with _ q2 _; omega
            go_roundg (n2 - (k + 1))
            case measure => omega
            case rel => exact ⟨k + 1, n3, c3, A3, fp3, Pl.tput xs x, Nat.le_refl _, by omega, by go_num, rfl, hn3, (by show _ = _; rw [← Nat.add_assoc, HNX.out, HX.out]), HS3.out.sel [2] (by decide) rfl⟩
          · obtain rfl : n2 = k := by omega
            have f1 : ¬ (n2 : Int) < (n2 : Nat) := by omega
            have hxs : xs = Pl.tcomb (a ++ b) := by rw [HX.out, List.take_of_length_le (by rw [List.length_append, HLN.out.1, HLN.out.2]; exact Nat.le_refl _)]
            have CG := GoodTotals_c xs AA nn cc W _ ((HS.out.sl 0 rfl).weak (HS.out.sl 0 rfl).olt) (Nat.le_refl _)
            obtain ⟨gd, hgd⟩ : ∃ gd, Pl.totalsOk xs = gd := ⟨_, rfl⟩
            rw [hgd] at CG
            cases gd with
            | false =>
              have HG : Hid (Pl.tmerge a b = ([], false)) := by show _ = _; rw [HF.out, ← hxs]; unfold Pl.tgood; rw [hgd]; rfl
              clear hxs hgd
              go_wp2_with (go_at_call 47; (with_reducible refine CG.mono ?_); clear CG; rintro e w1 ⟨rfl, hb1⟩)
              go_ret2
              rw [HG.out]
              exact (Mm.Acc.nil (below_step HS.out.bel0 hb1)).ret
            | true =>
              have HG : Hid (Pl.tmerge a b = (xs, true)) := by show _ = _; rw [HF.out, ← hxs]; unfold Pl.tgood; rw [hgd]; rfl
              clear hxs hgd
              go_wp2_with (go_at_call 47; (with_reducible refine CG.mono ?_); clear CG; rintro e w1 ⟨rfl, hb1⟩)
              go_ret2
              rw [HG.out]
              have HS2 := HS.out.step hb1
              exact ⟨_, _, _, fp, rfl, HS2.sl 0 rfl, HS2.ndat (i := 0) rfl, fun b hb => (HS2.new b (by simpa [Mm.tsl] using hb)).resolve_left (fun h => by cases h), HS2.bel0⟩
end Go.Proofs.Ytnppcdiicnofpaa

/-
  Contracts: which labels are kept, the program's (keepLabels and what it calls). No conditions beyond those named.
-/
namespace Go.Proofs.Ytnppcdiicnofpaa
open Go.RowKit
attribute [local go_sem] und_cell World.cell?_alloc_some
def Pl.hasN (names : List ByteArray) (s : ByteArray) : Bool := decide (0 ≤ Pl.idx names s)
def Pl.keepL (l : List Label) (names : List ByteArray) : List Label := l.filter fun x => Pl.hasN names x.Name
theorem Pl.keepL_snoc (l : List Label) (names : List ByteArray) (x : Label) : Pl.keepL (l ++ [x]) names = Pl.keepL l names ++ if Pl.hasN names x.Name = true then [x] else [] := by
  unfold Pl.keepL
  rw [List.filter_append, List.filter_cons, List.filter_nil]
theorem Pl.keepL_next {l : List Label} {names : List ByteArray} {k : Nat} {x : Label} (h : l[k]? = some x) : Pl.keepL (l.take (k + 1)) names = Pl.keepL (l.take k) names ++ if Pl.hasN names x.Name = true then [x] else [] := by
  obtain ⟨hk, hx⟩ := List.getElem?_eq_some_iff.1 h
  rw [List.take_succ_eq_append_getElem hk, hx, Pl.keepL_snoc]
theorem kIdx_c (l : List ByteArray) (A : Option Addr) (n c : Nat) (v : ByteArray) (w : World) (B : Nat) (hl : Mm.SlAt Mm.str w B l A n c) :
    Calls Try.prog 110 #[.slice A n c, .string v] w fun e w' => e = .returned (.int .i64 (Pl.idx l v)) ∧ w = w' := by
  have hlen : Hid (l.length = n) := hl.1
  have hn : n ≤ 9223372036854775807 := by have := hl.2.1; have := hl.2.2.1; unfold maxLen at this; omega
  have HL := Lib.hid hl
  clear hl
  go_enter Try.func110, Try.ntmps110
  go_wp2
  go_loopg [8] n (fun g i wr => wr = w ∧ ∃ k : Nat, n - k ≤ g ∧ k ≤ n ∧ i = .int .i64 k ∧ Hid (Pl.idx l v = Pl.idxFrom l v (n - k) k))
  case atStart => exact ⟨rfl, 0, Nat.le_refl _, Nat.zero_le _, rfl, by show _ = _; unfold Pl.idx; rw [hlen.out]; rfl⟩
  case round =>
    obtain ⟨rfl, k, hgk, hk, rfl, HU⟩ := hrel
    by_cases hlt : k < n
    · obtain ⟨x, b0, off, hx, rfl, hb, b1, d1⟩ := str_get HL.out hlt
      have HX := Lib.hid (Pl.strAt_of hx)
      clear hx
      cases he : (v.toList == x.toList)
      · have hne : Hid (x ≠ v) := fun e => by subst e; simp at he
        have HN := Lib.hid (Pl.idx_no HU.out hlt (by rw [HX.out]; exact hne.out))
        go_wp2
        go_roundg (n - (k + 1))
        case measure => omega
        case rel => exact ⟨rfl, k + 1, Nat.le_refl _, by omega, by go_num, HN.out⟩
      · have hq : Hid (x = v) := by
          have h1 : v.toList = x.toList := by simpa using he
          rw [Lib.toList_data, Lib.toList_data] at h1
          exact (WideShapes.bytes_inj h1).symm
        have HN := Lib.hid (Pl.idx_yes hlen.out HU.out hlt (by rw [HX.out]; exact hq.out))
        go_wp2
        go_ret
        exact ⟨ret_int HN.out.symm, rfl⟩
    · have HN := Lib.hid (Pl.idx_end HU.out hlt)
      go_wp2
      go_ret
      exact ⟨ret_int HN.out.symm, rfl⟩
theorem kHas_c (l : List ByteArray) (A : Option Addr) (n c : Nat) (v : ByteArray) (w : World) (B : Nat) (hl : Mm.SlAt Mm.str w B l A n c) :
    Calls Try.prog 95 #[.slice A n c, .string v] w fun e w' => e = .returned (.bool (Pl.hasN l v)) ∧ w = w' := by
  obtain ⟨b, hb⟩ : ∃ b, Pl.hasN l v = b := ⟨_, rfl⟩
  obtain ⟨i, hi⟩ : ∃ i, Pl.idx l v = i := ⟨_, rfl⟩
  have C := kIdx_c l A n c v w B hl
  rw [hi] at C
  rw [hb]
  unfold Pl.hasN at hb
  rw [hi] at hb
  clear hi
  cases b with
  | true =>
    have h : 0 ≤ i := by simpa using hb
    clear hb
    go_enter Try.func95, Try.ntmps95
    go_wp2_with (go_at_call 110; (with_reducible refine C.mono ?_); rintro e w' ⟨rfl, rfl⟩)
    go_ret
    exact ⟨rfl, rfl⟩
  | false =>
    have h : decide ((0 : Int) ≤ i) = false := hb
    clear hb
    go_enter Try.func95, Try.ntmps95
    go_wp2_with (go_at_call 110; (with_reducible refine C.mono ?_); rintro e w' ⟨rfl, rfl⟩)
    go_ret
    exact ⟨rfl, rfl⟩
/-- what the function on labels captures: the list of names, in a variable of its own -/
structure Caps (names : List ByteArray) (A : Option Addr) (n c gn B : Nat) (w : World) : Prop where
  cell : w.cell? ⟨gn, 0, none⟩ = some (.slice A n c)
  sl : Mm.SlAt Mm.str w B names A n c
  lt : gn < w.heap.size
  le : B ≤ w.heap.size
theorem Caps.bel {names : List ByteArray} {A : Option Addr} {n c gn B : Nat} {w w' : World} (h : Caps names A n c gn B w) (hb : Below w.heap.size w w') : Caps names A n c gn B w' :=
  ⟨below_some hb h.cell, h.sl.keep fun b hb' => hb.block b (Nat.lt_of_lt_of_le hb' h.le), Nat.lt_of_lt_of_le h.lt hb.size, Nat.le_trans h.le hb.size⟩
theorem Caps.chg {names : List ByteArray} {A : Option Addr} {n c gn B : Nat} {w w' : World} {fp : List Nat} (h : Caps names A n c gn B w) (hc : Mm.Chg fp w w') (h1 : gn ∉ fp) (h2 : ∀ b, b ∈ fp → B ≤ b) : Caps names A n c gn B w' :=
  ⟨(World.cell?_of_block (hc.block gn h.lt h1)).trans h.cell, h.sl.keep fun b hb => hc.block b (Nat.lt_of_lt_of_le hb h.le) (fun hm => by have := h2 b hm; omega), Nat.lt_of_lt_of_le h.lt hc.size, Nat.le_trans h.le hc.size⟩
theorem kClos_c (names : List ByteArray) (A : Option Addr) (n c gn B : Nat) (x : Label) (w : World) (h : Caps names A n c gn B w) :
    Calls Try.prog 94 #[.agg #[.string x.Name, .string x.Value], .pointer (some ⟨gn, 0, none⟩)] w fun e w' => e = .returned (.bool (!Pl.hasN names x.Name)) ∧ Below w.heap.size w w' := by
  have hb := below_new (Below.refl w.heap.size w) (.cells #[.string x.Name, .string x.Value] 97)
  have h1 := h.bel hb
  have C := kHas_c names A n c x.Name _ B h1.sl
  have hc := h.cell
  have HB := Lib.hid hb
  clear h h1 hb
  obtain ⟨hv, hhv⟩ : ∃ hv, Pl.hasN names x.Name = hv := ⟨_, rfl⟩
  rw [hhv] at C ⊢
  clear hhv
  go_enter Try.func94, Try.ntmps94
  go_wp2_with (go_at_call 95; (with_reducible refine C.mono ?_); rintro e w' ⟨rfl, rfl⟩)
  cases hv <;> (go_ret; exact ⟨rfl, HB.out⟩)
/-- the place of the first label that goes -/
def Found (names : List ByteArray) (l : List Label) (i : Int) : Prop :=
  (i = -1 ∧ ∀ (j : Nat) x, l[j]? = some x → Pl.hasN names x.Name = true) ∨ ∃ (k : Nat) (x : Label), i = k ∧ l[k]? = some x ∧ Pl.hasN names x.Name = false ∧ ∀ (j : Nat) y, j < k → l[j]? = some y → Pl.hasN names y.Name = true
set_option maxRecDepth 100000 in
theorem kFind_c (names : List ByteArray) (A' : Option Addr) (n' c' gn B : Nat) (l : List Label) (A : Option Addr) (n c : Nat) (w : World) (h : Caps names A' n' c' gn B w) (hl : Mm.SlAt rLabel w w.heap.size l A n c) :
    Calls Try.prog 109 #[.slice A n c, .func (Fn.func 94) #[] #[.pointer (some ⟨gn, 0, none⟩)]] w fun e w' => ∃ i, e = .returned (.int .i64 i) ∧ Found names l i ∧ Below w.heap.size w w' := by
  have hn : n ≤ 9223372036854775807 := by have := hl.2.1; have := hl.2.2.1; unfold maxLen at this; omega
  have hlen : Hid (l.length = n) := hl.1
  have HL := Lib.hid hl
  have HC := Lib.hid h
  clear hl h
  go_enter Try.func109, Try.ntmps109
  go_wp2
  go_loopg [5, 8] n (fun g _ i wr => ∃ k : Nat, n - k ≤ g ∧ k ≤ n ∧ i = .int .i64 k ∧ Hid (∀ (j : Nat) y, j < k → l[j]? = some y → Pl.hasN names y.Name = true) ∧ Hid (Below w.heap.size w wr))
  case atStart => exact ⟨0, Nat.le_refl _, Nat.zero_le _, rfl, fun j y hj => absurd hj (Nat.not_lt_zero _), Below.refl _ _⟩
  case round =>
    obtain ⟨k, hgk, hk, rfl, HA, HB⟩ := hrel
    obtain ⟨W, rfl⟩ : ∃ W : World, W = wr := ⟨_, rfl⟩
    by_cases hlt : k < n
    · obtain ⟨x, b, off, hx, rfl, hb, i1, i2, e0, e1⟩ := rLabel_get (HL.out.keep (w' := W) fun b hb => HB.out.block b hb) hlt
      have HX := Lib.hid hx
      have C := kClos_c names A' n' c' gn B x W (HC.out.bel HB.out)
      have f1 : (k : Int) < (n : Nat) := by omega
      have f2 : (0 : Int) ≤ (k : Nat) := by omega
      have f3 : ((k : Nat) : Int).toNat = k := by omega
      clear hx i1 i2
      cases hs : Pl.hasN names x.Name with
      | true =>
        rw [hs] at C
        have HS := Lib.hid hs
        clear hs
        go_wp2_with (go_at_call 94; (with_reducible refine C.mono ?_); clear C; rintro e w1 ⟨rfl, hb1⟩)
        go_roundg (n - (k + 1))
        case measure => omega
        case rel => exact ⟨k + 1, Nat.le_refl _, by omega, by go_num, (fun j y hj hy => by
          rcases Nat.lt_succ_iff_lt_or_eq.1 hj with h1 | rfl
          · exact HA.out j y h1 hy
          · rw [HX.out] at hy; injection hy with hy; rw [← hy]; exact HS.out), below_step HB.out hb1⟩
      | false =>
        rw [hs] at C
        have HS := Lib.hid hs
        clear hs
        go_wp2_with (go_at_call 94; (with_reducible refine C.mono ?_); clear C; rintro e w1 ⟨rfl, hb1⟩)
        go_ret
        exact ⟨_, rfl, .inr ⟨k, x, rfl, HX.out, HS.out, HA.out⟩, below_step HB.out hb1⟩
    · go_wp2
      go_ret
      exact ⟨_, rfl, .inl ⟨rfl, fun j x hx => HA.out j x (by have := (List.getElem?_eq_some_iff.1 hx).1; have := hlen.out; omega) hx⟩, HB.out⟩
end Go.Proofs.Ytnppcdiicnofpaa

/-
  Contracts: labels struck out (slices.DeleteFunc), and keepLabels of the program. No conditions beyond those named.
-/
namespace Go.Proofs.Ytnppcdiicnofpaa
open Go.RowKit
attribute [local go_sem] und_cell World.cell?_alloc_some
theorem Mm.flatN_lab : Mm.FlatN rLabel Mm.encLab := ⟨by decide, fun h => by
  obtain ⟨rfl, h1, rfl⟩ := rLabel_own h
  exact ⟨rfl, rfl, fun w' => rLabel_own_mk h1⟩⟩
theorem Mm.run_clear_k {P : Program} (w : World) (t e ty : TypeId) (z : Value) (ht : P.underlying t = some (.slice e)) (hv : ∀ w, (zeroValue e).run P w = .ok z w) (h1 : ∀ u ∈ z.cells, u.oneCell' = true) (b o c m : Nat) (hm0 : 0 < m) (zs : List Value) (hzs : zs = (Builtin.zeroCells z.cells m).toList)
    (hc : ∀ j, j < zs.length → (w.cell? ⟨b, o + j, none⟩).isSome = true) (hf : ∀ j, j < zs.length → w.frozen? ⟨b, o + j, none⟩ = false) :
    (Builtin.clear_ #[t] ty #[.slice (some ⟨b, o, none⟩) m c]).run P w = .ok (.tuple #[]) (w.setCells b o zs) := by
  have hone : ∀ u ∈ zs, u.oneCell' = true := fun u hu => by
    rw [hzs] at hu
    obtain ⟨i, hi, rfl⟩ := List.mem_iff_getElem.1 hu
    simp only [Builtin.zeroCells, Array.getElem_toList, Array.getElem_ofFn]
    have hi' : i < m * z.cells.size := by simpa [Builtin.zeroCells] using hi
    have h0 : 0 < z.cells.size := Nat.pos_of_ne_zero (fun h => by rw [h, Nat.mul_zero] at hi'; omega)
    have hlt : i % z.cells.size < z.cells.size := Nat.mod_lt _ h0
    refine h1 _ ?_
    simp [hlt]
  have hst := run_storeCells_cells (P := P) b o zs 0 w (by simpa using hc) (by simpa using hf) hone
  simp only [Nat.add_zero] at hst
  obtain ⟨m', rfl⟩ : ∃ m', m = m' + 1 := ⟨m - 1, by omega⟩
  simp [Builtin.clear_, run_underlying ht, hv, ← hzs, hst]
theorem Pl.keepL_all {l : List Label} {names : List ByteArray} (h : ∀ (j : Nat) x, l[j]? = some x → Pl.hasN names x.Name = true) : Pl.keepL l names = l := by
  unfold Pl.keepL
  rw [List.filter_eq_self]
  intro x hx
  obtain ⟨i, hi, rfl⟩ := List.mem_iff_getElem.1 hx
  exact h i _ (List.getElem?_eq_getElem hi)
set_option maxRecDepth 100000 in
set_option maxHeartbeats 2000000 in
theorem kDel_c (names : List ByteArray) (A' : Option Addr) (n' c' gn B : Nat) (l : List Label) (A : Option Addr) (n c : Nat) (fp : List Nat) (w : World) (h : Caps names A' n' c' gn B w) (hs : Mm.SlOwn rLabel 97 w l (.slice A n c) fp) (hnd : fp.Nodup) (h1 : gn ∉ fp) (h2 : ∀ b, b ∈ fp → B ≤ b) (hn : n ≤ 1000) :
    Calls Try.prog 93 #[.slice A n c, .func (Fn.func 94) #[] #[.pointer (some ⟨gn, 0, none⟩)]] w fun e w' => ∃ A2 n2 c2, e = .returned (.slice A2 n2 c2) ∧ Mm.SepF fp w w' [Mm.tsl rLabel 97 (Pl.keepL l names) (.slice A2 n2 c2) fp] := by
  have HS0 : Hid (Mm.SepF fp w w [Mm.tsl rLabel 97 l (.slice A n c) fp]) := Mm.SepF.one (Mm.tsl rLabel 97 l (.slice A n c) fp) w hs hnd
  have HLN : Hid (l.length = n) := by obtain ⟨_, _, _, hv, q1, _⟩ := hs.form; injection hv with _ q2 _; exact (q2.trans q1).symm
  have HC := Lib.hid h
  have HQ := Lib.hid (And.intro h1 h2)
  have CF := kFind_c names A' n' c' gn B l A n c w h (hs.weak hs.olt)
  clear h hs h1 h2
  go_enter Try.func93, Try.ntmps93
  go_upto_if 12 with (go_at_call 109; (with_reducible refine CF.mono ?_); clear CF; rintro e w1 ⟨i0, rfl, hfd, hb1⟩; (have HS := Lib.hid (HS0.out.step hb1)); clear hb1)
  rcases hfd with ⟨rfl, hall⟩ | ⟨k, x0, rfl, hx0, hno, hall⟩
  · have HK := Lib.hid (Pl.keepL_all hall)
    clear hall
    go_wp2
    go_ret
    exact ⟨_, _, _, rfl, by rw [HK.out]; exact HS.out⟩
  · have hkn : k < n := by have := (List.getElem?_eq_some_iff.1 hx0).1; have := HLN.out; omega
    obtain ⟨g, hg, -, -⟩ := Mm.sl_addr (HS.out.sl 0 rfl) (by have := HLN.out; omega)
    subst hg
    have HST : Hid (l.take k = Pl.keepL (l.take (k + 1)) names) := by
      show _ = _
      rw [Pl.keepL_next hx0, if_neg (by rw [hno]; simp), List.append_nil]
      refine (Pl.keepL_all (names := names) (fun j x hx => by
        rw [List.getElem?_take] at hx
        split at hx
        · rename_i hq
          exact hall j x hq hx
        · cases hx)).symm
    have f0 : ¬ ((k : Int) = -1) := by omega
    have f1 : IntKind.i64.wrap ((k : Int) + 1) = (k : Int) + 1 := IntWalk.i64_in _ (by omega)
    obtain ⟨fpg, rfl⟩ : ∃ q, fp = q := ⟨_, rfl⟩
    clear hall hx0 hno
    go_wp2
    go_loopg [5, 6] n (fun gg s5 s6 wr => ∃ (i j : Nat) (ys : List Label), n - j ≤ gg ∧ i < j ∧ j ≤ n ∧ s5 = .int .i64 i ∧ s6 = .int .i64 j ∧ Hid (ys.length = n) ∧ Hid (ys.take i = Pl.keepL (l.take j) names) ∧ Hid (ys.drop j = l.drop j) ∧ Hid (Mm.SepF fp w wr [Mm.tsl rLabel 97 ys (.slice (some ⟨g, 0, none⟩) n c) fp]))
    case atStart => exact ⟨k, k + 1, l, by omega, by omega, by omega, rfl, by go_num, HLN.out, HST.out, rfl, HS.out⟩
    case round =>
      obtain ⟨i, j, ys, hgg, hij, hjn, rfl, rfl, HYL, HYT, HYD, HS⟩ := hrel
      obtain ⟨W, rfl⟩ : ∃ W : World, W = wr := ⟨_, rfl⟩
      by_cases hlt : j < n
      · obtain ⟨x, b, off, hx, hA, hb, i1, i2, e0, e1⟩ := rLabel_get ((HS.out.sl 0 rfl).weak (HS.out.sl 0 rfl).olt) hlt
        injection hA with hA
        injection hA with hA1 hA2
        subst hA1 hA2
        simp only [Nat.zero_add] at e0 e1
        have hxl : l[j]? = some x := by
          have := congrArg (fun z => z[0]?) HYD.out
          simp only [List.getElem?_drop, Nat.add_zero] at this
          rw [← this]; exact hx
        have HX := Lib.hid (And.intro hx (Pl.keepL_next (names := names) hxl))
        have HIB := Lib.hid (And.intro i1 i2)
        clear hx hxl i1 i2 hb
        obtain ⟨gv, hgv⟩ : ∃ gv, W.heap.size = gv := ⟨_, rfl⟩
        obtain ⟨W1, hW1⟩ : ∃ W1, W.alloc (.cells #[.string x.Name, .string x.Value] 97) = W1 := ⟨_, rfl⟩
        have HS1 := Lib.hid ((HS.out.alloc' hgv 97 [.string x.Name, .string x.Value]).atW hW1)
        have f2 : (j : Int) < (n : Nat) := by omega
        have f3 : (0 : Int) ≤ (j : Nat) := by omega
        have f4 : ((j : Nat) : Int).toNat = j := by omega
        go_upto_region 8 with fail
        clear hW1 e0 e1
        have t0 := HS1.out.cell (k := 0) 0 rfl rfl
        have t1 := HS1.out.cell (k := 1) 0 rfl rfl
        have CK := kClos_c names A' n' c' gn B x W1 (HC.out.chg HS1.out.chg HQ.out.1 HQ.out.2)
        cases hk : Pl.hasN names x.Name with
        | false =>
          rw [hk] at CK
          have HN : Hid (ys.take i = Pl.keepL (l.take (j + 1)) names) := by show _ = _; rw [HYT.out, HX.out.2, if_neg (by rw [hk]; simp), List.append_nil]
          have HD2 : Hid (ys.drop (j + 1) = l.drop (j + 1)) := by show _ = _; rw [← List.drop_drop, ← List.drop_drop, HYD.out]
          clear hk
          go_wp2_with (go_at_call 94; (with_reducible refine CK.mono ?_); clear CK; rintro e w3 ⟨rfl, hb3⟩; (have HS3 := Lib.hid (HS1.out.step hb3)); clear hb3)
          go_roundg (n - (j + 1))
          case measure => omega
          case rel => exact ⟨i, j + 1, ys, Nat.le_refl _, by omega, by omega, rfl, by go_num, HYL.out, HN.out, HD2.out, HS3.out.sel [1] (by decide) rfl⟩
        | true =>
          rw [hk] at CK
          have hil : i < ys.length := by rw [HYL.out]; omega
          obtain ⟨y, hy⟩ : ∃ y, ys[i]? = some y := ⟨_, List.getElem?_eq_getElem hil⟩
          have HY := Lib.hid hy
          have HN : Hid ((ys.set i x).take (i + 1) = Pl.keepL (l.take (j + 1)) names) := by
            show _ = _
            rw [HX.out.2, if_pos hk, ← HYT.out]
            apply List.ext_getElem?
            intro q
            rw [List.getElem?_take]
            by_cases hq : q < i
            · rw [if_pos (by omega), List.getElem?_set_ne (by omega), List.getElem?_append_left (by rw [List.length_take]; omega), List.getElem?_take, if_pos hq]
            · by_cases hq2 : q = i
              · subst hq2
                rw [if_pos (by omega), List.getElem?_set_self hil, List.getElem?_append_right (by rw [List.length_take]; omega), List.length_take, Nat.min_eq_left (by omega), Nat.sub_self]
                rfl
              · rw [if_neg (by omega), List.getElem?_eq_none (by rw [List.length_append, List.length_take]; simp; omega)]
          have HD2 : Hid ((ys.set i x).drop (j + 1) = l.drop (j + 1)) := by
            show _ = _
            rw [List.drop_set_of_lt (by omega), ← List.drop_drop, ← List.drop_drop, HYD.out]
          clear hk hy
          have f5 : (0 : Int) ≤ (i : Nat) := by omega
          have f6 : ((i : Nat) : Int).toNat = i := by omega
          have f7 : (i : Int) < (n : Nat) := by omega
          have f8 : IntKind.i64.wrap ((i : Int) + 1) = (i : Int) + 1 := IntWalk.i64_in _ (by omega)
          go_upto_region 9 with (go_at_call 94; (with_reducible refine CK.mono ?_); clear CK; rintro e w3 ⟨rfl, hb3⟩; (have HS3 := Lib.hid (HS1.out.step hb3)); clear hb3 t0 t1)
          have t0 := HS3.out.cell (k := 0) 0 rfl rfl
          have t1 := HS3.out.cell (k := 1) 0 rfl rfl
          obtain ⟨u0, u1⟩ := rLabel_ocell (HS3.out.sl 1 rfl) (HS3.out.ndat (i := 1) rfl) HY.out
          have z0 := (HS3.out.sl 1 rfl).frozen (i * 2)
          have z1 := (HS3.out.sl 1 rfl).frozen (i * 2 + 1)
          go_wp2
          have HSA := Lib.hid (HS3.out.putSl (x' := ⟨x.Name, y.Value⟩) (u := .string x.Name) (m := 0) 1 rfl HY.out (by decide) (fun cs fx h => by
            obtain ⟨rfl, h1, rfl⟩ := rLabel_own h
            exact rLabel_own_mk (x := ⟨x.Name, y.Value⟩) ⟨HIB.out.1, h1.2⟩))
          have HSB := Lib.hid (HSA.out.putSl (k := i) (x' := x) (u := .string x.Value) (m := 1) 1 rfl (List.getElem?_set_self hil) (by decide) (fun cs fx h => by
            obtain ⟨rfl, h1, rfl⟩ := rLabel_own h
            exact rLabel_own_mk HIB.out))
          go_roundg (n - (j + 1))
          case measure => omega
          case rel => exact ⟨i + 1, j + 1, ys.set i x, Nat.le_refl _, by omega, by omega, by go_num, by go_num, (by show _ = _; rw [List.length_set]; exact HYL.out), HN.out, HD2.out, by
            have h9 : Mm.SepF fp w _ [Mm.tsl rLabel 97 ((ys.set i ⟨x.Name, y.Value⟩).set i x) (.slice (some ⟨g, 0, none⟩) n c) fp] := HSB.out.sel [1] (by decide) rfl
            rw [List.set_set] at h9
            exact h9⟩
      · obtain rfl : n = j := by omega
        have HK : Hid (ys.take i = Pl.keepL l names) := by show _ = _; rw [HYT.out, List.take_of_length_le (by rw [HLN.out]; exact Nat.le_refl _)]
        obtain ⟨cur, hcur, hcl, ht, -, hnc, hcm, hfp⟩ := Mm.flatN_lab.blk (HS.out.sl 0 rfl)
        obtain ⟨-, -, hown, hlen⟩ := Mm.flatN_lab.owns (HS.out.sl 0 rfl)
        obtain ⟨iL, hiL, hL0, hLs, hLb⟩ := info_parts Try.info_clLab
        obtain ⟨zs, hzs⟩ : ∃ zs, zs = (Builtin.zeroCells (Value.agg #[.string ⟨#[]⟩, .string ⟨#[]⟩]).cells (n - i)).toList := ⟨_, rfl⟩
        have hzl : zs.length = (n - i) * 2 := by rw [hzs, Array.length_toList, Mm.zeroCells_len]; rfl
        have hcl2 : cur.length = c * 2 := hcl
        have ht2 : cur.take (n * 2) = ys.flatMap Mm.encLab := ht
        have hcc : ∀ ty, (Builtin.clear_ #[48] ty #[.slice (some ⟨g, i * 2, none⟩) (n - i) (c - i)]).run Try.prog W = .ok (.tuple #[]) (W.setCells g (i * 2) zs) := fun ty =>
          Mm.run_clear_k W _ 97 ty _ Try.underlying48 (fun w => by simp [zeroValue, typeInfo, hiL, hL0]) (by decide) g (i * 2) (c - i) (n - i) (by omega) zs hzs (fun q hq => by
            rw [hcur.cell (List.getElem?_eq_getElem (by rw [hcl2]; omega))]; rfl) (fun q hq => hcur.frozen _)
        have hb2 := Mm.setCells_blk zs _ (i * 2) _ hcur
        have hso : Mm.SlOwn rLabel 97 (W.setCells g (i * 2) zs) (ys.take i) (.slice (some ⟨g, 0, none⟩) i c) [g] := by
          refine Mm.flatN_lab.of_blk hb2 (by rw [Mm.setList_len]; exact hcl) ?_ (by rw [List.length_take, HYL.out]; omega) (by omega) hcm (fun z hz => hown z (List.mem_of_mem_take hz) _)
          rw [Mm.flatMap_take (s := 2) i hlen, ← ht2]
          apply List.ext_getElem?
          intro q
          rw [List.getElem?_take, List.getElem?_take]
          show (if q < i * 2 then _ else _) = _
          by_cases hq : q < i * 2
          · rw [if_pos hq, if_pos hq, Mm.setList_get _ _ _ _ (by rw [hzl, hcl2]; omega), if_neg (by omega), List.getElem?_take]
            rw [if_pos (show q < n * 2 by omega)]
          · rw [if_neg hq, if_neg hq]
        have HF := Lib.hid (HS.out.upd (i := 0) (t := Mm.tsl rLabel 97 ys (.slice (some ⟨g, 0, none⟩) n c) fp) (t' := Mm.tsl rLabel 97 (ys.take i) (.slice (some ⟨g, 0, none⟩) i c) [g]) rfl (by show Mm.Chg fp _ _; rw [hfp]; exact Mm.setCells_chg g zs W (i * 2)) hso (by simp [Mm.tsl]) (fun b hb => .inl (by show b ∈ fp; rw [hfp]; exact hb)))
        have HFP := Lib.hid hfp
        unfold maxLen at hcm
        have f2 : ¬ (n : Int) < (n : Nat) := by omega
        have f3 : (0 : Int) ≤ (i : Nat) := by omega
        have f4 : ((i : Nat) : Int).toNat = i := by omega
        have f5 : (i : Int) ≤ (n : Nat) := by omega
        have f6 : ¬ (c = i) := by omega
        have f7 : (i : Int) ≤ (c : Nat) := by omega
        clear hzs hzl hcl2 hcur hcl ht ht2 hfp hown hlen hb2 hso hLs hLb
        go_wp2
        go_ret
        exact ⟨_, _, _, rfl, by rw [← HK.out]; have := HF.out; rw [HFP.out] at this ⊢; exact this⟩
def KeepAns (l : List Label) (names : List ByteArray) (w : World) (e : Ending) (w' : World) : Prop :=
  ∃ A2 n2 c2 fp, e = .returned (.slice A2 n2 c2) ∧ Mm.SlOwn rLabel 97 w' (Pl.keepL l names) (.slice A2 n2 c2) fp ∧ fp.Nodup ∧ (∀ b, b ∈ fp → w.heap.size ≤ b) ∧ Below w.heap.size w w'
set_option maxRecDepth 100000 in
theorem keepLabels_c (l : List Label) (A : Option Addr) (n c : Nat) (names : List ByteArray) (A' : Option Addr) (n' c' : Nat) (w : World) (B : Nat) (hl : Mm.SlAt rLabel w B l A n c) (hs : Mm.SlAt Mm.str w B names A' n' c') (hB : B ≤ w.heap.size) (hn : n ≤ 1000) :
    Calls Try.prog 65 #[.slice A n c, .slice A' n' c'] w (KeepAns l names w) := by
  obtain ⟨gn, hgn⟩ : ∃ gn, w.heap.size = gn := ⟨_, rfl⟩
  obtain ⟨W1, hW1⟩ : ∃ W1, w.alloc (.cells #[.slice A' n' c'] 41) = W1 := ⟨_, rfl⟩
  have hb1 : Below w.heap.size w W1 := by rw [← hW1]; exact below_new (Below.refl _ _) _
  have hnb : Mm.Blk W1 gn 41 [.slice A' n' c'] := by rw [← hW1, ← hgn]; exact Mm.Blk.new w _ _
  have hl1 := hl.keep (w' := W1) fun b hb => hb1.block b (Nat.lt_of_lt_of_le hb hB)
  have HCP := Lib.hid (show Caps names A' n' c' gn B W1 from ⟨hnb.cell rfl, hs.keep fun b hb => hb1.block b (Nat.lt_of_lt_of_le hb hB), hnb.lt, Nat.le_trans hB hb1.size⟩)
  have HLN : Hid (l.length = n) := hl.1
  have CC := clLab_c l A n c W1 B hl1 (by omega)
  have HB1 := Lib.hid hb1
  clear hl hs hl1 hb1 hnb
  go_enter Try.func65, Try.ntmps65
  go_upto_region 1 with fail
  clear hW1
  go_wp2_with first
    | (go_at_call 84; (with_reducible refine CC.mono ?_); clear CC; rintro e w4 ⟨A3, n3, c3, fp3, rfl, ho, hnd, hnew, hb4⟩; (have HO := Lib.hid (And.intro ho (And.intro hnd (And.intro hnew hb4)))); (have hn3 : n3 = l.length := by obtain ⟨_, _, _, hv, q1, _⟩ := ho.form; injection hv with _ q2 _; exact q2.trans q1); (have hn3' : n3 ≤ 1000 := by have := HLN.out; omega); clear ho hnd hnew hb4 hn3)
    | (go_at_call 93; refine (kDel_c names A' n' c' gn B l A3 n3 c3 fp3 w4 (HCP.out.bel HO.out.2.2.2) HO.out.1 HO.out.2.1 (fun hm => by have h3 := HO.out.2.2.1 gn hm; have h4 := HCP.out.lt; omega) (fun b hb => by have h3 := HO.out.2.2.1 b hb; have h4 := HCP.out.le; omega) hn3').mono ?_; rintro e w5 ⟨A5, n5, c5, rfl, hS⟩; (have HS := Lib.hid hS); clear hS)
  go_ret
  refine ⟨_, _, _, fp3, rfl, HS.out.sl 0 rfl, HO.out.2.1, fun b hb => ?_, ?_⟩
  · have h3 := HO.out.2.2.1 b hb; have h4 := HB1.out.size; omega
  · exact Mm.Below.chg (below_step HB1.out HO.out.2.2.2) HS.out.chg (Nat.le_trans HB1.out.size HO.out.2.2.2.size) (fun b hb => by have h3 := HO.out.2.2.1 b hb; have h4 := HB1.out.size; omega)
end Go.Proofs.Ytnppcdiicnofpaa

/-
  Contracts: which labels are kept, the reference's (l14Keep). No conditions.
-/
namespace Go.Proofs.Ytnppcdiicnofpaa
open Go.RowKit
attribute [local go_sem] und_cell World.cell?_alloc_some
theorem Pl.idxFrom_iff {l : List ByteArray} {v : ByteArray} : ∀ (f k : Nat), 0 ≤ Pl.idxFrom l v f k ↔ ∃ j, k ≤ j ∧ j < k + f ∧ Pl.strAt l j = v
  | 0, k => by
    unfold Pl.idxFrom
    constructor
    · intro h; omega
    · rintro ⟨j, h1, h2, _⟩; omega
  | f + 1, k => by
    unfold Pl.idxFrom
    split
    · rename_i h
      exact ⟨fun _ => ⟨k, Nat.le_refl _, by omega, h⟩, fun _ => by omega⟩
    · rename_i h
      rw [Pl.idxFrom_iff f (k + 1)]
      constructor
      · rintro ⟨j, h1, h2, h3⟩; exact ⟨j, by omega, by omega, h3⟩
      · rintro ⟨j, h1, h2, h3⟩
        refine ⟨j, ?_, by omega, h3⟩
        rcases Nat.eq_or_lt_of_le h1 with h4 | h4
        · subst h4; exact absurd h3 h
        · exact h4
theorem Pl.hasN_iff {names : List ByteArray} {s : ByteArray} : Pl.hasN names s = true ↔ ∃ (j : Nat) (x : ByteArray), names[j]? = some x ∧ x = s := by
  unfold Pl.hasN Pl.idx
  rw [decide_eq_true_eq, Pl.idxFrom_iff]
  constructor
  · rintro ⟨j, _, h2, h3⟩
    have hx := List.getElem?_eq_getElem (show j < names.length by omega)
    exact ⟨j, _, hx, by rw [← h3]; exact (Pl.strAt_of hx).symm⟩
  · rintro ⟨j, x, hx, rfl⟩
    exact ⟨j, Nat.zero_le _, by have := (List.getElem?_eq_some_iff.1 hx).1; omega, Pl.strAt_of hx⟩
theorem Pl.hasN_next {names : List ByteArray} {s : ByteArray} {k : Nat} {x : ByteArray} (h : names[k]? = some x) : Pl.hasN (names.take (k + 1)) s = (Pl.hasN (names.take k) s || (x.toList == s.toList)) := by
  obtain ⟨hk, hx⟩ := List.getElem?_eq_some_iff.1 h
  rw [Bool.eq_iff_iff, Bool.or_eq_true, Pl.hasN_iff, Pl.hasN_iff]
  constructor
  · rintro ⟨j, y, hy, rfl⟩
    rw [List.getElem?_take] at hy
    split at hy
    · by_cases hj : j < k
      · exact .inl ⟨j, y, by rw [List.getElem?_take, if_pos hj]; exact hy, rfl⟩
      · obtain rfl : j = k := by omega
        rw [h] at hy; injection hy with hy; subst hy
        exact .inr (by simp)
    · cases hy
  · rintro (⟨j, y, hy, rfl⟩ | he)
    · rw [List.getElem?_take] at hy
      split at hy
      · exact ⟨j, y, by rw [List.getElem?_take, if_pos (by omega)]; exact hy, rfl⟩
      · cases hy
    · exact ⟨k, x, by rw [List.getElem?_take, if_pos (by omega)]; exact h, Pl.ba_inj (by simpa using he)⟩
theorem Pl.hasN_zero (names : List ByteArray) (s : ByteArray) : Pl.hasN (names.take 0) s = false := by
  rw [← Bool.not_eq_true, Pl.hasN_iff]
  rintro ⟨j, x, h, _⟩
  simp at h
set_option maxRecDepth 100000 in
set_option maxHeartbeats 1000000 in
theorem l14Keep_c (l : List Label) (A : Option Addr) (n c : Nat) (names : List ByteArray) (A' : Option Addr) (n' c' : Nat) (w : World) (B : Nat) (hl : Mm.SlAt rLabel w B l A n c) (hs : Mm.SlAt Mm.str w B names A' n' c') (hB : B ≤ w.heap.size) (hn : n ≤ 1000) :
    Calls Try.prog 66 #[.slice A n c, .slice A' n' c'] w (KeepAns l names w) := by
  have HL := Lib.hid hl
  have HLN : Hid (l.length = n) := hl.1
  have HNM := Lib.hid hs
  have hnm : n' ≤ maxLen := Nat.le_trans hs.2.1 hs.2.2.1
  unfold maxLen at hnm
  have HNL : Hid (names.length = n') := hs.1
  obtain ⟨iL, hiL, hL0, hLs, hLb⟩ := info_parts Try.info_clLab
  clear hl hs
  go_enter Try.func66, Try.ntmps66
  go_wp2
  go_loopg [5, 13] n (fun g o i wr => ∃ k : Nat, n - k ≤ g ∧ k ≤ n ∧ i = .int .i64 k ∧ Hid (Mm.Acc rLabel 97 w (Pl.keepL (l.take k) names) o wr))
  case atStart => exact ⟨0, Nat.le_refl _, Nat.zero_le _, rfl, Mm.Acc.nil (Below.refl _ _)⟩
  case round =>
    obtain ⟨k, hgk, hk, rfl, HA⟩ := hrel
    obtain ⟨W, rfl⟩ : ∃ W : World, W = wr := ⟨_, rfl⟩
    obtain ⟨A1, n1, c1, rfl, hn1, -, -, -⟩ := HA.out.form
    have HN1 := Lib.hid hn1
    have hn1k : n1 ≤ k := by rw [hn1]; exact Nat.le_trans (List.length_filter_le _ _) (by rw [List.length_take]; omega)
    clear hn1
    by_cases hlt : k < n
    · obtain ⟨x, b, off, hx, rfl, hb, i1, i2, e0, e1⟩ := rLabel_get (HL.out.keep (w' := W) fun b hb => HA.out.bel.block b (Nat.lt_of_lt_of_le hb hB)) hlt
      have HX := Lib.hid (Pl.keepL_next (names := names) hx)
      have HIB := Lib.hid (And.intro i1 i2)
      have f1 : (k : Int) < (n : Nat) := by omega
      have f2 : (0 : Int) ≤ (k : Nat) := by omega
      have f3 : ((k : Nat) : Int).toNat = k := by omega
      clear hx i1 i2
      obtain ⟨gv, hgv⟩ : ∃ gv, W.heap.size = gv := ⟨_, rfl⟩
      obtain ⟨W1, hW1⟩ : ∃ W1, W.alloc (.cells #[.string x.Name, .string x.Value] 97) = W1 := ⟨_, rfl⟩
      have hb1 : Below W.heap.size W W1 := by rw [← hW1]; exact below_new (Below.refl _ _) _
      have hnb : Mm.Blk W1 gv 97 [.string x.Name, .string x.Value] := by rw [← hW1, ← hgv]; exact Mm.Blk.new W _ _
      have HA1 := Lib.hid (HA.out.step hb1)
      have t0 : W1.cell? ⟨gv, 0, none⟩ = some (.string x.Name) := hnb.cell rfl
      have t1 : W1.cell? ⟨gv, 1, none⟩ = some (.string x.Value) := hnb.cell rfl
      have hsN := HNM.out.keep (w' := W1) fun b hb => HA1.out.bel.block b (Nat.lt_of_lt_of_le hb hB)
      have HSN := Lib.hid hsN
      go_upto_region 5 with fail
      clear hW1 hb1 hnb hsN e0 e1
      go_wp2
      go_loopg [8, 19] n' (fun gg iv jv wr => wr = W1 ∧ ∃ j : Nat, n' - j ≤ gg ∧ j ≤ n' ∧ jv = .int .i64 j ∧ iv = .bool (Pl.hasN (names.take j) x.Name))
      case atStart => exact ⟨rfl, 0, Nat.le_refl _, Nat.zero_le _, rfl, by rw [Pl.hasN_zero]⟩
      case round =>
        obtain ⟨rfl, j, hgj, hj, rfl, rfl⟩ := hrel
        obtain ⟨hv, hhv⟩ : ∃ hv, Pl.hasN (names.take j) x.Name = hv := ⟨_, rfl⟩
        rw [hhv]
        by_cases hjl : j < n'
        · obtain ⟨y, b2, o2, hy, rfl, hb2, hys, d0⟩ := str_get HSN.out hjl
          have HN := Lib.hid (Pl.hasN_next (s := x.Name) hy)
          have HHV := Lib.hid hhv
          have f4 : (j : Int) < (n' : Nat) := by omega
          have f5 : (0 : Int) ≤ (j : Nat) := by omega
          have f6 : ((j : Nat) : Int).toNat = j := by omega
          clear hy hys hhv
          cases hv with
          | true =>
            have hq : Hid (Pl.hasN (names.take (j + 1)) x.Name = true) := by show _ = _; rw [HN.out, HHV.out]; rfl
            go_wp2
            go_roundg (n' - (j + 1))
            case measure => omega
            case rel => exact ⟨rfl, j + 1, Nat.le_refl _, by omega, by go_num, by rw [hq.out]⟩
          | false =>
            obtain ⟨be, hbe⟩ : ∃ be, (y.toList == x.Name.toList) = be := ⟨_, rfl⟩
            have hq : Hid (Pl.hasN (names.take (j + 1)) x.Name = be) := by show _ = _; rw [HN.out, HHV.out, Bool.false_or, hbe]
            go_wp2
            go_roundg (n' - (j + 1))
            case measure => omega
            case rel => exact ⟨rfl, j + 1, Nat.le_refl _, by omega, by go_num, by rw [hq.out]⟩
        · obtain rfl : n' = j := by omega
          have hfin : Pl.hasN names x.Name = hv := by rw [← hhv, List.take_of_length_le (by rw [HNL.out]; exact Nat.le_refl _)]
          have f4 : ¬ (n' : Int) < (n' : Nat) := by omega
          clear hhv
          cases hv with
          | false =>
            have HN : Hid (Pl.keepL (l.take (k + 1)) names = Pl.keepL (l.take k) names) := by show _ = _; rw [HX.out, if_neg (by rw [hfin]; simp), List.append_nil]
            clear hfin
            go_wp2
            go_roundg (n - (k + 1))
            case measure => omega
            case rel => exact ⟨k + 1, Nat.le_refl _, by omega, by go_num, by rw [HN.out]; exact HA1.out⟩
          | true =>
            have HN : Hid (Pl.keepL (l.take (k + 1)) names = Pl.keepL (l.take k) names ++ [x]) := by show _ = _; rw [HX.out, if_pos hfin]
            clear hfin
            obtain ⟨l0, ho, hnext⟩ := HA1.out.push (W2 := wr.alloc (.cells #[.string x.Name, .string x.Value] 97)) (below_new (Below.refl _ _) _) (x := x) (cx := [.string x.Name, .string x.Value]) (fx := []) (rLabel_own_mk HIB.out) List.nodup_nil (fun b hb => by cases hb)
            rw [← HN1.out] at ho hnext
            have HNX := Lib.hid hnext
            have HO := Lib.hid ho
            clear ho hnext
            go_wp2_with (at_builtin; refine wpList_append_lies _ (by rfl) _ _ _ (by rfl) 0 97 iL _ 2 32 Try.underlying48 hiL hL0 hLs hLb rfl (by omega) _ n1 l0 (by rfl) HO.out ⟨wr.heap.size, 0, none⟩ 1 1 [.string x.Name, .string x.Value] (by rfl) (by rfl) (World.news_of_block (B := wr.heap.size) (cs := #[.string x.Name, .string x.Value]) (t := 97) (fr := (0, 0)) (heap_alloc_new wr _)) (by simp [Value.oneCell']) (by omega) (by unfold maxLen; omega) (by omega) (Nat.zero_le _) _ rfl ?_; intro gg cap w2 hown1 hgrow hat hlt9; have HAC := Lib.hid (HNX.out gg cap w2 hown1 hgrow hat); clear hown1 hgrow hat hlt9)
            go_roundg (n - (k + 1))
            case measure => omega
            case rel => exact ⟨k + 1, Nat.le_refl _, by omega, by go_num, by rw [HN.out]; exact HAC.out⟩
    · obtain rfl : n = k := by omega
      have HK : Hid (Pl.keepL (l.take n) names = Pl.keepL l names) := by show _ = _; rw [List.take_of_length_le (by rw [HLN.out]; exact Nat.le_refl _)]
      have f1 : ¬ (n : Int) < (n : Nat) := by omega
      go_wp2
      go_ret
      have h9 := HA.out
      rw [HK.out] at h9
      obtain ⟨fp, h1, h2, h3, h4⟩ := h9
      exact ⟨_, _, _, fp, rfl, h1, h2, h3, h4⟩
end Go.Proofs.Ytnppcdiicnofpaa

/-
  Plain totals by fewer labels: labels that are good stay good where some are left out. No program in sight. No conditions.
-/
namespace Go.Proofs.Ytnppcdiicnofpaa
namespace Pl
theorem labelsOk_iff {l : List Label} : labelsOk l = true ↔ (∀ x, x ∈ l → labelOk x = true) ∧ l.Pairwise (fun a b => lessB a.Name b.Name = true) ∧ l.length ≤ 6 := by
  unfold labelsOk
  rw [Bool.and_eq_true, decide_eq_true_eq]
  have at_ : ∀ k (hk : k < l.length), labAt l k = l[k] := fun k hk => labAt_of (List.getElem?_eq_getElem hk)
  constructor
  · rintro ⟨h, h6⟩
    have h1 := allB_iff.1 h
    have h2 : ∀ k (hk : k < l.length), labelOk l[k] = true ∧ (0 < k → lessB (labAt l (k - 1)).Name l[k].Name = true) := fun k hk => by
      have := h1 k hk
      unfold labP labQ at this
      rw [at_ k hk, Bool.and_eq_true, Bool.or_eq_true, decide_eq_true_eq] at this
      exact ⟨this.1, fun h0 => this.2.resolve_left (by omega)⟩
    refine ⟨fun x hx => ?_, ?_, h6⟩
    · obtain ⟨i, hi, rfl⟩ := List.mem_iff_getElem.1 hx
      exact (h2 i hi).1
    · rw [List.pairwise_iff_getElem]
      intro i j hi hj hij
      have step : ∀ d (hd : i + 1 + d < l.length), lessB l[i].Name l[i + 1 + d].Name = true := by
        intro d
        induction d with
        | zero =>
          intro hd
          have := (h2 (i + 1) hd).2 (by omega)
          rw [Nat.add_sub_cancel, at_ i hi] at this
          exact this
        | succ d ih =>
          intro hd
          have h3 := ih (by omega)
          have h4 := (h2 (i + 1 + (d + 1)) hd).2 (by omega)
          rw [show i + 1 + (d + 1) - 1 = i + 1 + d by omega, at_ (i + 1 + d) (by omega)] at h4
          exact less_trans h3 h4
      have := step (j - (i + 1)) (by omega)
      simp only [show i + 1 + (j - (i + 1)) = j by omega] at this
      exact this
  · rintro ⟨h1, h2, h6⟩
    refine ⟨allB_iff.2 fun k hk => ?_, h6⟩
    unfold labP labQ
    rw [at_ k hk, Bool.and_eq_true, Bool.or_eq_true, decide_eq_true_eq]
    refine ⟨h1 _ (List.getElem_mem hk), ?_⟩
    rcases Nat.eq_zero_or_pos k with h0 | h0
    · exact .inl h0
    · right
      rw [at_ (k - 1) (by omega)]
      exact List.pairwise_iff_getElem.1 h2 (k - 1) k (by omega) hk (by omega)
theorem labelsOk_keep {l : List Label} (names : List ByteArray) (h : labelsOk l = true) : labelsOk (keepL l names) = true := by
  obtain ⟨h1, h2, h3⟩ := labelsOk_iff.1 h
  refine labelsOk_iff.2 ⟨fun x hx => h1 x (List.mem_filter.1 hx).1, h2.filter _, Nat.le_trans (List.length_filter_le _ _) h3⟩
def tkeep (names : List ByteArray) (x : Total) : Total := ⟨keepL x.Labels names, x.Sum, x.Count, x.Least, x.Most⟩
theorem totOk_keep {x : Total} (names : List ByteArray) (h : totOk x = true) : totOk (tkeep names x) = true := by
  obtain ⟨h1, h2⟩ := totOk_iff.1 h
  exact totOk_iff.2 ⟨labelsOk_keep names h1, h2⟩
def tcoarse (l : List Total) (names : List ByteArray) : List Total × Bool := if (totalsOk l && decide (names.length ≤ 6)) = true then tgood (tcomb (l.map (tkeep names))) else ([], false)
theorem map_next {α β : Type} {f : α → β} {l : List α} {k : Nat} {x : α} (h : l[k]? = some x) : (l.take (k + 1)).map f = (l.take k).map f ++ [f x] := by
  obtain ⟨hk, hx⟩ := List.getElem?_eq_some_iff.1 h
  rw [List.take_succ_eq_append_getElem hk, hx, List.map_append]
  rfl
end Pl
end Go.Proofs.Ytnppcdiicnofpaa

/-
  Contracts: CoarseTotals, the program's and the reference's. No conditions.
-/
namespace Go.Proofs.Ytnppcdiicnofpaa
open Go.RowKit
attribute [local go_sem] und_cell World.cell?_alloc_some
set_option maxRecDepth 100000 in
set_option maxHeartbeats 1000000 in
theorem implCoarseOk (l : List Total) (A : Option Addr) (n c : Nat) (names : List ByteArray) (A' : Option Addr) (n' c' : Nat) (w : World) (B : Nat) (HL : Hid (Mm.SlAt rTotal w B l A n c)) (HNM : Hid (Mm.SlAt Mm.str w B names A' n' c')) (hB : B ≤ w.heap.size) (HLN : Hid (l.length = n)) (HNL : Hid (names.length = n')) (hn6 : n' ≤ 6) (hca : Pl.totalsOk l = true)
    (CA : Calls Try.prog 51 #[.slice A n c] w fun e w' => e = .returned (.bool true) ∧ Below w.heap.size w w') :
    Calls Try.prog 39 #[.slice A n c, .slice A' n' c'] w (Mm.RetS2 rTotal 50 w (Pl.tcoarse l names).1 (Pl.tcoarse l names).2) := by
  have HF : Hid (Pl.tcoarse l names = Pl.tgood (Pl.tcomb (l.map (Pl.tkeep names)))) := if_pos (by rw [hca, HNL.out]; simpa using hn6)
  have hn40 : n ≤ 40 := by have := Pl.totalsOk_len hca; have := HLN.out; omega
  have HOK := Lib.hid (Pl.totalsOk_all hca)
  clear hca
  have f0 : ¬ (6 : Int) < (n' : Nat) := by omega
  obtain ⟨i0, hi, hz0, hzs, hzb⟩ := info_parts Try.infoTot
  go_enter Try.func39, Try.ntmps39
  go_wp2_with (go_at_call 51; (with_reducible refine CA.mono ?_); clear CA; rintro e w0 ⟨rfl, hb0⟩)
  have HB0 := Lib.hid hb0
  clear hb0
  go_loopg [6, 19] n (fun g o i wr => ∃ (k nn cc : Nat) (AA : Option Addr) (fp : List Nat) (xs : List Total), n - k ≤ g ∧ k ≤ n ∧ i = .int .i64 k ∧ o = .slice AA nn cc ∧ Hid (nn = xs.length) ∧ Hid (xs = (l.take k).map (Pl.tkeep names)) ∧ Hid (Mm.SepF [] w wr [Mm.tsl rTotal 50 xs (.slice AA nn cc) fp]))
  case atStart => exact ⟨0, 0, 0, none, [], [], Nat.le_refl _, Nat.zero_le _, rfl, rfl, rfl, rfl, (Mm.SepF.start w).add HB0.out (t := Mm.tsl rTotal 50 [] (.slice none 0 0) []) Mm.SlOwn.nil List.nodup_nil (fun b hb => by cases hb)⟩
  case round =>
    obtain ⟨k, nn, cc, AA, fp, xs, hgk, hk, rfl, rfl, HN, HX, HS⟩ := hrel
    obtain ⟨W, rfl⟩ : ∃ W : World, W = wr := ⟨_, rfl⟩
    have hnk : nn ≤ 40 := by rw [HN.out, HX.out, List.length_map, List.length_take]; omega
    by_cases hlt : k < n
    · have f1 : (k : Int) < (n : Nat) := by omega
      have f2 : (0 : Int) ≤ (k : Nat) := by omega
      have f3 : ((k : Nat) : Int).toNat = k := by omega
      obtain ⟨x, bb, off, A2, n2, c2, hx, rfl, hbb, hlb, i1, i2, i3, i4, e0, e1, e2, e3, e4⟩ := rTotal_get (HL.out.keep (w' := W) fun b hb => HS.out.bel0.block b (Nat.lt_of_lt_of_le hb hB)) hlt
      have HTX := Lib.hid (HOK.out x (List.mem_of_getElem? hx))
      have HNX := Lib.hid (Pl.map_next (f := Pl.tkeep names) hx)
      have HLB := Lib.hid hlb
      have HI := Lib.hid (And.intro i1 (And.intro i2 (And.intro i3 i4)))
      have hn2 : n2 ≤ 6 := by have := Pl.labelsOk_len (Pl.totOk_lab HTX.out); have := hlb.1; omega
      clear hx hlb i1 i2 i3 i4
      obtain ⟨gt, hgt⟩ : ∃ gt, W.heap.size = gt := ⟨_, rfl⟩
      obtain ⟨W1, hW1⟩ : ∃ W1, W.alloc (.cells #[.slice A2 n2 c2, .int .i64 x.Sum, .int .i64 x.Count, .int .i64 x.Least, .int .i64 x.Most] 50) = W1 := ⟨_, rfl⟩
      have HS1 := Lib.hid ((HS.out.alloc' hgt 50 [.slice A2 n2 c2, .int .i64 x.Sum, .int .i64 x.Count, .int .i64 x.Least, .int .i64 x.Most]).atW hW1)
      have hB1 : Below W.heap.size W W1 := by rw [← hW1]; exact below_new (Below.refl _ _) _
      have hBW : B ≤ W.heap.size := Nat.le_trans hB HS.out.bel0.size
      have CK := keepLabels_c x.Labels A2 n2 c2 names A' n' c' W1 B (HLB.out.keep fun b hb => hB1.block b (Nat.lt_of_lt_of_le hb hBW)) (HNM.out.keep fun b hb => HS1.out.bel0.block b (Nat.lt_of_lt_of_le hb hB)) (Nat.le_trans hBW hB1.size) (by omega)
      have s0 := HS1.out.cell (k := 0) 0 rfl rfl
      go_upto_region 7 with fail
      clear hW1 hB1 HS e0 e1 e2 e3 e4
      go_upto_region 8 with (go_at_call 65; (with_reducible refine CK.mono ?_); clear CK; rintro e w4 ⟨A3, n3, c3, fp3, rfl, ho, hnd, hnew, hb4⟩; (have HS4 := Lib.hid (HS1.out.add hb4 (t := Mm.tsl rLabel 97 (Pl.keepL x.Labels names) (.slice A3 n3 c3) fp3) ho hnd hnew)); clear ho hnd hnew hb4 s0; (have s0 := HS4.out.cell (k := 0) 1 rfl rfl); (have z0 := HS4.out.frz (k := 0) 1 rfl))
      obtain ⟨W5, hW5⟩ : ∃ W5, w4.setCell ⟨gt, 0, none⟩ (.slice A3 n3 c3) = W5 := ⟨_, rfl⟩
      have HS5 := Lib.hid ((HS4.out.setBlk (k := 0) 1 rfl (.slice A3 n3 c3)).atW hW5)
      rw [hW5]
      clear hW5 s0 z0 HS4
      have t0 := HS5.out.cell (k := 0) 1 rfl rfl
      have t1 := HS5.out.cell (k := 1) 1 rfl rfl
      have t2 := HS5.out.cell (k := 2) 1 rfl rfl
      have t3 := HS5.out.cell (k := 3) 1 rfl rfl
      have t4 := HS5.out.cell (k := 4) 1 rfl rfl
      obtain ⟨lc, ho, hnext⟩ := HS5.out.push 2 0 (by decide) rfl rfl (below_new (Below.refl W5.heap.size W5) (.cells #[.slice A3 n3 c3, .int .i64 x.Sum, .int .i64 x.Count, .int .i64 x.Least, .int .i64 x.Most] 50)) (x := Pl.tkeep names x) (cx := [.slice A3 n3 c3, .int .i64 x.Sum, .int .i64 x.Count, .int .i64 x.Least, .int .i64 x.Most]) (fun W h => rTotal_own_mk (x := Pl.tkeep names x) h HI.out.1 HI.out.2.1 HI.out.2.2.1 HI.out.2.2.2)
      rw [← HN.out] at ho hnext
      have HNE := Lib.hid hnext
      have HO := Lib.hid ho
      clear hnext ho
      go_wp2_with (at_builtin; refine wpList_append_lies _ (by rfl) _ _ _ (by rfl) 0 50 i0 _ 5 56 Try.underlying27 hi hz0 hzs hzb rfl (by omega) _ nn lc (by rfl) HO.out ⟨W5.heap.size, 0, none⟩ 1 1 [.slice A3 n3 c3, .int .i64 x.Sum, .int .i64 x.Count, .int .i64 x.Least, .int .i64 x.Most] (by rfl) (by rfl) (World.news_of_block (B := W5.heap.size) (cs := #[.slice A3 n3 c3, .int .i64 x.Sum, .int .i64 x.Count, .int .i64 x.Least, .int .i64 x.Most]) (t := 50) (fr := (0, 0)) (heap_alloc_new W5 _)) (by simp [Value.oneCell']) (by omega) (by unfold maxLen; omega) (by omega) (Nat.zero_le _) _ rfl ?_; intro gg cap w7 hown1 hgrow hat hlt9; obtain ⟨fp', hs7⟩ := HNE.out gg cap w7 hown1 hgrow hat; (have HS7 := Lib.hid hs7); clear hown1 hgrow hat hlt9 hs7)
      go_roundg (n - (k + 1))
      case measure => omega
      case rel => exact ⟨k + 1, nn + 1, cap, _, fp', xs ++ [Pl.tkeep names x], Nat.le_refl _, by omega, by go_num, rfl, (by show _ = _; rw [List.length_append, HN.out]; rfl), (by show _ = _; rw [HNX.out, HX.out]), HS7.out.sel [2] (by decide) rfl⟩
    · obtain rfl : n = k := by omega
      have f1 : ¬ (n : Int) < (n : Nat) := by omega
      have HXS : Hid (xs = l.map (Pl.tkeep names)) := by show _ = _; rw [HX.out, List.take_of_length_le (by rw [HLN.out]; exact Nat.le_refl _)]
      have CC := combined_c xs AA nn cc W _ ((HS.out.sl 0 rfl).weak (HS.out.sl 0 rfl).olt) (Nat.le_refl _) (fun y hy => by
        rw [HXS.out] at hy
        obtain ⟨z, hz, rfl⟩ := List.mem_map.1 hy
        exact Pl.totOk_keep names (HOK.out z hz)) (by omega)
      rw [HXS.out] at CC
      go_wp2_with (go_at_call 59; (with_reducible refine CC.mono ?_); clear CC; rintro e w6 ⟨A6, n6, c6, f6, rfl, k1, k2, k3, k4⟩)
      rw [HF.out]
      go_ret2
      exact ⟨A6, n6, c6, f6, rfl, k1, k2, fun b hb => Nat.le_trans HS.out.bel0.size (k3 b hb), below_step HS.out.bel0 k4⟩
set_option maxRecDepth 100000 in
set_option maxHeartbeats 1000000 in
theorem implCoarseTotals_c (l : List Total) (A : Option Addr) (n c : Nat) (names : List ByteArray) (A' : Option Addr) (n' c' : Nat) (w : World) (B : Nat) (hl : Mm.SlAt rTotal w B l A n c) (hs : Mm.SlAt Mm.str w B names A' n' c') (hB : B ≤ w.heap.size) :
    Calls Try.prog 39 #[.slice A n c, .slice A' n' c'] w (Mm.RetS2 rTotal 50 w (Pl.tcoarse l names).1 (Pl.tcoarse l names).2) := by
  have HL := Lib.hid hl
  have HNM := Lib.hid hs
  have HLN : Hid (l.length = n) := hl.1
  have HNL : Hid (names.length = n') := hs.1
  have hnm : n' ≤ maxLen := Nat.le_trans hs.2.1 hs.2.2.1
  unfold maxLen at hnm
  clear hl hs
  have CA := areTotals_c l A n c w B HL.out hB
  cases hca : Pl.totalsOk l with
  | false =>
    have HF : Hid (Pl.tcoarse l names = ([], false)) := if_neg (by rw [hca]; simp)
    rw [hca] at CA
    clear hca
    go_enter Try.func39, Try.ntmps39
    go_wp2_with (go_at_call 51; (with_reducible refine CA.mono ?_); rintro e w1 ⟨rfl, hb1⟩)
    rw [HF.out]
    go_ret2
    exact (Mm.Acc.nil hb1).ret
  | true =>
  rw [hca] at CA
  by_cases hn6 : n' ≤ 6
  · skip
    (exact implCoarseOk l A n c names A' n' c' w B HL HNM hB HLN HNL hn6 hca CA)
  · have HF : Hid (Pl.tcoarse l names = ([], false)) := if_neg (by rw [HNL.out]; simp [hn6])
    have f0 : (6 : Int) < (n' : Nat) := by omega
    clear hca
    go_enter Try.func39, Try.ntmps39
    go_wp2_with (go_at_call 51; (with_reducible refine CA.mono ?_); rintro e w1 ⟨rfl, hb1⟩)
    rw [HF.out]
    go_ret2
    exact (Mm.Acc.nil hb1).ret
set_option maxRecDepth 100000 in
set_option maxHeartbeats 1000000 in
theorem specCoarseOk (l : List Total) (A : Option Addr) (n c : Nat) (names : List ByteArray) (A' : Option Addr) (n' c' : Nat) (w : World) (B : Nat) (HL : Hid (Mm.SlAt rTotal w B l A n c)) (HNM : Hid (Mm.SlAt Mm.str w B names A' n' c')) (hB : B ≤ w.heap.size) (HLN : Hid (l.length = n)) (HNL : Hid (names.length = n')) (hn6 : n' ≤ 6) (hca : Pl.totalsOk l = true)
    (CA : Calls Try.prog 47 #[.slice A n c] w fun e w' => e = .returned (.bool true) ∧ Below w.heap.size w w') :
    Calls Try.prog 37 #[.slice A n c, .slice A' n' c'] w (Mm.RetS2 rTotal 50 w (Pl.tcoarse l names).1 (Pl.tcoarse l names).2) := by
  have HF : Hid (Pl.tcoarse l names = Pl.tgood (Pl.tcomb (l.map (Pl.tkeep names)))) := if_pos (by rw [hca, HNL.out]; simpa using hn6)
  have hn40 : n ≤ 40 := by have := Pl.totalsOk_len hca; have := HLN.out; omega
  have HOK := Lib.hid (Pl.totalsOk_all hca)
  clear hca
  have f0 : ¬ (6 : Int) < (n' : Nat) := by omega
  go_enter Try.func37, Try.ntmps37
  go_wp2_with (go_at_call 47; (with_reducible refine CA.mono ?_); clear CA; rintro e w0 ⟨rfl, hb0⟩)
  have HB0 := Lib.hid hb0
  clear hb0
  go_loopg [6, 19] n (fun g o i wr => ∃ (k nn cc : Nat) (AA : Option Addr) (fp : List Nat) (xs : List Total), n - k ≤ g ∧ k ≤ n ∧ i = .int .i64 k ∧ o = .slice AA nn cc ∧ Hid (nn = xs.length) ∧ Hid (xs = Pl.tcomb ((l.map (Pl.tkeep names)).take k)) ∧ Hid (Mm.SepF [] w wr [Mm.tsl rTotal 50 xs (.slice AA nn cc) fp]))
  case atStart => exact ⟨0, 0, 0, none, [], [], Nat.le_refl _, Nat.zero_le _, rfl, rfl, rfl, rfl, (Mm.SepF.start w).add HB0.out (t := Mm.tsl rTotal 50 [] (.slice none 0 0) []) Mm.SlOwn.nil List.nodup_nil (fun b hb => by cases hb)⟩
  case round =>
    obtain ⟨k, nn, cc, AA, fp, xs, hgk, hk, rfl, rfl, HN, HX, HS⟩ := hrel
    obtain ⟨W, rfl⟩ : ∃ W : World, W = wr := ⟨_, rfl⟩
    have HOK2 : Hid (∀ y, y ∈ l.map (Pl.tkeep names) → Pl.totOk y = true) := fun y hy => by
      obtain ⟨z, hz, rfl⟩ := List.mem_map.1 hy
      exact Pl.totOk_keep names (HOK.out z hz)
    have hT : Pl.TOk k xs := by rw [HX.out]; exact Pl.TOk.comb HOK2.out k (by rw [List.length_map, HLN.out]; exact hk)
    have HT := Lib.hid hT
    clear hT
    by_cases hlt : k < n
    · have f1 : (k : Int) < (n : Nat) := by omega
      have f2 : (0 : Int) ≤ (k : Nat) := by omega
      have f3 : ((k : Nat) : Int).toNat = k := by omega
      obtain ⟨x, bb, off, A2, n2, c2, hx, rfl, hbb, hlb, i1, i2, i3, i4, e0, e1, e2, e3, e4⟩ := rTotal_get (HL.out.keep (w' := W) fun b hb => HS.out.bel0.block b (Nat.lt_of_lt_of_le hb hB)) hlt
      have HTX := Lib.hid (HOK.out x (List.mem_of_getElem? hx))
      have HNX := Lib.hid (Pl.tcomb_next (l := l.map (Pl.tkeep names)) (k := k) (x := Pl.tkeep names x) (by rw [List.getElem?_map, hx]; rfl))
      have HLB := Lib.hid hlb
      have hn2 : n2 ≤ 6 := by have := Pl.labelsOk_len (Pl.totOk_lab HTX.out); have := hlb.1; omega
      clear hx hlb i1 i2 i3 i4
      obtain ⟨gt, hgt⟩ : ∃ gt, W.heap.size = gt := ⟨_, rfl⟩
      obtain ⟨W1, hW1⟩ : ∃ W1, W.alloc (.cells #[.slice A2 n2 c2, .int .i64 x.Sum, .int .i64 x.Count, .int .i64 x.Least, .int .i64 x.Most] 50) = W1 := ⟨_, rfl⟩
      have HS1 := Lib.hid ((HS.out.alloc' hgt 50 [.slice A2 n2 c2, .int .i64 x.Sum, .int .i64 x.Count, .int .i64 x.Least, .int .i64 x.Most]).atW hW1)
      have hB1 : Below W.heap.size W W1 := by rw [← hW1]; exact below_new (Below.refl _ _) _
      have hBW : B ≤ W.heap.size := Nat.le_trans hB HS.out.bel0.size
      have CK := l14Keep_c x.Labels A2 n2 c2 names A' n' c' W1 B (HLB.out.keep fun b hb => hB1.block b (Nat.lt_of_lt_of_le hb hBW)) (HNM.out.keep fun b hb => HS1.out.bel0.block b (Nat.lt_of_lt_of_le hb hB)) (Nat.le_trans hBW hB1.size) (by omega)
      have s0 := HS1.out.cell (k := 0) 0 rfl rfl
      go_upto_region 7 with fail
      clear hW1 hB1 HS e0 e1 e2 e3 e4
      go_upto_region 8 with (go_at_call 66; (with_reducible refine CK.mono ?_); clear CK; rintro e w4 ⟨A3, n3, c3, fp3, rfl, ho, hnd, hnew, hb4⟩; (have HS4 := Lib.hid (HS1.out.add hb4 (t := Mm.tsl rLabel 97 (Pl.keepL x.Labels names) (.slice A3 n3 c3) fp3) ho hnd hnew)); clear ho hnd hnew hb4 s0; (have s0 := HS4.out.cell (k := 0) 1 rfl rfl); (have z0 := HS4.out.frz (k := 0) 1 rfl))
      obtain ⟨W5, hW5⟩ : ∃ W5, w4.setCell ⟨gt, 0, none⟩ (.slice A3 n3 c3) = W5 := ⟨_, rfl⟩
      have HS5 := Lib.hid ((HS4.out.setBlk (k := 0) 1 rfl (.slice A3 n3 c3)).atW hW5)
      rw [hW5]
      clear hW5 s0 z0 HS4
      have t0 := HS5.out.cell (k := 0) 1 rfl rfl
      have t1 := HS5.out.cell (k := 1) 1 rfl rfl
      have t2 := HS5.out.cell (k := 2) 1 rfl rfl
      have t3 := HS5.out.cell (k := 3) 1 rfl rfl
      have t4 := HS5.out.cell (k := 4) 1 rfl rfl
      have CP : Calls Try.prog 58 #[.slice AA nn cc, .agg #[.slice A3 n3 c3, .int .i64 x.Sum, .int .i64 x.Count, .int .i64 x.Least, .int .i64 x.Most]] W5 (PutAns fp (Pl.tput xs (Pl.tkeep names x)) W5) := l14Put_c xs k (Pl.tkeep names x) AA A3 nn cc n3 c3 fp W5 W5.heap.size (HS5.out.sl 2 rfl) (HS5.out.ndat (i := 2) rfl) HT.out (by omega) ((HS5.out.sl 0 rfl).weak (HS5.out.sl 0 rfl).olt) (Nat.le_refl _) (Pl.totOk_keep names HTX.out)
      go_wp2_with (go_at_call 58; (with_reducible refine CP.mono ?_); clear CP; rintro e w6 ⟨A6, n6, c6, fp6, rfl, hS6⟩; (have HS6 := Lib.hid (HS5.out.callAll 2 rfl hS6)); clear hS6)
      have hn6' : n6 = (Pl.tput xs (Pl.tkeep names x)).length := by obtain ⟨_, _, _, hv, q1, _⟩ := (HS6.out.sl 3 rfl).form; injection hv with _ q2 _; omega
      go_roundg (n - (k + 1))
      case measure => omega
      case rel => exact ⟨k + 1, n6, c6, A6, fp6, _, Nat.le_refl _, by omega, by go_num, rfl, hn6', (by show _ = _; rw [HNX.out, HX.out]), HS6.out.sel [3] (by decide) rfl⟩
    · obtain rfl : n = k := by omega
      have f1 : ¬ (n : Int) < (n : Nat) := by omega
      have hxs : xs = Pl.tcomb (l.map (Pl.tkeep names)) := by rw [HX.out, List.take_of_length_le (by rw [List.length_map, HLN.out]; exact Nat.le_refl _)]
      have CG := GoodTotals_c xs AA nn cc W _ ((HS.out.sl 0 rfl).weak (HS.out.sl 0 rfl).olt) (Nat.le_refl _)
      obtain ⟨gd, hgd⟩ : ∃ gd, Pl.totalsOk xs = gd := ⟨_, rfl⟩
      rw [hgd] at CG
      cases gd with
      | false =>
        have HG : Hid (Pl.tcoarse l names = ([], false)) := by show _ = _; rw [HF.out, ← hxs]; unfold Pl.tgood; rw [hgd]; rfl
        clear hxs hgd
        go_wp2_with (go_at_call 47; (with_reducible refine CG.mono ?_); clear CG; rintro e w1 ⟨rfl, hb1⟩)
        go_ret2
        rw [HG.out]
        exact (Mm.Acc.nil (below_step HS.out.bel0 hb1)).ret
      | true =>
        have HG : Hid (Pl.tcoarse l names = (xs, true)) := by show _ = _; rw [HF.out, ← hxs]; unfold Pl.tgood; rw [hgd]; rfl
        clear hxs hgd
        go_wp2_with (go_at_call 47; (with_reducible refine CG.mono ?_); clear CG; rintro e w1 ⟨rfl, hb1⟩)
        go_ret2
        rw [HG.out]
        have HS2 := HS.out.step hb1
        exact ⟨_, _, _, fp, rfl, HS2.sl 0 rfl, HS2.ndat (i := 0) rfl, fun b hb => (HS2.new b (by simpa [Mm.tsl] using hb)).resolve_left (fun h => by cases h), HS2.bel0⟩
set_option maxRecDepth 100000 in
set_option maxHeartbeats 1000000 in
theorem specCoarseTotals_c (l : List Total) (A : Option Addr) (n c : Nat) (names : List ByteArray) (A' : Option Addr) (n' c' : Nat) (w : World) (B : Nat) (hl : Mm.SlAt rTotal w B l A n c) (hs : Mm.SlAt Mm.str w B names A' n' c') (hB : B ≤ w.heap.size) :
    Calls Try.prog 37 #[.slice A n c, .slice A' n' c'] w (Mm.RetS2 rTotal 50 w (Pl.tcoarse l names).1 (Pl.tcoarse l names).2) := by
  have HL := Lib.hid hl
  have HNM := Lib.hid hs
  have HLN : Hid (l.length = n) := hl.1
  have HNL : Hid (names.length = n') := hs.1
  have hnm : n' ≤ maxLen := Nat.le_trans hs.2.1 hs.2.2.1
  unfold maxLen at hnm
  clear hl hs
  have CA := GoodTotals_c l A n c w B HL.out hB
  cases hca : Pl.totalsOk l with
  | false =>
    have HF : Hid (Pl.tcoarse l names = ([], false)) := if_neg (by rw [hca]; simp)
    rw [hca] at CA
    clear hca
    go_enter Try.func37, Try.ntmps37
    go_wp2_with (go_at_call 47; (with_reducible refine CA.mono ?_); rintro e w1 ⟨rfl, hb1⟩)
    rw [HF.out]
    go_ret2
    exact (Mm.Acc.nil hb1).ret
  | true =>
  rw [hca] at CA
  by_cases hn6 : n' ≤ 6
  · skip
    (exact specCoarseOk l A n c names A' n' c' w B HL HNM hB HLN HNL hn6 hca CA)
  · have HF : Hid (Pl.tcoarse l names = ([], false)) := if_neg (by rw [HNL.out]; simp [hn6])
    have f0 : (6 : Int) < (n' : Nat) := by omega
    clear hca
    go_enter Try.func37, Try.ntmps37
    go_wp2_with (go_at_call 47; (with_reducible refine CA.mono ?_); rintro e w1 ⟨rfl, hb1⟩)
    rw [HF.out]
    go_ret2
    exact (Mm.Acc.nil hb1).ret
end Go.Proofs.Ytnppcdiicnofpaa

/-
  Plain items, and contracts: which items are good, the program's and the reference's. No conditions.
-/
namespace Go.Proofs.Ytnppcdiicnofpaa
open Go.RowKit
attribute [local go_sem] und_cell World.cell?_alloc_some
namespace Pl
def itemOk (x : Item) : Bool := labelsOk x.Labels && isIn x.Value (-1000000) 1000000
def itemsOk (l : List Item) : Bool := l.all itemOk && decide (l.length ≤ 40)
def titem (names : List ByteArray) (x : Item) : Total := ⟨keepL x.Labels names, x.Value, 1, x.Value, x.Value⟩
def tby (l : List Item) (names : List ByteArray) : List Total × Bool := if (itemsOk l && decide (names.length ≤ 6)) = true then (tcomb (l.map (titem names)), true) else ([], false)
theorem itemOk_iff {x : Item} : itemOk x = true ↔ labelsOk x.Labels = true ∧ -1000000 ≤ x.Value ∧ x.Value ≤ 1000000 := by
  unfold itemOk
  rw [Bool.and_eq_true, isIn_if]
theorem itemsOk_iff {l : List Item} : itemsOk l = true ↔ (∀ x, x ∈ l → itemOk x = true) ∧ l.length ≤ 40 := by
  unfold itemsOk
  rw [Bool.and_eq_true, List.all_eq_true, decide_eq_true_eq]
theorem totOk_item {x : Item} (names : List ByteArray) (h : itemOk x = true) : totOk (titem names x) = true := by
  obtain ⟨h1, h2, h3⟩ := itemOk_iff.1 h
  exact totOk_iff.2 ⟨labelsOk_keep names h1, ⟨by show (1 : Int) ≤ 1; omega, by show (1 : Int) ≤ 1000; omega⟩, ⟨by show _ ≤ x.Value; omega, by show x.Value ≤ _; omega⟩, ⟨by show _ ≤ x.Value; omega, Int.le_refl _⟩, h3⟩
theorem totalsOk_mk {l : List Total} (hs : TSort l) (h : ∀ x, x ∈ l → totOk x = true) (hl : l.length ≤ 40) : totalsOk l = true := by
  unfold totalsOk
  rw [Bool.and_eq_true, decide_eq_true_eq]
  refine ⟨allB_iff.2 fun k hk => ?_, hl⟩
  have hx := List.getElem?_eq_getElem hk
  unfold totP totQ
  rw [totAt_of hx, Bool.and_eq_true, Bool.or_eq_true, decide_eq_true_eq]
  refine ⟨h _ (List.getElem_mem hk), ?_⟩
  rcases Nat.eq_zero_or_pos k with h0 | h0
  · exact .inl h0
  · right
    have hz := List.getElem?_eq_getElem (show k - 1 < l.length by omega)
    rw [totAt_of hz]
    exact hs (k - 1) k _ _ (by omega) hz hx
/-- as many as have been counted, each small -/
def Few (b : Nat) (l : List Total) : Prop := ∀ x, x ∈ l → -1000000 * x.Count ≤ x.Sum ∧ x.Sum ≤ 1000000 * x.Count ∧ x.Count ≤ b
theorem Few.put {b : Nat} {l : List Total} {names : List ByteArray} {y : Item} (h : Few b l) (hy : itemOk y = true) : Few (b + 1) (tput l (titem names y)) := by
  obtain ⟨_, h2, h3⟩ := itemOk_iff.1 hy
  intro x hx
  rcases tput_mem hx with hx | rfl | ⟨o, ho, rfl⟩
  · have := h x hx
    refine ⟨this.1, this.2.1, ?_⟩
    have := this.2.2
    omega
  · refine ⟨?_, ?_, ?_⟩
    · show -1000000 * (1 : Int) ≤ y.Value; omega
    · show y.Value ≤ 1000000 * (1 : Int); omega
    · show (1 : Int) ≤ _; omega
  · have := h o ho
    refine ⟨?_, ?_, ?_⟩
    · show -1000000 * (o.Count + 1) ≤ o.Sum + y.Value; omega
    · show o.Sum + y.Value ≤ 1000000 * (o.Count + 1); omega
    · show o.Count + 1 ≤ _; omega
theorem Few.comb {l : List Item} (names : List ByteArray) (hl : ∀ x, x ∈ l → itemOk x = true) : ∀ k, k ≤ l.length → Few k (tcomb ((l.map (titem names)).take k))
  | 0, _ => fun x hx => by cases hx
  | k + 1, hk => by
    have hx : (l.map (titem names))[k]? = some (titem names l[k]) := by rw [List.getElem?_map, List.getElem?_eq_getElem (by omega)]; rfl
    rw [tcomb_next hx]
    exact (Few.comb names hl k (by omega)).put (hl _ (List.getElem_mem _))
theorem items_tok {l : List Item} (names : List ByteArray) (h : itemsOk l = true) : ∀ y, y ∈ l.map (titem names) → totOk y = true := fun y hy => by
  obtain ⟨x, hx, rfl⟩ := List.mem_map.1 hy
  exact totOk_item names ((itemsOk_iff.1 h).1 x hx)
theorem tby_good {l : List Item} (names : List ByteArray) (h : itemsOk l = true) : totalsOk (tcomb (l.map (titem names))) = true := by
  obtain ⟨h1, h2⟩ := itemsOk_iff.1 h
  have hT := TOk.comb (items_tok names h) l.length (by rw [List.length_map]; exact Nat.le_refl _)
  have hF := Few.comb names h1 l.length (Nat.le_refl _)
  rw [List.take_of_length_le (by rw [List.length_map]; exact Nat.le_refl _)] at hT hF
  refine totalsOk_mk hT.sort (fun x hx => ?_) (Nat.le_trans hT.len h2)
  have a := hT.cnt x hx
  have b := hF x hx
  have c := hT.least x hx
  refine totOk_iff.2 ⟨hT.lab x hx, ⟨a.1, ?_⟩, ⟨?_, ?_⟩, ⟨c.1, c.2.1⟩, c.2.2⟩ <;> omega
theorem itemsOk_next {l : List Item} {k : Nat} {x : Item} (h : l[k]? = some x) : (l.take (k + 1)).all itemOk = ((l.take k).all itemOk && itemOk x) := by
  obtain ⟨hk, hx⟩ := List.getElem?_eq_some_iff.1 h
  rw [List.take_succ_eq_append_getElem hk, hx, List.all_append]
  simp
end Pl
theorem inItem_is {n a b : Int} {r : Bool} (h : Pl.isIn n a b = r) (w : World) : Calls Try.prog 52 #[.int .i64 n, .int .i64 a, .int .i64 b] w fun e w' => e = .returned (.bool r) ∧ w = w' := h ▸ within_c n a b w
theorem l1Item_is {n a b : Int} {r : Bool} (h : Pl.isIn n a b = r) (w : World) : Calls Try.prog 48 #[.int .i64 n, .int .i64 a, .int .i64 b] w fun e w' => e = .returned (.bool r) ∧ w = w' := h ▸ l1In_c n a b w
theorem itemBad_c (x : Item) (A2 : Option Addr) (n2 c2 : Nat) (w : World) (B : Nat) (hl : Mm.SlAt rLabel w B x.Labels A2 n2 c2) (hB : B ≤ w.heap.size) :
    Calls Try.prog 92 #[.agg #[.slice A2 n2 c2, .int .i64 x.Value]] w fun e w' => e = .returned (.bool (!Pl.itemOk x)) ∧ Below w.heap.size w w' := by
  obtain ⟨W1, hW1⟩ : ∃ W1, w.alloc (.cells #[.slice A2 n2 c2, .int .i64 x.Value] 91) = W1 := ⟨_, rfl⟩
  obtain ⟨gt, hgt⟩ : ∃ gt, w.heap.size = gt := ⟨_, rfl⟩
  have hB1 : Below w.heap.size w W1 := by rw [← hW1]; exact below_new (Below.refl _ _) _
  have hnb : Mm.Blk W1 gt 91 [.slice A2 n2 c2, .int .i64 x.Value] := by rw [← hW1, ← hgt]; exact Mm.Blk.new w _ _
  have CL := areLabels_c x.Labels A2 n2 c2 W1 B (hl.keep fun b hb => hB1.block b (Nat.lt_of_lt_of_le hb hB)) (Nat.le_trans hB hB1.size)
  have HNB := Lib.hid hnb
  have HB1 := Lib.hid hB1
  have t0 : W1.cell? ⟨gt, 0, none⟩ = some (.slice A2 n2 c2) := hnb.cell rfl
  clear hl hnb hB1
  cases h1 : Pl.labelsOk x.Labels with
  | false =>
    rw [h1] at CL
    have HN : Hid ((!Pl.itemOk x) = true) := by show _ = _; unfold Pl.itemOk; rw [h1]; rfl
    clear h1
    go_enter Try.func92, Try.ntmps92
    go_wp2_with (go_at_call 70; (with_reducible refine CL.mono ?_); clear CL; rintro e w2 ⟨rfl, hb2⟩)
    rw [HN.out]
    go_ret
    exact ⟨rfl, below_step HB1.out hb2⟩
  | true =>
    rw [h1] at CL
    obtain ⟨bi, h2⟩ : ∃ bi, Pl.isIn x.Value (-1000000) 1000000 = bi := ⟨_, rfl⟩
    have HN : Hid ((!Pl.itemOk x) = !bi) := by show _ = _; unfold Pl.itemOk; rw [h1, h2, Bool.true_and]
    have H2 := Lib.hid h2
    clear h1 h2
    rw [HN.out]
    go_enter Try.func92, Try.ntmps92
    go_wp2_with first
      | (go_at_call 70; (with_reducible refine CL.mono ?_); clear CL; rintro e w2 ⟨rfl, hb2⟩; (have t1 := (HNB.out.bel hb2).cell (show [Value.slice A2 n2 c2, Value.int .i64 x.Value][1]? = some _ from rfl)))
      | (go_at_call 52; (with_reducible refine (inItem_is H2.out _).mono ?_); rintro e w' ⟨rfl, rfl⟩)
    cases bi <;> (go_ret; exact ⟨rfl, below_step HB1.out hb2⟩)
set_option maxRecDepth 100000 in
theorem itemFind_c (l : List Item) (A : Option Addr) (n c : Nat) (w : World) (B : Nat) (hl : Mm.SlAt rItem w B l A n c) (hB : B ≤ w.heap.size) :
    Calls Try.prog 108 #[.slice A n c, .func (Fn.func 92) #[] #[]] w fun e w' => ∃ i : Int, e = .returned (.int .i64 i) ∧ (l.all Pl.itemOk = decide (i < 0)) ∧ Below w.heap.size w w' := by
  have hn : n ≤ 9223372036854775807 := by have := hl.2.1; have := hl.2.2.1; unfold maxLen at this; omega
  have HLN : Hid (l.length = n) := hl.1
  have HL := Lib.hid hl
  clear hl
  go_enter Try.func108, Try.ntmps108
  go_wp2
  go_loopg [5, 8] n (fun g _ i wr => ∃ k : Nat, n - k ≤ g ∧ k ≤ n ∧ i = .int .i64 k ∧ Hid ((l.take k).all Pl.itemOk = true) ∧ Hid (Below w.heap.size w wr))
  case atStart => exact ⟨0, Nat.le_refl _, Nat.zero_le _, rfl, rfl, Below.refl _ _⟩
  case round =>
    obtain ⟨k, hgk, hk, rfl, HA, HB⟩ := hrel
    obtain ⟨W, rfl⟩ : ∃ W : World, W = wr := ⟨_, rfl⟩
    by_cases hlt : k < n
    · obtain ⟨x, b, off, A2, n2, c2, hx, rfl, hb, hlb, i1, e0, e1⟩ := rItem_get (HL.out.keep (w' := W) fun b hb => HB.out.block b (Nat.lt_of_lt_of_le hb hB)) hlt
      have C := itemBad_c x A2 n2 c2 W B hlb (Nat.le_trans hB HB.out.size)
      have HX := Lib.hid (And.intro (List.mem_of_getElem? hx) (Pl.itemsOk_next hx))
      have f1 : (k : Int) < (n : Nat) := by omega
      have f2 : (0 : Int) ≤ (k : Nat) := by omega
      have f3 : ((k : Nat) : Int).toNat = k := by omega
      clear hx hlb i1
      cases hs : Pl.itemOk x with
      | true =>
        rw [hs] at C
        have HS := Lib.hid hs
        clear hs
        go_wp2_with (go_at_call 92; (with_reducible refine C.mono ?_); clear C; rintro e w1 ⟨rfl, hb1⟩)
        go_roundg (n - (k + 1))
        case measure => omega
        case rel => exact ⟨k + 1, Nat.le_refl _, by omega, by go_num, (by show _ = _; rw [HX.out.2, HA.out, HS.out]; rfl), below_step HB.out hb1⟩
      | false =>
        rw [hs] at C
        have HS := Lib.hid hs
        clear hs
        go_wp2_with (go_at_call 92; (with_reducible refine C.mono ?_); clear C; rintro e w1 ⟨rfl, hb1⟩)
        go_ret
        refine ⟨_, rfl, ?_, below_step HB.out hb1⟩
        rw [decide_eq_false (by omega), ← Bool.not_eq_true, List.all_eq_true]
        intro h
        have := h x HX.out.1
        rw [HS.out] at this; cases this
    · have HK : Hid (l.all Pl.itemOk = true) := by
        have h9 := HA.out
        rw [List.take_of_length_le (by rw [HLN.out]; omega)] at h9
        exact h9
      go_wp2
      go_ret
      exact ⟨_, rfl, by rw [HK.out]; rfl, HB.out⟩
theorem areItems_c (l : List Item) (A : Option Addr) (n c : Nat) (w : World) (B : Nat) (hl : Mm.SlAt rItem w B l A n c) (hB : B ≤ w.heap.size) :
    Calls Try.prog 64 #[.slice A n c] w fun e w' => e = .returned (.bool (Pl.itemsOk l)) ∧ Below w.heap.size w w' := by
  have HLN : Hid (l.length = n) := hl.1
  have C1 : Calls Try.prog 91 #[.slice A n c, .func (Fn.func 92) #[] #[]] w fun e w' => e = .returned (.bool (!l.all Pl.itemOk)) ∧ Below w.heap.size w w' := by
    have C := itemFind_c l A n c w B hl hB
    obtain ⟨ba, hba⟩ : ∃ ba, l.all Pl.itemOk = ba := ⟨_, rfl⟩
    rw [hba] at C ⊢
    clear hba hl
    go_enter Try.func91, Try.ntmps91
    go_wp2_with (go_at_call 108; (with_reducible refine C.mono ?_); clear C; rintro e w1 ⟨i, rfl, hi, hb1⟩)
    have hq : decide ((0 : Int) ≤ i) = !ba := by
      rw [hi]
      by_cases h : i < 0
      · rw [decide_eq_true h, decide_eq_false (by omega)]; rfl
      · rw [decide_eq_false h, decide_eq_true (by omega)]; rfl
    go_ret
    exact ⟨ret_bool hq, hb1⟩
  obtain ⟨ba, hba⟩ : ∃ ba, l.all Pl.itemOk = ba := ⟨_, rfl⟩
  rw [hba] at C1
  have HN : Hid (Pl.itemsOk l = (ba && decide (n ≤ 40))) := by show _ = _; unfold Pl.itemsOk; rw [hba, HLN.out]
  clear hba hl
  by_cases h40 : n ≤ 40
  · have HN2 : Hid (Pl.itemsOk l = ba) := by show _ = _; rw [HN.out, decide_eq_true h40, Bool.and_true]
    have f1 : (n : Int) ≤ 40 := by omega
    rw [HN2.out]
    go_enter Try.func64, Try.ntmps64
    go_wp2_with (go_at_call 91; (with_reducible refine C1.mono ?_); clear C1; rintro e w1 ⟨rfl, hb1⟩)
    cases ba <;> (go_ret; exact ⟨rfl, hb1⟩)
  · have HN2 : Hid (Pl.itemsOk l = false) := by show _ = _; rw [HN.out, decide_eq_false h40, Bool.and_false]
    have f1 : decide ((n : Int) ≤ 40) = false := by simp; omega
    rw [HN2.out]
    go_enter Try.func64, Try.ntmps64
    go_wp2
    go_ret
    exact ⟨rfl, Below.refl _ _⟩
set_option maxRecDepth 100000 in
theorem GoodItems_c (l : List Item) (A : Option Addr) (n c : Nat) (w : World) (B : Nat) (hl : Mm.SlAt rItem w B l A n c) (hB : B ≤ w.heap.size) :
    Calls Try.prog 28 #[.slice A n c] w fun e w' => e = .returned (.bool (Pl.itemsOk l)) ∧ Below w.heap.size w w' := by
  have HL := Lib.hid hl
  have HLN : Hid (l.length = n) := hl.1
  have hnm : n ≤ maxLen := Nat.le_trans hl.2.1 hl.2.2.1
  unfold maxLen at hnm
  clear hl
  go_enter Try.func28, Try.ntmps28
  go_wp2
  go_loopg [7] n (fun g i wr => ∃ k : Nat, n - k ≤ g ∧ k ≤ n ∧ i = .int .i64 k ∧ Hid (Below w.heap.size w wr) ∧ Hid ((l.take k).all Pl.itemOk = true))
  case atStart => exact ⟨0, Nat.le_refl _, Nat.zero_le _, rfl, Below.refl _ _, rfl⟩
  case round =>
    obtain ⟨k, hgk, hk, rfl, HB, HA⟩ := hrel
    obtain ⟨W, rfl⟩ : ∃ W : World, W = wr := ⟨_, rfl⟩
    by_cases hlt : k < n
    · obtain ⟨x, b, off, A2, n2, c2, hx, rfl, hb, hlb, i1, e0, e1⟩ := rItem_get (HL.out.keep (w' := W) fun b hb => HB.out.block b (Nat.lt_of_lt_of_le hb hB)) hlt
      have HX := Lib.hid (And.intro (List.mem_of_getElem? hx) (Pl.itemsOk_next hx))
      have hbw : B ≤ W.heap.size := Nat.le_trans hB HB.out.size
      obtain ⟨W1, hW1⟩ : ∃ W1, W.alloc (.cells #[.slice A2 n2 c2, .int .i64 x.Value] 91) = W1 := ⟨_, rfl⟩
      obtain ⟨gt, hgt⟩ : ∃ gt, W.heap.size = gt := ⟨_, rfl⟩
      have hB1 : Below W.heap.size W W1 := by rw [← hW1]; exact below_new (Below.refl _ _) _
      have hnb : Mm.Blk W1 gt 91 [.slice A2 n2 c2, .int .i64 x.Value] := by rw [← hW1, ← hgt]; exact Mm.Blk.new W _ _
      have CL := GoodLabels_c x.Labels A2 n2 c2 W1 B (hlb.keep fun b hb => hB1.block b (Nat.lt_of_lt_of_le hb hbw)) (Nat.le_trans hbw hB1.size)
      have HNB := Lib.hid hnb
      have HB1 := Lib.hid (below_step HB.out hB1)
      have t0 : W1.cell? ⟨gt, 0, none⟩ = some (.slice A2 n2 c2) := hnb.cell rfl
      have f1 : (k : Int) < (n : Nat) := by omega
      have f2 : (0 : Int) ≤ (k : Nat) := by omega
      have f3 : ((k : Nat) : Int).toNat = k := by omega
      clear hx hlb i1 hnb
      go_upto_region 4 with fail
      clear hW1 hB1 e0 e1
      cases h1 : Pl.labelsOk x.Labels with
      | false =>
        rw [h1] at CL
        have HN : Hid (Pl.itemsOk l = false) := by
          show _ = _
          rw [← Bool.not_eq_true, Pl.itemsOk_iff]
          rintro ⟨h2, _⟩
          have := (Pl.itemOk_iff.1 (h2 x HX.out.1)).1
          rw [h1] at this; cases this
        clear h1
        go_wp2_with (go_at_call 67; (with_reducible refine CL.mono ?_); clear CL; rintro e w2 ⟨rfl, hb2⟩)
        rw [HN.out]
        go_ret
        exact ⟨rfl, below_step HB1.out hb2⟩
      | true =>
        rw [h1] at CL
        cases h2 : Pl.isIn x.Value (-1000000) 1000000 with
        | false =>
          have HN : Hid (Pl.itemsOk l = false) := by
            show _ = _
            rw [← Bool.not_eq_true, Pl.itemsOk_iff]
            rintro ⟨h3, _⟩
            have h4 := h3 x HX.out.1
            unfold Pl.itemOk at h4
            rw [h2, Bool.and_false] at h4; cases h4
          have H2 := Lib.hid h2
          clear h1 h2
          go_wp2_with first
            | (go_at_call 67; (with_reducible refine CL.mono ?_); clear CL; rintro e w2 ⟨rfl, hb2⟩; (have t1 := (HNB.out.bel hb2).cell (show [Value.slice A2 n2 c2, Value.int .i64 x.Value][1]? = some _ from rfl)))
            | (go_at_call 48; (with_reducible refine (l1Item_is H2.out _).mono ?_); rintro e w' ⟨rfl, rfl⟩)
          rw [HN.out]
          go_ret
          exact ⟨rfl, below_step HB1.out hb2⟩
        | true =>
          have HN : Hid ((l.take (k + 1)).all Pl.itemOk = true) := by show _ = _; rw [HX.out.2, HA.out]; unfold Pl.itemOk; rw [h1, h2]; rfl
          have H2 := Lib.hid h2
          clear h1 h2
          go_wp2_with first
            | (go_at_call 67; (with_reducible refine CL.mono ?_); clear CL; rintro e w2 ⟨rfl, hb2⟩; (have t1 := (HNB.out.bel hb2).cell (show [Value.slice A2 n2 c2, Value.int .i64 x.Value][1]? = some _ from rfl)))
            | (go_at_call 48; (with_reducible refine (l1Item_is H2.out _).mono ?_); rintro e w' ⟨rfl, rfl⟩)
          go_roundg (n - (k + 1))
          case measure => omega
          case rel => exact ⟨k + 1, Nat.le_refl _, by omega, by go_num, below_step HB1.out hb2, HN.out⟩
    · obtain rfl : n = k := by omega
      have hall : Pl.itemsOk l = decide ((n : Int) ≤ 40) := by
        have h9 := HA.out
        rw [List.take_of_length_le (by rw [HLN.out]; exact Nat.le_refl _)] at h9
        unfold Pl.itemsOk
        rw [h9, HLN.out, Bool.true_and]
        exact decide_eq_decide.2 (by omega)
      have HN := Lib.hid hall
      have f1 : ¬ (n : Int) < (n : Nat) := by omega
      clear hall
      go_wp2
      go_ret
      rw [HN.out]
      exact ⟨rfl, HB.out⟩
end Go.Proofs.Ytnppcdiicnofpaa

/-
  Contracts: TotalsBy, the program's and the reference's. No conditions.
-/
namespace Go.Proofs.Ytnppcdiicnofpaa
open Go.RowKit
attribute [local go_sem] und_cell World.cell?_alloc_some
set_option maxRecDepth 100000 in
set_option maxHeartbeats 2000000 in
theorem implByOk (l : List Item) (A : Option Addr) (n c : Nat) (names : List ByteArray) (A' : Option Addr) (n' c' : Nat) (w : World) (B : Nat) (HL : Hid (Mm.SlAt rItem w B l A n c)) (HNM : Hid (Mm.SlAt Mm.str w B names A' n' c')) (hB : B ≤ w.heap.size) (HLN : Hid (l.length = n)) (HNL : Hid (names.length = n')) (hn6 : n' ≤ 6) (hca : Pl.itemsOk l = true)
    (CA : Calls Try.prog 64 #[.slice A n c] w fun e w' => e = .returned (.bool true) ∧ Below w.heap.size w w') :
    Calls Try.prog 24 #[.slice A n c, .slice A' n' c'] w (Mm.RetS2 rTotal 50 w (Pl.tby l names).1 (Pl.tby l names).2) := by
  have HF : Hid (Pl.tby l names = (Pl.tcomb (l.map (Pl.titem names)), true)) := if_pos (by rw [hca, HNL.out]; simpa using hn6)
  have hn40 : n ≤ 40 := by have := (Pl.itemsOk_iff.1 hca).2; have := HLN.out; omega
  have HOK := Lib.hid (And.intro (Pl.itemsOk_iff.1 hca).1 (And.intro (Pl.items_tok names hca) (Pl.tby_good names hca)))
  clear hca
  have f0 : ¬ (6 : Int) < (n' : Nat) := by omega
  obtain ⟨i0, hi, hz0, hzs, hzb⟩ := info_parts Try.infoTot
  go_enter Try.func24, Try.ntmps24
  go_wp2_with (go_at_call 64; (with_reducible refine CA.mono ?_); clear CA; rintro e w0 ⟨rfl, hb0⟩)
  have HB0 := Lib.hid hb0
  clear hb0
  go_loopg [6, 19] n (fun g o i wr => ∃ (k nn cc : Nat) (AA : Option Addr) (fp : List Nat) (xs : List Total), n - k ≤ g ∧ k ≤ n ∧ i = .int .i64 k ∧ o = .slice AA nn cc ∧ Hid (nn = xs.length) ∧ Hid (xs = (l.take k).map (Pl.titem names)) ∧ Hid (Mm.SepF [] w wr [Mm.tsl rTotal 50 xs (.slice AA nn cc) fp]))
  case atStart => exact ⟨0, 0, 0, none, [], [], Nat.le_refl _, Nat.zero_le _, rfl, rfl, rfl, rfl, (Mm.SepF.start w).add HB0.out (t := Mm.tsl rTotal 50 [] (.slice none 0 0) []) Mm.SlOwn.nil List.nodup_nil (fun b hb => by cases hb)⟩
  case round =>
    obtain ⟨k, nn, cc, AA, fp, xs, hgk, hk, rfl, rfl, HN, HX, HS⟩ := hrel
    obtain ⟨W, rfl⟩ : ∃ W : World, W = wr := ⟨_, rfl⟩
    have hnk : nn ≤ 40 := by rw [HN.out, HX.out, List.length_map, List.length_take]; omega
    by_cases hlt : k < n
    · have f1 : (k : Int) < (n : Nat) := by omega
      have f2 : (0 : Int) ≤ (k : Nat) := by omega
      have f3 : ((k : Nat) : Int).toNat = k := by omega
      obtain ⟨x, bb, off, A2, n2, c2, hx, rfl, hbb, hlb, i1, e0, e1⟩ := rItem_get (HL.out.keep (w' := W) fun b hb => HS.out.bel0.block b (Nat.lt_of_lt_of_le hb hB)) hlt
      have HTX := Lib.hid (HOK.out.1 x (List.mem_of_getElem? hx))
      have HNX := Lib.hid (Pl.map_next (f := Pl.titem names) hx)
      have HLB := Lib.hid hlb
      have HI := Lib.hid i1
      have hn2 : n2 ≤ 6 := by have := Pl.labelsOk_len (Pl.itemOk_iff.1 HTX.out).1; have := hlb.1; omega
      clear hx hlb i1
      obtain ⟨gt, hgt⟩ : ∃ gt, W.heap.size = gt := ⟨_, rfl⟩
      obtain ⟨W1, hW1⟩ : ∃ W1, W.alloc (.cells #[.slice A2 n2 c2, .int .i64 x.Value] 91) = W1 := ⟨_, rfl⟩
      have HS1 := Lib.hid ((HS.out.alloc' hgt 91 [.slice A2 n2 c2, .int .i64 x.Value]).atW hW1)
      have hB1 : Below W.heap.size W W1 := by rw [← hW1]; exact below_new (Below.refl _ _) _
      have hBW : B ≤ W.heap.size := Nat.le_trans hB HS.out.bel0.size
      have HSD := Lib.hid (HS1.out.step (Below.refl _ _).drew)
      have CK := keepLabels_c x.Labels A2 n2 c2 names A' n' c' W1.drew B (HLB.out.keep fun b hb => hB1.block b (Nat.lt_of_lt_of_le hb hBW)) (HNM.out.keep fun b hb => HSD.out.bel0.block b (Nat.lt_of_lt_of_le hb hB)) (Nat.le_trans hBW hB1.size) (by omega)
      have s0 := HS1.out.cell (k := 0) 0 rfl rfl
      have s1 := HS1.out.cell (k := 1) 0 rfl rfl
      go_upto_region 7 with fail
      clear hW1 hB1 HS e0 e1
      go_region_held3 (fun wx => wx.cell? ⟨gt, 0, none⟩ = some (.slice A2 n2 c2) ∧ wx.cell? ⟨gt, 1, none⟩ = some (.int .i64 x.Value))
        (first | (go_keep; done) | (exact ⟨HS7.out.cell (k := 0) 1 rfl rfl, HS7.out.cell (k := 1) 1 rfl rfl⟩) | (exact ⟨HS4.out.cell (k := 0) 1 rfl rfl, HS4.out.cell (k := 1) 1 rfl rfl⟩) | ((try dsimp only); go_split_ands; refine ⟨?_, ?_⟩ <;> first | (exact HS7.out.cell (k := 0) 1 rfl rfl) | (exact HS7.out.cell (k := 1) 1 rfl rfl) | (exact HS4.out.cell (k := 0) 1 rfl rfl) | (exact HS4.out.cell (k := 1) 1 rfl rfl) | (go_keep; done)))
        (first
          | (go_at_call 65; (with_reducible refine CK.mono ?_); clear CK; rintro e w4 ⟨A3, n3, c3, fp3, rfl, ho, hnd, hnew, hb4⟩; (have HS4 := Lib.hid (HSD.out.add hb4 (t := Mm.tsl rLabel 97 (Pl.keepL x.Labels names) (.slice A3 n3 c3) fp3) ho hnd hnew)); clear ho hnd hnew hb4)
          | (obtain ⟨lc, ho, hnext⟩ := HS4.out.push 2 0 (by decide) rfl rfl (below_new (Below.refl w4.heap.size w4) (.cells #[.slice A3 n3 c3, .int .i64 x.Value, .int .i64 1, .int .i64 x.Value, .int .i64 x.Value] 50)) (x := Pl.titem names x) (cx := [.slice A3 n3 c3, .int .i64 x.Value, .int .i64 1, .int .i64 x.Value, .int .i64 x.Value]) (fun W h => rTotal_own_mk (x := Pl.titem names x) h HI.out (by unfold Mm.I64; show _ ≤ (1 : Int) ∧ (1 : Int) ≤ _; omega) HI.out HI.out); rw [← HN.out] at ho hnext; refine step_append_lies _ (by rfl) _ _ _ (by rfl) 0 50 i0 _ 5 56 Try.underlying27 hi hz0 hzs hzb rfl (by omega) _ nn lc (by rfl) ho ⟨w4.heap.size, 0, none⟩ 1 1 [.slice A3 n3 c3, .int .i64 x.Value, .int .i64 1, .int .i64 x.Value, .int .i64 x.Value] (by rfl) (by rfl) (World.news_of_block (B := w4.heap.size) (cs := #[.slice A3 n3 c3, .int .i64 x.Value, .int .i64 1, .int .i64 x.Value, .int .i64 x.Value]) (t := 50) (fr := (0, 0)) (heap_alloc_new w4 _)) (by simp [Value.oneCell']) (by omega) (by unfold maxLen; omega) (by omega) (Nat.zero_le _) _ rfl ?_; intro gg cap w7 hown1 hgrow hat hlt'; obtain ⟨fp', hs7⟩ := hnext gg cap w7 hown1 hgrow hat; (have HS7 := Lib.hid hs7); clear hs7 hown1 hgrow hat hlt' hnext ho))
      go_wp2
      go_roundg (n - (k + 1))
      case measure => omega
      case rel => exact ⟨k + 1, nn + 1, cap, _, fp', xs ++ [Pl.titem names x], Nat.le_refl _, by omega, by go_num, rfl, (by show _ = _; rw [List.length_append, HN.out]; rfl), (by show _ = _; rw [HNX.out, HX.out]), HS7.out.sel [2] (by decide) rfl⟩
    · obtain rfl : n = k := by omega
      have f1 : ¬ (n : Int) < (n : Nat) := by omega
      have HXS : Hid (xs = l.map (Pl.titem names)) := by show _ = _; rw [HX.out, List.take_of_length_le (by rw [HLN.out]; exact Nat.le_refl _)]
      have CC := combined_c xs AA nn cc W _ ((HS.out.sl 0 rfl).weak (HS.out.sl 0 rfl).olt) (Nat.le_refl _) (fun y hy => by
        rw [HXS.out] at hy
        exact HOK.out.2.1 y hy) (by omega)
      rw [HXS.out, show Pl.tgood (Pl.tcomb (l.map (Pl.titem names))) = (Pl.tcomb (l.map (Pl.titem names)), true) from if_pos HOK.out.2.2] at CC
      go_wp2_with (go_at_call 59; (with_reducible refine CC.mono ?_); clear CC; rintro e w6 ⟨A6, n6, c6, f6, rfl, k1, k2, k3, k4⟩)
      rw [HF.out]
      go_ret2
      exact ⟨A6, n6, c6, f6, rfl, k1, k2, fun b hb => Nat.le_trans HS.out.bel0.size (k3 b hb), below_step HS.out.bel0 k4⟩
set_option maxRecDepth 100000 in
set_option maxHeartbeats 1000000 in
theorem implTotalsBy_c (l : List Item) (A : Option Addr) (n c : Nat) (names : List ByteArray) (A' : Option Addr) (n' c' : Nat) (w : World) (B : Nat) (hl : Mm.SlAt rItem w B l A n c) (hs : Mm.SlAt Mm.str w B names A' n' c') (hB : B ≤ w.heap.size) :
    Calls Try.prog 24 #[.slice A n c, .slice A' n' c'] w (Mm.RetS2 rTotal 50 w (Pl.tby l names).1 (Pl.tby l names).2) := by
  have HL := Lib.hid hl
  have HNM := Lib.hid hs
  have HLN : Hid (l.length = n) := hl.1
  have HNL : Hid (names.length = n') := hs.1
  have hnm : n' ≤ maxLen := Nat.le_trans hs.2.1 hs.2.2.1
  unfold maxLen at hnm
  clear hl hs
  have CA := areItems_c l A n c w B HL.out hB
  cases hca : Pl.itemsOk l with
  | false =>
    have HF : Hid (Pl.tby l names = ([], false)) := if_neg (by rw [hca]; simp)
    rw [hca] at CA
    clear hca
    go_enter Try.func24, Try.ntmps24
    go_wp2_with (go_at_call 64; (with_reducible refine CA.mono ?_); rintro e w1 ⟨rfl, hb1⟩)
    rw [HF.out]
    go_ret2
    exact (Mm.Acc.nil hb1).ret
  | true =>
  rw [hca] at CA
  by_cases hn6 : n' ≤ 6
  · exact implByOk l A n c names A' n' c' w B HL HNM hB HLN HNL hn6 hca CA
  · have HF : Hid (Pl.tby l names = ([], false)) := if_neg (by rw [HNL.out]; simp [hn6])
    have f0 : (6 : Int) < (n' : Nat) := by omega
    clear hca
    go_enter Try.func24, Try.ntmps24
    go_wp2_with (go_at_call 64; (with_reducible refine CA.mono ?_); rintro e w1 ⟨rfl, hb1⟩)
    rw [HF.out]
    go_ret2
    exact (Mm.Acc.nil hb1).ret
set_option maxRecDepth 100000 in
set_option maxHeartbeats 2000000 in
theorem specByOk (l : List Item) (A : Option Addr) (n c : Nat) (names : List ByteArray) (A' : Option Addr) (n' c' : Nat) (w : World) (B : Nat) (HL : Hid (Mm.SlAt rItem w B l A n c)) (HNM : Hid (Mm.SlAt Mm.str w B names A' n' c')) (hB : B ≤ w.heap.size) (HLN : Hid (l.length = n)) (HNL : Hid (names.length = n')) (hn6 : n' ≤ 6) (hca : Pl.itemsOk l = true)
    (CA : Calls Try.prog 28 #[.slice A n c] w fun e w' => e = .returned (.bool true) ∧ Below w.heap.size w w') :
    Calls Try.prog 25 #[.slice A n c, .slice A' n' c'] w (Mm.RetS2 rTotal 50 w (Pl.tby l names).1 (Pl.tby l names).2) := by
  have HF : Hid (Pl.tby l names = (Pl.tcomb (l.map (Pl.titem names)), true)) := if_pos (by rw [hca, HNL.out]; simpa using hn6)
  have hn40 : n ≤ 40 := by have := (Pl.itemsOk_iff.1 hca).2; have := HLN.out; omega
  have HOK := Lib.hid (And.intro (Pl.itemsOk_iff.1 hca).1 (And.intro (Pl.items_tok names hca) (Pl.tby_good names hca)))
  clear hca
  have f0 : ¬ (6 : Int) < (n' : Nat) := by omega
  obtain ⟨i0, hi, hz0, hzs, hzb⟩ := info_parts Try.infoTot
  go_enter Try.func25, Try.ntmps25
  go_wp2_with (go_at_call 28; (with_reducible refine CA.mono ?_); clear CA; rintro e w0 ⟨rfl, hb0⟩)
  have HB0 := Lib.hid hb0
  clear hb0
  go_loopg [6, 19] n (fun g o i wr => ∃ (k nn cc : Nat) (AA : Option Addr) (fp : List Nat) (xs : List Total), n - k ≤ g ∧ k ≤ n ∧ i = .int .i64 k ∧ o = .slice AA nn cc ∧ Hid (nn = xs.length) ∧ Hid (xs = Pl.tcomb ((l.map (Pl.titem names)).take k)) ∧ Hid (Mm.SepF [] w wr [Mm.tsl rTotal 50 xs (.slice AA nn cc) fp]))
  case atStart => exact ⟨0, 0, 0, none, [], [], Nat.le_refl _, Nat.zero_le _, rfl, rfl, rfl, rfl, (Mm.SepF.start w).add HB0.out (t := Mm.tsl rTotal 50 [] (.slice none 0 0) []) Mm.SlOwn.nil List.nodup_nil (fun b hb => by cases hb)⟩
  case round =>
    obtain ⟨k, nn, cc, AA, fp, xs, hgk, hk, rfl, rfl, HN, HX, HS⟩ := hrel
    obtain ⟨W, rfl⟩ : ∃ W : World, W = wr := ⟨_, rfl⟩
    have hT : Pl.TOk k xs := by rw [HX.out]; exact Pl.TOk.comb HOK.out.2.1 k (by rw [List.length_map, HLN.out]; exact hk)
    have HT := Lib.hid hT
    clear hT
    by_cases hlt : k < n
    · have f1 : (k : Int) < (n : Nat) := by omega
      have f2 : (0 : Int) ≤ (k : Nat) := by omega
      have f3 : ((k : Nat) : Int).toNat = k := by omega
      obtain ⟨x, bb, off, A2, n2, c2, hx, rfl, hbb, hlb, i1, e0, e1⟩ := rItem_get (HL.out.keep (w' := W) fun b hb => HS.out.bel0.block b (Nat.lt_of_lt_of_le hb hB)) hlt
      have HTX := Lib.hid (HOK.out.1 x (List.mem_of_getElem? hx))
      have HNX := Lib.hid (Pl.tcomb_next (l := l.map (Pl.titem names)) (k := k) (x := Pl.titem names x) (by rw [List.getElem?_map, hx]; rfl))
      have HLB := Lib.hid hlb
      have HI := Lib.hid i1
      have hn2 : n2 ≤ 6 := by have := Pl.labelsOk_len (Pl.itemOk_iff.1 HTX.out).1; have := hlb.1; omega
      clear hx hlb i1
      obtain ⟨gt, hgt⟩ : ∃ gt, W.heap.size = gt := ⟨_, rfl⟩
      obtain ⟨W1, hW1⟩ : ∃ W1, W.alloc (.cells #[.slice A2 n2 c2, .int .i64 x.Value] 91) = W1 := ⟨_, rfl⟩
      have HS1 := Lib.hid ((HS.out.alloc' hgt 91 [.slice A2 n2 c2, .int .i64 x.Value]).atW hW1)
      have hB1 : Below W.heap.size W W1 := by rw [← hW1]; exact below_new (Below.refl _ _) _
      have hBW : B ≤ W.heap.size := Nat.le_trans hB HS.out.bel0.size
      have HSD := Lib.hid (HS1.out.step (Below.refl _ _).drew)
      have CK := l14Keep_c x.Labels A2 n2 c2 names A' n' c' W1.drew B (HLB.out.keep fun b hb => hB1.block b (Nat.lt_of_lt_of_le hb hBW)) (HNM.out.keep fun b hb => HSD.out.bel0.block b (Nat.lt_of_lt_of_le hb hB)) (Nat.le_trans hBW hB1.size) (by omega)
      have s0 := HS1.out.cell (k := 0) 0 rfl rfl
      have s1 := HS1.out.cell (k := 1) 0 rfl rfl
      go_upto_region 7 with fail
      clear hW1 hB1 HS e0 e1
      have CPF : ∀ (V : World) (A3 : Option Addr) (n3 c3 : Nat) (ft : List Nat), Mm.SepF [] w V [Mm.tsl rLabel 97 (Pl.keepL x.Labels names) (.slice A3 n3 c3) ft, Mm.tblk gt 91 [.slice A2 n2 c2, .int .i64 x.Value], Mm.tsl rTotal 50 xs (.slice AA nn cc) fp] → Calls Try.prog 58 #[.slice AA nn cc, .agg #[.slice A3 n3 c3, .int .i64 x.Value, .int .i64 1, .int .i64 x.Value, .int .i64 x.Value]] V (PutAns fp (Pl.tput xs (Pl.titem names x)) V) := fun V A3 n3 c3 ft hV =>
        l14Put_c xs k (Pl.titem names x) AA A3 nn cc n3 c3 fp V V.heap.size (hV.sl 2 rfl) (hV.ndat (i := 2) rfl) HT.out (by omega) ((hV.sl 0 rfl).weak (hV.sl 0 rfl).olt) (Nat.le_refl _) (Pl.totOk_item names HTX.out)
      have HCP := Lib.hid CPF
      clear CPF
      go_region_held3 (fun wx => wx.cell? ⟨gt, 0, none⟩ = some (.slice A2 n2 c2) ∧ wx.cell? ⟨gt, 1, none⟩ = some (.int .i64 x.Value))
        (first | (go_keep; done) | (exact ⟨HS6.out.cell (k := 0) 1 rfl rfl, HS6.out.cell (k := 1) 1 rfl rfl⟩) | (exact ⟨HS4.out.cell (k := 0) 1 rfl rfl, HS4.out.cell (k := 1) 1 rfl rfl⟩) | ((try dsimp only); go_split_ands; refine ⟨?_, ?_⟩ <;> first | (exact HS6.out.cell (k := 0) 1 rfl rfl) | (exact HS6.out.cell (k := 1) 1 rfl rfl) | (exact HS4.out.cell (k := 0) 1 rfl rfl) | (exact HS4.out.cell (k := 1) 1 rfl rfl) | (go_keep; done)))
        (first
          | (go_at_call 66; (with_reducible refine CK.mono ?_); clear CK; rintro e w4 ⟨A3, n3, c3, fp3, rfl, ho, hnd, hnew, hb4⟩; (have HS4 := Lib.hid (HSD.out.add hb4 (t := Mm.tsl rLabel 97 (Pl.keepL x.Labels names) (.slice A3 n3 c3) fp3) ho hnd hnew)); clear ho hnd hnew hb4)
          | (go_at_call 58; (with_reducible refine (HCP.out _ A3 n3 c3 fp3 HS4.out).mono ?_); rintro e w6 ⟨A6, n6, c6, fp6, rfl, hS6⟩; (have HS6 := Lib.hid (HS4.out.callAll 2 rfl hS6)); clear hS6))
      have hn6' : n6 = (Pl.tput xs (Pl.titem names x)).length := by obtain ⟨_, _, _, hv, q1, _⟩ := (HS6.out.sl 3 rfl).form; injection hv with _ q2 _; omega
      have HN6 := Lib.hid hn6'
      clear hn6'
      go_wp2
      go_roundg (n - (k + 1))
      case measure => omega
      case rel => exact ⟨k + 1, n6, c6, A6, fp6, _, Nat.le_refl _, by omega, by go_num, rfl, HN6.out, (by show _ = _; rw [HNX.out, HX.out]), HS6.out.sel [3] (by decide) rfl⟩
    · obtain rfl : n = k := by omega
      have f1 : ¬ (n : Int) < (n : Nat) := by omega
      have HXS : Hid (xs = Pl.tcomb (l.map (Pl.titem names))) := by show _ = _; rw [HX.out, List.take_of_length_le (by rw [List.length_map, HLN.out]; exact Nat.le_refl _)]
      go_wp2
      rw [HF.out, ← HXS.out]
      go_ret2
      have HS2 := HS.out
      exact ⟨_, _, _, fp, rfl, HS2.sl 0 rfl, HS2.ndat (i := 0) rfl, fun b hb => (HS2.new b (by simpa [Mm.tsl] using hb)).resolve_left (fun h => by cases h), HS2.bel0⟩
set_option maxRecDepth 100000 in
set_option maxHeartbeats 1000000 in
theorem specTotalsBy_c (l : List Item) (A : Option Addr) (n c : Nat) (names : List ByteArray) (A' : Option Addr) (n' c' : Nat) (w : World) (B : Nat) (hl : Mm.SlAt rItem w B l A n c) (hs : Mm.SlAt Mm.str w B names A' n' c') (hB : B ≤ w.heap.size) :
    Calls Try.prog 25 #[.slice A n c, .slice A' n' c'] w (Mm.RetS2 rTotal 50 w (Pl.tby l names).1 (Pl.tby l names).2) := by
  have HL := Lib.hid hl
  have HNM := Lib.hid hs
  have HLN : Hid (l.length = n) := hl.1
  have HNL : Hid (names.length = n') := hs.1
  have hnm : n' ≤ maxLen := Nat.le_trans hs.2.1 hs.2.2.1
  unfold maxLen at hnm
  clear hl hs
  have CA := GoodItems_c l A n c w B HL.out hB
  cases hca : Pl.itemsOk l with
  | false =>
    have HF : Hid (Pl.tby l names = ([], false)) := if_neg (by rw [hca]; simp)
    rw [hca] at CA
    clear hca
    go_enter Try.func25, Try.ntmps25
    go_wp2_with (go_at_call 28; (with_reducible refine CA.mono ?_); rintro e w1 ⟨rfl, hb1⟩)
    rw [HF.out]
    go_ret2
    exact (Mm.Acc.nil hb1).ret
  | true =>
  rw [hca] at CA
  by_cases hn6 : n' ≤ 6
  · exact specByOk l A n c names A' n' c' w B HL HNM hB HLN HNL hn6 hca CA
  · have HF : Hid (Pl.tby l names = ([], false)) := if_neg (by rw [HNL.out]; simp [hn6])
    have f0 : (6 : Int) < (n' : Nat) := by omega
    clear hca
    go_enter Try.func25, Try.ntmps25
    go_wp2_with (go_at_call 28; (with_reducible refine CA.mono ?_); rintro e w1 ⟨rfl, hb1⟩)
    rw [HF.out]
    go_ret2
    exact (Mm.Acc.nil hb1).ret
end Go.Proofs.Ytnppcdiicnofpaa

/-
  Contracts: drawn items and totals (chapter 14). No conditions.
-/
namespace Go.Proofs.Ytnppcdiicnofpaa
open Go.RowKit
attribute [local go_sem] und_cell World.cell?_alloc_some
/-- append of one element that owns another thing, its block just laid, in a region in the order of the text -/
theorem Mm.app_own {P : Program} {F : List Nat} {w0 wr : World} {ts : List Mm.Thing} {ops : Array Oper} {rest : List Oper} {o : Oper} {a : Act} {Q : Exit → Act → World → Prop} {α : Type} {E : Mm.Rep α} {e : TypeId} {xs : List α} {x : α} {cx : List Value} {v : Value} {fp : List Nat} {m : Nat} {u : Mm.Thing}
    (hS : Mm.SepF F w0 wr ts) (k j : Nat) (hkj : k ≠ j) (hk : ts[k]? = some (Mm.tsl E e xs v fp)) (hj : ts[j]? = some u) (hgd : o.guard = none) (s y : Operand) (t : TypeId)
    (ho : o.op = .call { callee := .builtin .append, args := #[s, y], argTypes := #[t, t] }) (i : TypeInfo) (z : Value) (bytes : Nat)
    (ht : P.underlying t = some (.slice e)) (hi : P.info? e = some i) (hz : i.zero = some z) (hsize : i.size = E.size) (hby : i.bytes = bytes) (hzs : z.cells.size = E.size) (h0 : 0 < E.size)
    (hsv : a.eval s = v) (hyv : a.eval y = .slice (some ⟨wr.heap.size, 0, none⟩) 1 1) (hx : ∀ W, u.holds W → E.own W x cx u.fp) (hm : xs.length = m) (h63 : m + 1 ≤ maxLen) (hbytes : (m + 1) * bytes ≤ 140737488355328)
    (h : ∀ g cap w' fp', Mm.SepF F w0 w' ((ts.set j Mm.tnil).set k (Mm.tsl E e (xs ++ [x]) (.slice (some ⟨g, 0, none⟩) (m + 1) cap) fp')) → wpList P ops Q rest (a.put o.dst (.slice (some ⟨g, 0, none⟩) (m + 1) cap)) w') :
    wpList P ops Q (o :: rest) a (wr.alloc (.cells cx.toArray e)) := by
  subst hm
  have hu := hx _ (hS.at_ j hj)
  obtain ⟨l0, ho1, hnext⟩ := hS.push k j hkj hk hj (W2 := wr.alloc (.cells cx.toArray e)) (below_new (Below.refl _ _) _) (x := x) hx
  have hb : Mm.Blk (wr.alloc (.cells cx.toArray e)) wr.heap.size e cx := Mm.Blk.new _ _ _
  refine wpList_append_lies _ hgd s y t ho 0 e i z E.size bytes ht hi hz hsize hby hzs h0 v xs.length l0 hsv ho1 ⟨wr.heap.size, 0, none⟩ 1 1 cx hyv (by rw [Nat.one_mul]; exact E.olen hu) ?_ (E.one hu) (by omega) h63 hbytes (Nat.zero_le _) _ rfl ?_
  · have h1 := World.news_of_block hb
    simpa using h1
  · intro gg cap w4 hown1 hgrow hat hlt
    obtain ⟨fp', hs4⟩ := hnext gg cap w4 hown1 hgrow hat
    exact h gg cap w4 fp' hs4
theorem Try.infoItem0 : (Try.prog.info? 91).map (fun i => (i.zero, i.size, i.bytes)) = some (some (.agg #[.slice none 0 0, .int .i64 0]), 2, 32) := by kernel_rfl
set_option maxRecDepth 100000 in
set_option maxHeartbeats 4000000 in
theorem items_c (code : List Int) (A : Option Addr) (n c g K : Nat) (w : World) (B : Nat) (hc : Mm.SlAt Mm.u8 w B code A n c) (hBg : B ≤ g) (h : (Mm.tcur 87 A n c g K).holds w) (hK : K < 4611686018427370000) :
    Calls Try.prog 62 #[.pointer (some ⟨g, 0, none⟩)] w fun e w' => ∃ (l : List Item) (A1 : Option Addr) (n1 c1 : Nat) (fp : List Nat), e = .returned (.slice A1 n1 c1) ∧ l.length ≤ 41 ∧ Mm.SepF [g] w w' [Mm.tsl rItem 91 l (.slice A1 n1 c1) fp, Mm.tcur 87 A n c g (K + 1000)] := by
  have hgw : g < w.heap.size := (Mm.tcur 87 A n c g K).lt h g (by simp [Mm.tcur])
  have HC := Lib.hid hc
  have HS : Hid (Mm.SepF [g] w w [Mm.tcur 87 A n c g K]) := Mm.SepF.one (Mm.tcur 87 A n c g K) w h (by simp [Mm.tcur])
  clear hc h
  obtain ⟨i0, hi, hz0, hzs, hzb⟩ := info_parts Try.infoItem0
  go_enter Try.func62, Try.ntmps62
  go_upto_if 8 with first
    | ((go_at_call 87); (refine (pick_c code A n c g _ _ _ B (HC.out.keep fun b hb => HS.out.chg.block b (by omega) (by simp; omega)) hBg (HS.out.at_ 0 rfl) (by omega) (by omega)).mono ?_); (rintro e w1 ⟨b1, rfl, b10, b1x, b11, hL⟩); ((have HS := Lib.hid (HS.out.call 0 rfl hL))); (clear hL))
    | ((go_at_call 88); (refine (one_c code A n c g _ _ _ B (HC.out.keep fun b hb => HS.out.chg.block b (by omega) (by simp; omega)) hBg (HS.out.at_ 0 rfl) (by omega) (by omega)).mono ?_); (rintro e w1 ⟨b9, rfl, hL⟩); ((have HS := Lib.hid (HS.out.call 0 rfl hL))); (clear hL))
  have b12 := b11 (by omega)
  clear b11
  go_cut [4] (fun s6 wx => ∃ m : Int, s6 = .int .i64 m ∧ 0 ≤ m ∧ m ≤ 41 ∧ Mm.SepF [g] w wx [Mm.tcur 87 A n c g (K + 3)])
  case first =>
    cases b9
    · go_wp2_with fail
      go_meet
      exact ⟨_, rfl, b10, by omega, HS.out.more 0 rfl (by omega)⟩
    · go_wp2_with ((go_at_call 87); (refine (pick_c code A n c g _ _ _ B (HC.out.keep fun b hb => HS.out.chg.block b (by omega) (by simp; omega)) hBg (HS.out.at_ 0 rfl) (by omega) (by omega)).mono ?_); (rintro e w1 ⟨b2, rfl, b20, b2x, b21, hL⟩); ((have HS := Lib.hid (HS.out.call 0 rfl hL))); (clear hL); have b22 := b21 (by omega))
      go_meet
      exact ⟨_, rfl, by omega, by omega, HS.out.more 0 rfl (by omega)⟩
  case rest =>
  obtain ⟨m, rfl, hm0, hm1, HS⟩ := hcut
  have HS := Lib.hid ((HS.add (Below.refl _ _) (t := Mm.tsl rItem 91 [] (.slice none 0 0) []) Mm.SlOwn.nil List.nodup_nil (fun b hb => by cases hb)))
  go_wp2_with fail
  go_loopg [3, 4] 41 (fun gg l nn wr => ∃ (k mm : Nat) (ls : List Item) (A1 : Option Addr) (c1 : Nat) (fp : List Nat) (Kc : Nat), k ≤ gg ∧ nn = .int .i64 k ∧ Hid (mm = ls.length) ∧ k + mm ≤ 41 ∧ l = .slice A1 mm c1 ∧ Kc + 21 * k ≤ K + 900 ∧ Hid (Mm.SepF [g] w wr [Mm.tsl rItem 91 ls (.slice A1 mm c1) fp, Mm.tcur 87 A n c g Kc]))
  case atStart => exact ⟨m.toNat, 0, [], none, 0, [], K + 3, by omega, by rw [Int.toNat_of_nonneg hm0], rfl, by omega, rfl, by omega, HS⟩
  case round =>
    obtain ⟨k, mm, ls, A1, c1, fp, Kc, hkg, rfl, hml, hkm, rfl, hKc, HS⟩ := hrel
    obtain ⟨Wr, rfl⟩ : ∃ Wr : World, Wr = wr := ⟨_, rfl⟩
    by_cases hk0 : 0 < k
    · have hk1 : (0 : Int) < (k : Nat) := by omega
      have hgW : g < Wr.heap.size := Nat.lt_of_lt_of_le hgw HS.out.chg.size
      go_wp2_with (first
        | (go_at_call 69; refine (labels_c code A n c g _ _ B (HC.out.keep fun b hb => HS.out.chg.block b (by omega) (by simp; omega)) hBg (HS.out.at_ 1 rfl) (by omega)).mono ?_; rintro e w1 ⟨ll, A2, n2, c2, fp2, rfl, hll, hS⟩; (have HS1 := Lib.hid (HS.out.callAll 1 rfl hS)); clear hS)
        | (go_at_call 87; refine (pick_c code A n c g _ _ _ B (HC.out.keep fun b hb => HS1.out.chg.block b (by omega) (by simp; omega)) hBg (HS1.out.at_ 3 rfl) (by omega) (by omega)).mono ?_; rintro e w2 ⟨b2, rfl, b20, b2x, b21, hL⟩; (have HS2 := Lib.hid (HS1.out.call 3 rfl hL)); clear hL; have hw2 : IntKind.i64.wrap (b2 - 20) = b2 - 20 := IntWalk.i64_in _ (by omega))
        | (at_builtin; refine Mm.app_own (x := (⟨ll, b2 - 20⟩ : Item)) HS2.out 0 2 (by decide) rfl rfl rfl (.tmp 16) (.tmp 23) 40 rfl i0 _ 32 Try.underlying40 hi hz0 hzs hzb rfl (by decide) rfl rfl (fun W h => rItem_own_mk (x := (⟨ll, b2 - 20⟩ : Item)) h (by unfold Mm.I64; show _ ≤ b2 - 20 ∧ b2 - 20 ≤ _; omega)) hml.out.symm (by unfold maxLen; omega) (by omega) ?_; intro ga cap w' fp' hs; (have HS7 := Lib.hid hs); clear hs))
      go_roundg (k - 1)
      case measure => omega
      case rel => exact ⟨k - 1, mm + 1, _, _, cap, fp', Kc + 21, Nat.le_refl _, by go_num, by show _ = _; rw [List.length_append, hml.out]; rfl, by omega, rfl, by omega, HS7.out.sel [0, 3] (by decide) rfl⟩
    · have hk1 : ¬ (0 : Int) < (k : Nat) := by omega
      by_cases hm0 : 0 < mm
      · have hm1 : (0 : Int) < (mm : Nat) := by omega
        obtain ⟨g1, rfl, hg1, -⟩ := Mm.sl_addr (HS.out.sl 0 rfl) (by rw [← hml.out]; exact hm0)
        go_upto_if 31 with ((go_at_call 88); (refine (one_c code A n c g _ _ _ B (HC.out.keep fun b hb => HS.out.chg.block b (by omega) (by simp; omega)) hBg (HS.out.at_ 1 rfl) (by omega) (by omega)).mono ?_); (rintro e w1 ⟨b9, rfl, hL⟩); ((have HS := Lib.hid (HS.out.call 1 rfl hL))); (clear hL))
        cases b9
        · go_wp2_with fail
          go_ret
          exact ⟨ls, _, _, _, fp, rfl, by rw [← hml.out]; omega, HS.out.more 1 rfl (by omega)⟩
        · have hgw1 : g < w1.heap.size := Nat.lt_of_lt_of_le hgw HS.out.chg.size
          have HA := Lib.hid (HS.out.alloc' rfl 3 [.int .i64 1000000, .int .i64 1000001])
          go_wp2_with (go_at_call 89; refine (among_c code A n c g _ [1000000, 1000001] _ 2 _ B (HC.out.keep fun b hb => HA.out.chg.block b (by omega) (by simp; omega)) hBg (HA.out.at_ 2 rfl) (by omega) (HA.out.at_ 0 rfl) (by omega) rfl (by omega) (by omega)).mono ?_; rintro e w2 ⟨v, rfl, hv, hL⟩; (have HS2 := Lib.hid ((HA.out.call 2 rfl hL).tail)); clear hL HA; have hvi : Mm.I64 v := (by simp only [List.mem_cons, List.not_mem_nil, or_false] at hv; unfold Mm.I64; omega); (have HV := Lib.hid hvi); clear hv hvi; obtain ⟨x, hx⟩ : ∃ x, ls[0]? = some x := ⟨_, List.getElem?_eq_getElem (show 0 < ls.length by rw [← hml.out]; exact hm0)⟩; obtain ⟨qa, qn, qc, q0, q1⟩ := rItem_ocell (HS2.out.sl 0 rfl) (HS2.out.ndat (i := 0) rfl) hx; have z1 := (HS2.out.sl 0 rfl).frozen (0 * 2 + 1); (have HX := Lib.hid hx); clear hx)
          go_ret
          exact ⟨ls.set 0 ⟨x.Labels, v⟩, _, _, _, fp, rfl, by rw [List.length_set, ← hml.out]; omega, (HS2.out.putSl (k := 0) (m := 1) (x' := (⟨x.Labels, v⟩ : Item)) (u := .int .i64 v) 0 rfl HX.out (by decide) (fun cs fx ho => by obtain ⟨A, n, c, f, rfl, rfl, h0, _⟩ := rItem_own ho; exact rItem_own_mk (x := ⟨x.Labels, v⟩) h0 HV.out)).more 1 rfl (by omega)⟩
      · have hm1 : ¬ (0 : Int) < (mm : Nat) := by omega
        go_wp2_with fail
        go_ret
        first
          | exact ⟨ls, _, _, _, fp, rfl, by rw [← hml.out]; omega, HS.out.more 1 rfl (by omega)⟩
          | exact ⟨ls, _, _, _, rfl, by rw [← hml.out]; omega, fp, HS.out.more 1 rfl (by omega)⟩
theorem Pl.tcomb_len (l : List Total) : (Pl.tcomb l).length ≤ l.length := by
  have : ∀ (k : List Total) (a : List Total), (k.foldl Pl.tput a).length ≤ a.length + k.length := fun k => by
    induction k with
    | nil => intro a; simp
    | cons x t ih => intro a; rw [List.foldl_cons, List.length_cons]; have h1 := ih (Pl.tput a x); have h2 := Pl.tput_len a x; omega
  have h := this l []
  simpa [Pl.tcomb] using h
theorem Pl.tby_len (l : List Item) (names : List ByteArray) : (Pl.tby l names).1.length ≤ l.length := by
  unfold Pl.tby
  split
  · have := Pl.tcomb_len (l.map (Pl.titem names)); rw [List.length_map] at this; exact this
  · exact Nat.zero_le _
theorem Mm.SepF.totSet {F : List Nat} {w0 wr : World} {ts : List Mm.Thing} {xs : List Total} {T : TypeId} {g n c k : Nat} {fp : List Nat} {x : Total} {a b d e : Int} (h : Mm.SepF F w0 wr (Mm.tsl rTotal T xs (.slice (some ⟨g, 0, none⟩) n c) fp :: ts)) (hk : xs[k]? = some x) (ha : Mm.I64 a) (hb : Mm.I64 b) (hd : Mm.I64 d) (he : Mm.I64 e) :
    ∃ xs' fp', xs'.length = xs.length ∧ Mm.SepF F w0 (((((wr.setCell ⟨g, k * 5, none⟩ (.slice none 0 0)).setCell ⟨g, k * 5 + 1, none⟩ (.int .i64 a)).setCell ⟨g, k * 5 + 2, none⟩ (.int .i64 b)).setCell ⟨g, k * 5 + 3, none⟩ (.int .i64 d)).setCell ⟨g, k * 5 + 4, none⟩ (.int .i64 e)) (Mm.tsl rTotal T xs' (.slice (some ⟨g, 0, none⟩) n c) fp' :: ts) := by
  obtain ⟨cs, fx, k1, k2, k3, k4, k5⟩ := h.swap 0 rfl hk
  obtain ⟨A', n', c', f', rfl, rfl, i0, i1, i2, i3, i4⟩ := rTotal_own k1
  have hkl : k < xs.length := (List.getElem?_eq_some_iff.1 hk).1
  obtain ⟨fp1, h1⟩ := k5 wr ⟨[], x.Sum, x.Count, x.Least, x.Most⟩ 0 (.slice none 0 0) [] (Mm.Chg.refl _ _) (by decide) (rTotal_own_mk (x := ⟨[], x.Sum, x.Count, x.Least, x.Most⟩) Mm.SlOwn.nil i1 i2 i3 i4) List.nodup_nil (fun b hb => by cases hb)
  have h2 := h1.putSl (k := k) (m := 1) (x' := (⟨[], a, x.Count, x.Least, x.Most⟩ : Total)) (u := .int .i64 a) 0 rfl (List.getElem?_set_self hkl) (by decide) (fun cs fx ho => by obtain ⟨A, n, c, f, rfl, rfl, h0, i1, i2, i3, i4⟩ := rTotal_own ho; exact rTotal_own_mk (x := ⟨[], a, x.Count, x.Least, x.Most⟩) h0 ha i2 i3 i4)
  have h3 := h2.putSl (k := k) (m := 2) (x' := (⟨[], a, b, x.Least, x.Most⟩ : Total)) (u := .int .i64 b) 0 rfl (List.getElem?_set_self (by rw [List.length_set]; exact hkl)) (by decide) (fun cs fx ho => by obtain ⟨A, n, c, f, rfl, rfl, h0, i1, i2, i3, i4⟩ := rTotal_own ho; exact rTotal_own_mk (x := ⟨[], a, b, x.Least, x.Most⟩) h0 i1 hb i3 i4)
  have h4 := h3.putSl (k := k) (m := 3) (x' := (⟨[], a, b, d, x.Most⟩ : Total)) (u := .int .i64 d) 0 rfl (List.getElem?_set_self (by rw [List.length_set, List.length_set]; exact hkl)) (by decide) (fun cs fx ho => by obtain ⟨A, n, c, f, rfl, rfl, h0, i1, i2, i3, i4⟩ := rTotal_own ho; exact rTotal_own_mk (x := ⟨[], a, b, d, x.Most⟩) h0 i1 i2 hd i4)
  have h5 := h4.putSl (k := k) (m := 4) (x' := (⟨[], a, b, d, e⟩ : Total)) (u := .int .i64 e) 0 rfl (List.getElem?_set_self (by rw [List.length_set, List.length_set, List.length_set]; exact hkl)) (by decide) (fun cs fx ho => by obtain ⟨A, n, c, f, rfl, rfl, h0, i1, i2, i3, i4⟩ := rTotal_own ho; exact rTotal_own_mk (x := ⟨[], a, b, d, e⟩) h0 i1 i2 i3 he)
  exact ⟨_, _, by simp, h5⟩
set_option maxRecDepth 100000 in
set_option maxHeartbeats 4000000 in
theorem totals_c (code : List Int) (A : Option Addr) (n c g K : Nat) (w : World) (B : Nat) (hc : Mm.SlAt Mm.u8 w B code A n c) (hBg : B ≤ g) (h : (Mm.tcur 87 A n c g K).holds w) (hK : K < 4611686018427360000) :
    Calls Try.prog 68 #[.pointer (some ⟨g, 0, none⟩)] w fun e w' => ∃ (l : List Total) (A1 : Option Addr) (n1 c1 : Nat) (fp : List Nat), e = .returned (.slice A1 n1 c1) ∧ l.length ≤ 41 ∧ Mm.SepF [g] w w' [Mm.tsl rTotal 50 l (.slice A1 n1 c1) fp, Mm.tcur 87 A n c g (K + 1100)] := by
  have hgw : g < w.heap.size := (Mm.tcur 87 A n c g K).lt h g (by simp [Mm.tcur])
  have HC := Lib.hid hc
  have HS : Hid (Mm.SepF [g] w w [Mm.tcur 87 A n c g K]) := Mm.SepF.one (Mm.tcur 87 A n c g K) w h (by simp [Mm.tcur])
  clear hc h
  go_enter Try.func68, Try.ntmps68
  go_upto_region 2 with (first
    | (go_at_call 62; refine (items_c code A n c g _ _ B (HC.out.keep fun b hb => HS.out.chg.block b (by omega) (by simp; omega)) hBg (HS.out.at_ 0 rfl) (by omega)).mono ?_; rintro e w1 ⟨l, A1, n1, c1, fp1, rfl, hl, hS⟩; (have HS1 := Lib.hid (HS.out.callAll 0 rfl hS)); clear hS)
    | (go_at_call 63; refine (names_c code A n c g _ _ B (HC.out.keep fun b hb => HS1.out.chg.block b (by omega) (by simp; omega)) hBg (HS1.out.at_ 2 rfl) (by omega)).mono ?_; rintro e w2 ⟨nms, A2, n2, c2, fp2, rfl, hl2, hS⟩; (have HS2 := Lib.hid (HS1.out.callAll 2 rfl hS)); clear hS)
    | (go_at_call 25; refine (specTotalsBy_c l A1 n1 c1 nms A2 n2 c2 _ w2.heap.size (HS2.out.rdSl 1 rfl) (HS2.out.rdSl 3 rfl) (Nat.le_refl _)).mono ?_; rintro e w3 ⟨A3, n3, c3, fp3, rfl, ho, hnd, hnew, hb⟩; (have HS3 := Lib.hid ((HS2.out.add hb (t := Mm.tsl rTotal 50 _ _ _) ho hnd hnew).sel [0, 5] (by decide) rfl)); clear ho hnd hnew hb; have hts := Nat.le_trans (Pl.tby_len l nms) hl; obtain ⟨ts, hts2⟩ : ∃ ts, (Pl.tby l nms).1 = ts := ⟨_, rfl⟩; rw [hts2] at HS3 hts; clear hts2; have hn3 : n3 = ts.length := (by obtain ⟨_, _, _, hv, q1, _⟩ := (HS3.out.sl 0 rfl).form; injection hv with _ q2 _; omega); (have HN3 := Lib.hid hn3); clear hn3))
  by_cases hm0 : 0 < n3
  · have hm1 : (0 : Int) < (n3 : Nat) := by omega
    obtain ⟨g1, rfl, hg1, -⟩ := Mm.sl_addr (HS3.out.sl 0 rfl) (by rw [← HN3.out]; exact hm0)
    go_upto_if 19 with ((go_at_call 88); (refine (one_c code A n c g _ _ _ B (HC.out.keep fun b hb => HS3.out.chg.block b (by omega) (by simp; omega)) hBg (HS3.out.at_ 1 rfl) (by omega) (by omega)).mono ?_); (rintro e w1 ⟨b9, rfl, hL⟩); ((have HS := Lib.hid (HS3.out.call 1 rfl hL))); (clear hL))
    cases b9
    · go_wp2_with fail
      go_ret
      exact ⟨ts, _, _, _, fp3, rfl, hts, HS.out.more 1 rfl (by omega)⟩
    · have hgw1 : g < w1.heap.size := Nat.lt_of_lt_of_le hgw HS.out.chg.size
      have hn41 : n3 ≤ 41 := by rw [HN3.out]; exact hts
      obtain ⟨x, hx⟩ : ∃ x : Nat → Total, ∀ k, k < n3 → ts[k]? = some (x k) := ⟨fun k => if h : k < ts.length then ts[k] else ⟨[], 0, 0, 0, 0⟩, fun k hk => by rw [HN3.out] at hk; rw [List.getElem?_eq_getElem hk]; simp [hk]⟩
      have HX := Lib.hid hx
      clear hx
      go_wp2_with (first
        | ((go_at_call 87); (refine (pick_c code A n c g _ _ _ B (HC.out.keep fun b hb => HP4.out.chg.block b (by omega) (by simp; omega)) hBg (HP4.out.at_ 1 rfl) (by omega) (by omega)).mono ?_); (rintro e w1 ⟨b7, rfl, b70, b7x, b71, hL⟩); ((have HP5 := Lib.hid (HP4.out.call 1 rfl hL))); (clear hL); have b72 := b71 (by omega); obtain ⟨qa, qn, qc, q0, q1, q2, q3⟩ := rTotal_ocell (HP5.out.sl 0 rfl) (HP5.out.ndat (i := 0) rfl) (HX.out b2.toNat (by omega)); have z0 := (HP5.out.sl 0 rfl).frozen (b2.toNat * 5); have z1 := (HP5.out.sl 0 rfl).frozen (b2.toNat * 5 + 1); have z2 := (HP5.out.sl 0 rfl).frozen (b2.toNat * 5 + 2); have z3 := (HP5.out.sl 0 rfl).frozen (b2.toNat * 5 + 3); have z4 := (HP5.out.sl 0 rfl).frozen (b2.toNat * 5 + 4))
        | ((go_at_call 87); (refine (pick_c code A n c g _ _ _ B (HC.out.keep fun b hb => HP3.out.chg.block b (by omega) (by simp; omega)) hBg (HP3.out.at_ 1 rfl) (by omega) (by omega)).mono ?_); (rintro e w1 ⟨b6, rfl, b60, b6x, b61, hL⟩); ((have HP4 := Lib.hid (HP3.out.call 1 rfl hL))); (clear hL); have b62 := b61 (by omega))
        | (go_at_call 89; refine (among_c code A n c g _ [0, 1, 1000, 1001] _ 4 _ B (HC.out.keep fun b hb => HA.out.chg.block b (by omega) (by simp; omega)) hBg (HA.out.at_ 2 rfl) (by omega) (HA.out.at_ 0 rfl) (by omega) rfl (by omega) (by omega)).mono ?_; rintro e w5 ⟨v, rfl, hv, hL⟩; (have HP3 := Lib.hid ((HA.out.call 2 rfl hL).tail)); clear hL HA; have hvi : Mm.I64 v := (by simp only [List.mem_cons, List.not_mem_nil, or_false] at hv; unfold Mm.I64; omega); (have HV := Lib.hid hvi); clear hv hvi)
        | ((go_at_call 87); (refine (pick_c code A n c g _ _ _ B (HC.out.keep fun b hb => HP1.out.chg.block b (by omega) (by simp; omega)) hBg (HP1.out.at_ 1 rfl) (by omega) (by omega)).mono ?_); (rintro e w1 ⟨b3, rfl, b30, b3x, b31, hL⟩); ((have HP2 := Lib.hid (HP1.out.call 1 rfl hL))); (clear hL); have b32 := b31 (by omega); (have hgw2 : g < w1.heap.size := Nat.lt_of_lt_of_le hgw HP2.out.chg.size); (have HA := Lib.hid (HP2.out.alloc' rfl 3 [.int .i64 0, .int .i64 1, .int .i64 1000, .int .i64 1001])))
        | ((go_at_call 87); (refine (pick_c code A n c g _ _ _ B (HC.out.keep fun b hb => HS.out.chg.block b (by omega) (by simp; omega)) hBg (HS.out.at_ 1 rfl) (by omega) (by omega)).mono ?_); (rintro e w1 ⟨b2, rfl, b20, b2x, b21, hL⟩); ((have HP1 := Lib.hid (HS.out.call 1 rfl hL))); (clear hL); have b22 := b21 (by omega)))
      go_ret
      obtain ⟨xs', fp', hxl, hf⟩ := (HP5.out).totSet (HX.out b2.toNat (by omega)) (a := b3) (b := v) (d := b6) (e := b7) (by unfold Mm.I64; omega) HV.out (by unfold Mm.I64; omega) (by unfold Mm.I64; omega)
      exact ⟨xs', _, _, _, fp', rfl, by omega, hf.more 1 rfl (by omega)⟩
  · have hm1 : ¬ (0 : Int) < (n3 : Nat) := by omega
    go_wp2_with fail
    go_ret
    first
      | exact ⟨ts, _, _, _, fp3, rfl, hts, HS3.out.more 1 rfl (by omega)⟩
      | exact ⟨ts, _, _, _, rfl, hts, fp3, HS3.out.more 1 rfl (by omega)⟩
end Go.Proofs.Ytnppcdiicnofpaa

/-
  Contracts: what is drawn for totals (chapter 14). No conditions.
-/
namespace Go.Proofs.Ytnppcdiicnofpaa
open Go.RowKit
attribute [local go_sem] und_cell World.cell?_alloc_some
theorem Mm.SepF.curs2 {F : List Nat} {w0 wr : World} {ts : List Mm.Thing} {T : TypeId} {A : Option Addr} {n c g : Nat} (h : Mm.SepF F w0 wr (Mm.tblk g T [.slice A n c, .int .i64 0, .int .u64 0] :: ts)) : Mm.SepF F w0 wr (Mm.tcur T A n c g 0 :: ts) :=
  h.conv (by simp [Mm.tcur, Mm.tblk]) (List.forall_mem_cons.2 ⟨⟨0, 0, h.at_ 0 rfl, by omega, by omega⟩, fun u hu => h.hold u (List.mem_cons_of_mem _ hu)⟩)
set_option maxRecDepth 100000 in
set_option maxHeartbeats 2000000 in
theorem DrawTotalsBy_c (code : List Int) (A : Option Addr) (n c : Nat) (w : World) (B : Nat) (hc : Mm.SlAt Mm.u8 w B code A n c) (hB : B ≤ w.heap.size) :
    Calls Try.prog 23 #[.slice A n c] w fun e w' => ∃ (l : List Item) (A1 : Option Addr) (n1 c1 : Nat) (f1 : List Nat) (nm : List ByteArray) (A2 : Option Addr) (n2 c2 : Nat) (f2 : List Nat), e = .returned (.tuple #[.slice A1 n1 c1, .slice A2 n2 c2]) ∧ l.length ≤ 41 ∧ nm.length ≤ 7 ∧ Mm.SepF [] w w' [Mm.tsl rItem 91 l (.slice A1 n1 c1) f1, Mm.tsl Mm.str 9 nm (.slice A2 n2 c2) f2] := by
  (have HC := Lib.hid hc); (clear hc); (obtain ⟨g, hg⟩ : ∃ g, w.heap.size = g := ⟨_, rfl⟩); (obtain ⟨W1, hW1⟩ : ∃ W1, w.alloc (.cells #[.slice A n c, .int .i64 0, .int .u64 0] 87) = W1 := ⟨_, rfl⟩); (have HS := Lib.hid ((((Mm.SepF.start w).alloc' hg 87 [.slice A n c, .int .i64 0, .int .u64 0]).atW hW1).curs2)); (have hBg : B ≤ g := by omega)
  go_enter Try.func23, Try.ntmps23
  go_upto_region 2 with fail
  clear hW1
  go_wp2_with (first
    | (go_at_call 62; refine (items_c code A n c g _ _ B (HC.out.keep fun b hb => HS.out.chg.block b (Nat.lt_of_lt_of_le hb hB) (by simp)) hBg (HS.out.at_ 0 rfl) (by omega)).mono ?_; rintro e w1 ⟨l, A1, n1, c1, f1, rfl, hl, hS⟩; (have HS1 := Lib.hid (HS.out.callAll 0 rfl hS)); clear hS)
    | (go_at_call 63; refine (names_c code A n c g _ _ B (HC.out.keep fun b hb => HS1.out.chg.block b (Nat.lt_of_lt_of_le hb hB) (by simp)) hBg (HS1.out.at_ 2 rfl) (by omega)).mono ?_; rintro e w2 ⟨nms, A2, n2, c2, f2, rfl, hl2, hS⟩; (have HS2 := Lib.hid (HS1.out.callAll 2 rfl hS)); clear hS))
  exact bodyPost_ret (v := .tuple #[.slice A1 n1 c1, .slice A2 n2 c2]) (by simp [results, Try.results23, go_sem]) rfl ⟨l, A1, n1, c1, f1, nms, A2, n2, c2, f2, rfl, hl, hl2, HS2.out.sel [1, 3] (by decide) rfl⟩
set_option maxRecDepth 100000 in
set_option maxHeartbeats 2000000 in
theorem DrawKeepLabels_c (code : List Int) (A : Option Addr) (n c : Nat) (w : World) (B : Nat) (hc : Mm.SlAt Mm.u8 w B code A n c) (hB : B ≤ w.heap.size) :
    Calls Try.prog 32 #[.slice A n c] w fun e w' => ∃ (l : List Label) (A1 : Option Addr) (n1 c1 : Nat) (f1 : List Nat) (nm : List ByteArray) (A2 : Option Addr) (n2 c2 : Nat) (f2 : List Nat), e = .returned (.tuple #[.slice A1 n1 c1, .slice A2 n2 c2]) ∧ l.length ≤ 7 ∧ nm.length ≤ 7 ∧ Mm.SepF [] w w' [Mm.tsl rLabel 97 l (.slice A1 n1 c1) f1, Mm.tsl Mm.str 9 nm (.slice A2 n2 c2) f2] := by
  (have HC := Lib.hid hc); (clear hc); (obtain ⟨g, hg⟩ : ∃ g, w.heap.size = g := ⟨_, rfl⟩); (obtain ⟨W1, hW1⟩ : ∃ W1, w.alloc (.cells #[.slice A n c, .int .i64 0, .int .u64 0] 87) = W1 := ⟨_, rfl⟩); (have HS := Lib.hid ((((Mm.SepF.start w).alloc' hg 87 [.slice A n c, .int .i64 0, .int .u64 0]).atW hW1).curs2)); (have hBg : B ≤ g := by omega)
  go_enter Try.func32, Try.ntmps32
  go_upto_region 2 with fail
  clear hW1
  go_wp2_with (first
    | (go_at_call 69; refine (labels_c code A n c g _ _ B (HC.out.keep fun b hb => HS.out.chg.block b (Nat.lt_of_lt_of_le hb hB) (by simp)) hBg (HS.out.at_ 0 rfl) (by omega)).mono ?_; rintro e w1 ⟨l, A1, n1, c1, f1, rfl, hl, hS⟩; (have HS1 := Lib.hid (HS.out.callAll 0 rfl hS)); clear hS)
    | (go_at_call 63; refine (names_c code A n c g _ _ B (HC.out.keep fun b hb => HS1.out.chg.block b (Nat.lt_of_lt_of_le hb hB) (by simp)) hBg (HS1.out.at_ 2 rfl) (by omega)).mono ?_; rintro e w2 ⟨nms, A2, n2, c2, f2, rfl, hl2, hS⟩; (have HS2 := Lib.hid (HS1.out.callAll 2 rfl hS)); clear hS))
  exact bodyPost_ret (v := .tuple #[.slice A1 n1 c1, .slice A2 n2 c2]) (by simp [results, Try.results32, go_sem]) rfl ⟨l, A1, n1, c1, f1, nms, A2, n2, c2, f2, rfl, hl, hl2, HS2.out.sel [1, 3] (by decide) rfl⟩
set_option maxRecDepth 100000 in
set_option maxHeartbeats 2000000 in
theorem DrawMergeTotals_c (code : List Int) (A : Option Addr) (n c : Nat) (w : World) (B : Nat) (hc : Mm.SlAt Mm.u8 w B code A n c) (hB : B ≤ w.heap.size) :
    Calls Try.prog 31 #[.slice A n c] w fun e w' => ∃ (l : List Total) (A1 : Option Addr) (n1 c1 : Nat) (f1 : List Nat) (nm : List Total) (A2 : Option Addr) (n2 c2 : Nat) (f2 : List Nat), e = .returned (.tuple #[.slice A1 n1 c1, .slice A2 n2 c2]) ∧ l.length ≤ 41 ∧ nm.length ≤ 41 ∧ Mm.SepF [] w w' [Mm.tsl rTotal 50 l (.slice A1 n1 c1) f1, Mm.tsl rTotal 50 nm (.slice A2 n2 c2) f2] := by
  (have HC := Lib.hid hc); (clear hc); (obtain ⟨g, hg⟩ : ∃ g, w.heap.size = g := ⟨_, rfl⟩); (obtain ⟨W1, hW1⟩ : ∃ W1, w.alloc (.cells #[.slice A n c, .int .i64 0, .int .u64 0] 87) = W1 := ⟨_, rfl⟩); (have HS := Lib.hid ((((Mm.SepF.start w).alloc' hg 87 [.slice A n c, .int .i64 0, .int .u64 0]).atW hW1).curs2)); (have hBg : B ≤ g := by omega)
  go_enter Try.func31, Try.ntmps31
  go_upto_region 2 with fail
  clear hW1
  go_wp2_with (first
    | (go_at_call 68; refine (totals_c code A n c g _ _ B (HC.out.keep fun b hb => HS1.out.chg.block b (Nat.lt_of_lt_of_le hb hB) (by simp)) hBg (HS1.out.at_ 2 rfl) (by omega)).mono ?_; rintro e w2 ⟨nms, A2, n2, c2, f2, rfl, hl2, hS⟩; (have HS2 := Lib.hid (HS1.out.callAll 2 rfl hS)); clear hS)
    | (go_at_call 68; refine (totals_c code A n c g _ _ B (HC.out.keep fun b hb => HS.out.chg.block b (Nat.lt_of_lt_of_le hb hB) (by simp)) hBg (HS.out.at_ 0 rfl) (by omega)).mono ?_; rintro e w1 ⟨l, A1, n1, c1, f1, rfl, hl, hS⟩; (have HS1 := Lib.hid (HS.out.callAll 0 rfl hS)); clear hS))
  exact bodyPost_ret (v := .tuple #[.slice A1 n1 c1, .slice A2 n2 c2]) (by simp [results, Try.results31, go_sem]) rfl ⟨l, A1, n1, c1, f1, nms, A2, n2, c2, f2, rfl, hl, hl2, HS2.out.sel [1, 3] (by decide) rfl⟩
end Go.Proofs.Ytnppcdiicnofpaa

/-
  Contracts: the labels that are kept, the program's and the reference's (chapter 14). No conditions.
-/
namespace Go.Proofs.Ytnppcdiicnofpaa
open Go.RowKit
attribute [local go_sem] und_cell World.cell?_alloc_some
def Pl.keep2 (l : List Label) (names : List ByteArray) : List Label × Bool := if (Pl.labelsOk l && decide (names.length ≤ 6)) = true then (Pl.keepL l names, true) else ([], false)
set_option maxRecDepth 100000 in
theorem implKeepLabels_c (l : List Label) (A : Option Addr) (n c : Nat) (names : List ByteArray) (A' : Option Addr) (n' c' : Nat) (w : World) (B : Nat) (hl : Mm.SlAt rLabel w B l A n c) (hs : Mm.SlAt Mm.str w B names A' n' c') (hB : B ≤ w.heap.size) :
    Calls Try.prog 33 #[.slice A n c, .slice A' n' c'] w (Mm.RetS2 rLabel 97 w (Pl.keep2 l names).1 (Pl.keep2 l names).2) := by
  have HL := Lib.hid hl
  have HNM := Lib.hid hs
  have HLN : Hid (l.length = n) := hl.1
  have HNL : Hid (names.length = n') := hs.1
  clear hl hs
  have CA := areLabels_c l A n c w B HL.out hB
  cases hca : Pl.labelsOk l with
  | false =>
    have HF : Hid (Pl.keep2 l names = ([], false)) := if_neg (by rw [hca]; simp)
    rw [hca] at CA
    clear hca
    go_enter Try.func33, Try.ntmps33
    go_wp2_with (go_at_call 70; (with_reducible refine CA.mono ?_); rintro e w1 ⟨rfl, hb1⟩)
    rw [HF.out]
    go_ret2
    exact (Mm.Acc.nil hb1).ret
  | true =>
  rw [hca] at CA
  by_cases hn6 : n' ≤ 6
  · have HF : Hid (Pl.keep2 l names = (Pl.keepL l names, true)) := if_pos (by rw [hca, HNL.out]; simpa using hn6)
    have hl6 : n ≤ 1000 := by have := Pl.labelsOk_len hca; have := HLN.out; omega
    have f0 : ¬ (6 : Int) < (n' : Nat) := by omega
    clear hca
    go_enter Try.func33, Try.ntmps33
    go_wp2_with (first
      | (go_at_call 70; (with_reducible refine CA.mono ?_); clear CA; rintro e w1 ⟨rfl, hb1⟩)
      | (go_at_call 65; refine (keepLabels_c l A n c names A' n' c' w1 B (HL.out.keep fun x hx => hb1.block x (Nat.lt_of_lt_of_le hx hB)) (HNM.out.keep fun x hx => hb1.block x (Nat.lt_of_lt_of_le hx hB)) (Nat.le_trans hB hb1.size) hl6).mono ?_; rintro e w2 ⟨A2, n2, c2, fp, rfl, k1, k2, k3, k4⟩))
    rw [HF.out]
    go_ret2
    exact ⟨A2, n2, c2, fp, rfl, k1, k2, fun b hb => Nat.le_trans hb1.size (k3 b hb), below_step hb1 k4⟩
  · have HF : Hid (Pl.keep2 l names = ([], false)) := if_neg (by rw [HNL.out]; simp [hn6])
    have f0 : (6 : Int) < (n' : Nat) := by omega
    clear hca
    go_enter Try.func33, Try.ntmps33
    go_wp2_with (go_at_call 70; (with_reducible refine CA.mono ?_); rintro e w1 ⟨rfl, hb1⟩)
    rw [HF.out]
    go_ret2
    exact (Mm.Acc.nil hb1).ret
set_option maxRecDepth 100000 in
theorem specKeepLabels_c (l : List Label) (A : Option Addr) (n c : Nat) (names : List ByteArray) (A' : Option Addr) (n' c' : Nat) (w : World) (B : Nat) (hl : Mm.SlAt rLabel w B l A n c) (hs : Mm.SlAt Mm.str w B names A' n' c') (hB : B ≤ w.heap.size) :
    Calls Try.prog 34 #[.slice A n c, .slice A' n' c'] w (Mm.RetS2 rLabel 97 w (Pl.keep2 l names).1 (Pl.keep2 l names).2) := by
  have HL := Lib.hid hl
  have HNM := Lib.hid hs
  have HLN : Hid (l.length = n) := hl.1
  have HNL : Hid (names.length = n') := hs.1
  clear hl hs
  have CA := GoodLabels_c l A n c w B HL.out hB
  cases hca : Pl.labelsOk l with
  | false =>
    have HF : Hid (Pl.keep2 l names = ([], false)) := if_neg (by rw [hca]; simp)
    rw [hca] at CA
    clear hca
    go_enter Try.func34, Try.ntmps34
    go_wp2_with (go_at_call 67; (with_reducible refine CA.mono ?_); rintro e w1 ⟨rfl, hb1⟩)
    rw [HF.out]
    go_ret2
    exact (Mm.Acc.nil hb1).ret
  | true =>
  rw [hca] at CA
  by_cases hn6 : n' ≤ 6
  · have HF : Hid (Pl.keep2 l names = (Pl.keepL l names, true)) := if_pos (by rw [hca, HNL.out]; simpa using hn6)
    have hl6 : n ≤ 1000 := by have := Pl.labelsOk_len hca; have := HLN.out; omega
    have f0 : ¬ (6 : Int) < (n' : Nat) := by omega
    clear hca
    go_enter Try.func34, Try.ntmps34
    go_wp2_with (first
      | (go_at_call 67; (with_reducible refine CA.mono ?_); clear CA; rintro e w1 ⟨rfl, hb1⟩)
      | (go_at_call 66; refine (l14Keep_c l A n c names A' n' c' w1 B (HL.out.keep fun x hx => hb1.block x (Nat.lt_of_lt_of_le hx hB)) (HNM.out.keep fun x hx => hb1.block x (Nat.lt_of_lt_of_le hx hB)) (Nat.le_trans hB hb1.size) hl6).mono ?_; rintro e w2 ⟨A2, n2, c2, fp, rfl, k1, k2, k3, k4⟩))
    rw [HF.out]
    go_ret2
    exact ⟨A2, n2, c2, fp, rfl, k1, k2, fun b hb => Nat.le_trans hb1.size (k3 b hb), below_step hb1 k4⟩
  · have HF : Hid (Pl.keep2 l names = ([], false)) := if_neg (by rw [HNL.out]; simp [hn6])
    have f0 : (6 : Int) < (n' : Nat) := by omega
    clear hca
    go_enter Try.func34, Try.ntmps34
    go_wp2_with (go_at_call 67; (with_reducible refine CA.mono ?_); rintro e w1 ⟨rfl, hb1⟩)
    rw [HF.out]
    go_ret2
    exact (Mm.Acc.nil hb1).ret
end Go.Proofs.Ytnppcdiicnofpaa

/-
  Contracts: the laws' own comparisons, at equal data, and the number of some bytes. No conditions.
-/
namespace Go.Proofs.Ytnppcdiicnofpaa
open Go.RowKit
attribute [local go_sem] und_cell World.cell?_alloc_some
set_option maxRecDepth 100000 in
theorem numberOf_c (code : List Int) (A : Option Addr) (n c : Nat) (w : World) (B : Nat) (h1 : Mm.SlAt Mm.u8 w B code A n c) :
    Calls Try.prog 29 #[.slice A n c] w fun e w' => ∃ k : Int, e = .returned (.int .i64 k) ∧ 0 ≤ k ∧ k < 1000003 ∧ w' = w := by
  have H1 := Lib.hid h1
  have hlen : n ≤ maxLen := Nat.le_trans h1.2.1 h1.2.2.1
  unfold maxLen at hlen
  clear h1
  go_enter Try.func29, Try.ntmps29
  go_wp2
  go_loopg [3, 8] n (fun gg v i wr => ∃ (k : Nat) (y : Int), n - k ≤ gg ∧ k ≤ n ∧ v = .int .i64 y ∧ i = .int .i64 k ∧ 0 ≤ y ∧ y < 1000003 ∧ wr = w)
  case atStart => exact ⟨0, 0, Nat.le_refl _, Nat.zero_le _, rfl, rfl, by omega, by omega, rfl⟩
  case round =>
    obtain ⟨k, y, hgk, hk, rfl, rfl, hy0, hy1, rfl⟩ := hrel
    by_cases hlt : k < n
    · obtain ⟨x, b, off, cs, hx, rfl, hb, ⟨rfl, b1, b2⟩, hc⟩ := H1.out.get hlt
      have c1 := hc 0 _ rfl
      rw [Nat.add_zero, show Mm.u8.size = 1 from rfl, Nat.mul_one] at c1
      have f1 : (k : Int) < (n : Nat) := by omega
      have f2 : (0 : Int) ≤ (k : Nat) := by omega
      clear hx hc
      go_wp2
      go_roundg (n - (k + 1))
      case measure => omega
      case rel => exact ⟨k + 1, _, Nat.le_refl _, by omega, rfl, by go_num, Int.emod_nonneg _ (by omega), Int.emod_lt_of_pos _ (by omega), rfl⟩
    · go_wp2
      go_ret
      exact ⟨y, rfl, hy0, hy1, rfl⟩
end Go.Proofs.Ytnppcdiicnofpaa

/-
  Contracts: the laws' own comparison of labels and of totals, at equal data (chapter 14). No conditions.
-/
namespace Go.Proofs.Ytnppcdiicnofpaa
open Go.RowKit
attribute [local go_sem] und_cell World.cell?_alloc_some
set_option maxRecDepth 100000 in
set_option maxHeartbeats 1000000 in
theorem sameLabels_c (l : List Label) (A A' : Option Addr) (n n' c c' : Nat) (w : World) (B : Nat) (h1 : Mm.SlAt rLabel w B l A n c) (h2 : Mm.SlAt rLabel w B l A' n' c') (hB : B ≤ w.heap.size) :
    Calls Try.prog 35 #[.slice A n c, .slice A' n' c'] w fun e w' => e = .returned (.bool true) ∧ Below w.heap.size w w' := by
  obtain rfl : n = n' := h1.1.symm.trans h2.1
  have H1 := Lib.hid h1
  have H2 := Lib.hid h2
  have hlen : n ≤ maxLen := Nat.le_trans h1.2.1 h1.2.2.1
  unfold maxLen at hlen
  clear h1 h2
  go_enter Try.func35, Try.ntmps35
  go_wp2
  go_loopg [13] n (fun gg i wr => ∃ k : Nat, n - k ≤ gg ∧ k ≤ n ∧ i = .int .i64 k ∧ Below w.heap.size w wr)
  case atStart => exact ⟨0, Nat.le_refl _, Nat.zero_le _, rfl, Below.refl _ _⟩
  case round =>
    obtain ⟨k, hgk, hk, rfl, hbel⟩ := hrel
    have HB := Lib.hid hbel
    by_cases hlt : k < n
    · have g1 := rLabel_get (H1.out.keep fun b hb => hbel.block b (by omega)) hlt
      have g2 := rLabel_get (H2.out.keep fun b hb => hbel.block b (by omega)) hlt
      obtain ⟨x, b, off, hx, rfl, hb, u0, u1, x0, x1⟩ := g1
      obtain ⟨y, b', off', hy, rfl, hb', v0, v1, y0, y1⟩ := g2
      obtain rfl : x = y := by rw [hx] at hy; injection hy
      have f1 : (k : Int) < (n : Nat) := by omega
      have f2 : (0 : Int) ≤ (k : Nat) := by omega
      have f3 : ((k : Nat) : Int).toNat = k := by omega
      clear hx hy hbel
      go_wp2
      go_quiet (fail)
      go_wp2
      go_roundg (n - (k + 1))
      case measure => omega
      case rel => exact ⟨k + 1, Nat.le_refl _, by omega, by go_num, below_drewN HB.out _⟩
    · have f1 : ¬ (k : Int) < (n : Nat) := by omega
      go_wp2
      go_ret
      exact ⟨rfl, HB.out⟩
set_option maxRecDepth 100000 in
set_option maxHeartbeats 2000000 in
theorem sameTotals_c (l : List Total) (A A' : Option Addr) (n n' c c' : Nat) (w : World) (B : Nat) (h1 : Mm.SlAt rTotal w B l A n c) (h2 : Mm.SlAt rTotal w B l A' n' c') (hB : B ≤ w.heap.size) :
    Calls Try.prog 26 #[.slice A n c, .slice A' n' c'] w fun e w' => e = .returned (.bool true) ∧ Below w.heap.size w w' := by
  obtain rfl : n = n' := h1.1.symm.trans h2.1
  have H1 := Lib.hid h1
  have H2 := Lib.hid h2
  have hlen : n ≤ maxLen := Nat.le_trans h1.2.1 h1.2.2.1
  unfold maxLen at hlen
  clear h1 h2
  go_enter Try.func26, Try.ntmps26
  go_wp2
  go_loopg [13] n (fun gg i wr => ∃ k : Nat, n - k ≤ gg ∧ k ≤ n ∧ i = .int .i64 k ∧ Below w.heap.size w wr)
  case atStart => exact ⟨0, Nat.le_refl _, Nat.zero_le _, rfl, Below.refl _ _⟩
  case round =>
    obtain ⟨k, hgk, hk, rfl, hbel⟩ := hrel
    obtain ⟨W1, rfl⟩ : ∃ W1 : World, W1 = wr := ⟨_, rfl⟩
    have HB := Lib.hid hbel
    have hBw : B ≤ W1.heap.size := Nat.le_trans hB hbel.size
    by_cases hlt : k < n
    · have g1 := rTotal_get (H1.out.keep fun b hb => hbel.block b (by omega)) hlt
      have g2 := rTotal_get (H2.out.keep fun b hb => hbel.block b (by omega)) hlt
      obtain ⟨x, b, off, P1, p1, q1, hx, rfl, hb, uf0, u1, u2, u3, u4, x0, x1, x2, x3, x4⟩ := g1
      obtain ⟨y, b', off', P2, p2, q2, hy, rfl, hb', vf0, v1, v2, v3, v4, y0, y1, y2, y3, y4⟩ := g2
      obtain rfl : x = y := by rw [hx] at hy; injection hy
      obtain rfl : p1 = p2 := uf0.1.symm.trans vf0.1
      have HF := Lib.hid (And.intro uf0 vf0)
      have f1 : (k : Int) < (n : Nat) := by omega
      have f2 : (0 : Int) ≤ (k : Nat) := by omega
      have f3 : ((k : Nat) : Int).toNat = k := by omega
      clear hx hy hbel uf0 vf0
      have CS := fun z : Und W1 => und_call z (sameLabels_c x.Labels P1 P2 p1 p1 q1 q2 (und W1 z) B (HF.out.1.und hBw z) (HF.out.2.und hBw z) (Nat.le_trans hBw (und_size z)))
      go_wp2
      refine wp_region_und (by kernel_rfl) (by kernel_rfl) ?_
      repeat (go_big_quiet_step ((first | (go_at_call 35; with_reducible exact CS _))))
      refine wpQuiet_nil ?_
      intro X hX
      go_wp2
      go_roundg (n - (k + 1))
      case measure => omega
      case rel => exact ⟨k + 1, Nat.le_refl _, by omega, by go_num, below_step HB.out hX⟩
    · have f1 : ¬ (k : Int) < (n : Nat) := by omega
      go_wp2
      go_ret
      exact ⟨rfl, HB.out⟩
end Go.Proofs.Ytnppcdiicnofpaa
