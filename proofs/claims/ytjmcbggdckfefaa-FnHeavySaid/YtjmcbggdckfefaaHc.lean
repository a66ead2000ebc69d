/-
  Contracts: the reference adds a name to a summary of heavy hitters that it owns. No conditions.
-/
import Derived.Test.YtjmcbggdckfefaaHa
import Derived.Deep.DeepCutAuto
namespace Go.Proofs.Ytjmcbggdckfefaa
open Go.RowKit
attribute [local go_sem] und_cell World.cell?_alloc_some
/-- the two lists of a summary among the things of a call, and what its answer is worth -/
def HvRet (F : List Nat) (w0 : World) (ts : List Mm.Thing) (y : Heavy) (e : Ending) (w' : World) : Prop :=
  ∃ A0 n0 c0 A1 n1 c1 f0 f1, e = .returned (.agg #[.slice A0 n0 c0, .slice A1 n1 c1, .int .i64 y.Gone, .int .i64 y.Total]) ∧ Mm.SepF F w0 w' (Mm.tsl Mm.str 9 y.Names (.slice A0 n0 c0) f0 :: Mm.tsl Mm.int 3 y.Counts (.slice A1 n1 c1) f1 :: ts)
set_option maxRecDepth 100000 in
set_option maxHeartbeats 8000000 in
theorem l15Add_c (h : Heavy) (x : ByteArray) (b : Int) (hI : Pl.HIn h b) (hb : b ≤ 5000000) (hx : x.toList ≠ []) (hxs : x.size ≤ maxLen) (F : List Nat) (w0 wo : World) (ts : List Mm.Thing) (A0 A1 : Option Addr) (n0 c0 n1 c1 : Nat) (f0 f1 : List Nat)
    (hS : Mm.SepF F w0 wo (Mm.tsl Mm.str 9 h.Names (.slice A0 n0 c0) f0 :: Mm.tsl Mm.int 3 h.Counts (.slice A1 n1 c1) f1 :: ts)) :
    Calls Try.prog 67 #[.agg #[.slice A0 n0 c0, .slice A1 n1 c1, .int .i64 h.Gone, .int .i64 h.Total], .string x] wo (HvRet F w0 ts (Pl.hadd h x)) := by
  have hpl := hI.pl
  have hcl := hI.cl
  have hgb := hI.gb
  have htb := hI.tb
  have HCB := Lib.hid hI.cb
  obtain ⟨m, hsort⟩ := hI.so
  have HSO := Lib.hid hsort
  have hm := hsort.le
  obtain ⟨gN, rfl, -, hn0⟩ := Mm.sl_addr (hS.sl 0 rfl) (by omega)
  obtain ⟨gC, rfl, -, hn1⟩ := Mm.sl_addr (hS.sl 1 rfl) (by omega)
  obtain rfl : n0 = n1 := by omega
  have hl0 := Lib.hid hn0.symm
  have hl1 := Lib.hid (show h.Counts.length = n0 by omega)
  have hn6 : n0 ≤ 6 := by omega
  have hn1' : 1 ≤ n0 := by omega
  have hmn : m ≤ n0 := by omega
  have hI6 : Mm.I64 h.Gone ∧ Mm.I64 (h.Total + 1) := by unfold Mm.I64; omega
  have HI6 := Lib.hid hI6
  have htw : IntKind.i64.wrap (h.Total + 1) = h.Total + 1 := IntWalk.i64_in _ (by omega)
  have hlw : IntKind.i64.wrap ((n0 : Int) - 1) = ((n0 - 1 : Nat) : Int) := by rw [IntWalk.i64_in _ (by omega)]; omega
  have HX := Lib.hid hx
  have HXS := Lib.hid hxs
  have HS0 := Lib.hid ((hS.alloc' rfl 38 [.slice (some ⟨gN, 0, none⟩) n0 c0, .slice (some ⟨gC, 0, none⟩) n0 c1, .int .i64 h.Gone, .int .i64 (h.Total + 1)]).alloc' (Mm.sz1 _ _) 38 [.slice none 0 0, .slice none 0 0, .int .i64 0, .int .i64 0])
  clear hS hI hpl hcl hn0 hn1 hI6 hsort hx hxs
  go_enter Try.func67, Try.ntmps67
  go_wp2
  obtain ⟨W, hW⟩ : ∃ W, W = ((wo.alloc (.cells #[.slice (some ⟨gN, 0, none⟩) n0 c0, .slice (some ⟨gC, 0, none⟩) n0 c1, .int .i64 h.Gone, .int .i64 (h.Total + 1)] 38)).alloc (.cells #[.slice none 0 0, .slice none 0 0, .int .i64 0, .int .i64 0] 38)) := ⟨_, rfl⟩
  have HS1 : Hid (Mm.SepF F w0 W (Mm.tblk (wo.heap.size + 1) 38 [.slice none 0 0, .slice none 0 0, .int .i64 0, .int .i64 0] :: Mm.tblk wo.heap.size 38 [.slice (some ⟨gN, 0, none⟩) n0 c0, .slice (some ⟨gC, 0, none⟩) n0 c1, .int .i64 h.Gone, .int .i64 (h.Total + 1)] :: Mm.tsl Mm.str 9 h.Names (.slice (some ⟨gN, 0, none⟩) n0 c0) f0 :: Mm.tsl Mm.int 3 h.Counts (.slice (some ⟨gC, 0, none⟩) n0 c1) f1 :: ts)) := by
    subst hW; exact HS0.out
  clear HS0
  rw [← hW]
  clear hW
  have q0 := HS1.out.cell (k := 0) 1 rfl rfl
  have q1 := HS1.out.cell (k := 1) 1 rfl rfl
  have q2 := HS1.out.cell (k := 2) 1 rfl rfl
  have q3 := HS1.out.cell (k := 3) 1 rfl rfl
  have r0 := HS1.out.cell (k := 0) 0 rfl rfl
  have r1 := HS1.out.cell (k := 1) 0 rfl rfl
  have r2 := HS1.out.cell (k := 2) 0 rfl rfl
  have r3 := HS1.out.cell (k := 3) 0 rfl rfl
  have x0 := HS1.out.frz (k := 0) 0 rfl
  have x1 := HS1.out.frz (k := 1) 0 rfl
  have x2 := HS1.out.frz (k := 2) 0 rfl
  have x3 := HS1.out.frz (k := 3) 0 rfl
  have hC0 : wo.heap.size ≠ gC := fun e => HS1.out.apart (i := 3) (j := 1) rfl rfl (by decide) gC (HS1.out.sl 3 rfl).mem_block (by simp [Mm.tblk, e])
  have hC1 : wo.heap.size + 1 ≠ gC := fun e => HS1.out.apart (i := 3) (j := 0) rfl rfl (by decide) gC (HS1.out.sl 3 rfl).mem_block (by simp [Mm.tblk, e])
  have hN0 : wo.heap.size ≠ gN := fun e => HS1.out.apart (i := 2) (j := 1) rfl rfl (by decide) gN (HS1.out.sl 2 rfl).mem_block (by simp [Mm.tblk, e])
  have hN1 : wo.heap.size + 1 ≠ gN := fun e => HS1.out.apart (i := 2) (j := 0) rfl rfl (by decide) gN (HS1.out.sl 2 rfl).mem_block (by simp [Mm.tblk, e])
  have hNC : gN ≠ gC := fun e => HS1.out.apart (i := 2) (j := 3) rfl rfl (by decide) gN (HS1.out.sl 2 rfl).mem_block (by rw [e]; exact (HS1.out.sl 3 rfl).mem_block)
  go_loopg [17] n0 (fun g i wx => wx = W ∧ ∃ k : Nat, n0 - k ≤ g ∧ k ≤ n0 ∧ i = .int .i64 k ∧ Hid (∀ t, t < k → Pl.strAt h.Names t ≠ x))
  case atStart => exact ⟨rfl, 0, Nat.le_refl _, Nat.zero_le _, rfl, fun t ht => by omega⟩
  case round =>
    obtain ⟨rfl, k, hgk, hk, rfl, HNE⟩ := hrel
    by_cases hlt : k < n0
    · obtain ⟨s, hs⟩ : ∃ s, h.Names[k]? = some s := ⟨_, List.getElem?_eq_getElem (by rw [hl0.out]; exact hlt)⟩
      have e0 := Mm.flat1_str.cell (HS1.out.sl 2 rfl) hs
      have HSs := Lib.hid (Pl.strAt_of hs)
      cases he : (s.toList == x.toList)
      · have HNE2 : Hid (∀ t, t < k + 1 → Pl.strAt h.Names t ≠ x) := fun t ht => by
          rcases Nat.lt_or_eq_of_le (Nat.le_of_lt_succ ht) with h1 | h1
          · exact HNE.out t h1
          · subst h1; rw [HSs.out]; intro e; subst e; simp at he
        clear hs
        go_wp2
        go_roundg (n0 - (k + 1))
        case measure => omega
        case rel => exact ⟨rfl, k + 1, Nat.le_refl _, by omega, by go_num, HNE2.out⟩
      · have hsx : s = x := Pl.ba_inj (by simpa using he)
        obtain ⟨y, hy⟩ : ∃ y, h.Counts[k]? = some y := ⟨_, List.getElem?_eq_getElem (by rw [hl1.out]; exact hlt)⟩
        have e1 := Mm.flat1_int.cell (HS1.out.sl 3 rfl) hy
        have e2 := (HS1.out.sl 3 rfl).frozen k
        have hyb := HCB.out k y hy
        have hyw : IntKind.i64.wrap (y + 1) = y + 1 := IntWalk.i64_in _ (by omega)
        have HF : Hid (Pl.hadd h x = ⟨h.Names, h.Counts.set k (y + 1), h.Gone, h.Total + 1⟩) := by
          show _ = _
          have hix : Pl.idx h.Names x = k := Pl.idxFrom_eq (by rw [HSs.out]; exact hsx) _ 0 (Nat.zero_le _) (by rw [hl0.out]; omega) fun t _ ht => HNE.out t ht
          unfold Pl.hadd
          rw [if_pos (by rw [hix]; omega), hix, Int.toNat_natCast, Pl.getD_of hy]
        have HS2 := Lib.hid (HS1.out.put1 (x' := y + 1) (u := .int .i64 (y + 1)) 3 rfl rfl hy (fun cs fx ho => ⟨rfl, by unfold Mm.I64; omega, ho.2.2⟩))
        have HS6 := Lib.hid ((((HS2.out.setBlk (k := 0) 0 rfl (.slice (some ⟨gN, 0, none⟩) n0 c0)).setBlk (k := 1) 0 rfl (.slice (some ⟨gC, 0, none⟩) n0 c1)).setBlk (k := 2) 0 rfl (.int .i64 h.Gone)).setBlk (k := 3) 0 rfl (.int .i64 (h.Total + 1))).tail.tail
        clear hs hy
        go_wp2
        rw [HF.out]
        exact bodyPost_ret (v := .agg #[.slice (some ⟨gN, 0, none⟩) n0 c0, .slice (some ⟨gC, 0, none⟩) n0 c1, .int .i64 h.Gone, .int .i64 (h.Total + 1)]) (by simp [results, Try.results67, go_sem, r0, r1, r2, r3]) rfl ⟨_, _, _, _, _, _, _, _, rfl, HS6.out⟩
    · obtain rfl : k = n0 := by omega
      have HIX : Hid (Pl.idx h.Names x = -1) := Pl.idxFrom_none _ 0 fun t _ ht => HNE.out t (by rw [hl0.out] at ht; omega)
      obtain ⟨s, hs⟩ : ∃ s, h.Names[k - 1]? = some s := ⟨_, List.getElem?_eq_getElem (by rw [hl0.out]; omega)⟩
      have e0 := Mm.flat1_str.cell (HS1.out.sl 2 rfl) hs
      have HSs := Lib.hid (Pl.strAt_of hs)
      have hfull := HSO.out.full (by rw [hl0.out]; omega)
      rw [hl0.out, HSs.out] at hfull
      clear hs HNE
      have hk1 : (0 : Int) ≤ ((k - 1 : Nat) : Int) := by omega
      have hk2 : ((k - 1 : Nat) : Int) < (k : Int) := by omega
      have hk3 : k - 1 < k := by omega
      obtain ⟨W, rfl⟩ : ∃ W : World, W = wr := ⟨_, rfl⟩
      by_cases hse : s.toList = []
      · obtain rfl : s = ⟨#[]⟩ := Pl.ba_nil hse
        have hmk : m < k := by
          rcases Nat.lt_or_ge m k with h1 | h1
          · exact h1
          · exact absurd hse (hfull.2 (by omega))
        have HP := Lib.hid (HSO.out.pos x)
        obtain ⟨p, hp⟩ : ∃ p, Pl.posN h.Names x = p := ⟨_, rfl⟩
        have HF : Hid (Pl.hadd h x = ⟨Pl.insAt h.Names p x, Pl.insAt h.Counts p 1, h.Gone, h.Total + 1⟩) := by
          show _ = _
          unfold Pl.hadd
          rw [HIX.out, if_neg (by decide), hl0.out, HSs.out, if_neg (fun hh => hh hse), hp]
        rw [hp] at HP
        clear hp hfull hse
        have hpm := HP.out.1
        go_wp2
        go_loopg [8] k (fun g i wx => wx = W ∧ ∃ j : Nat, k - j ≤ g ∧ j ≤ p ∧ i = .int .i64 j)
        case atStart => exact ⟨rfl, 0, Nat.le_refl _, Nat.zero_le _, rfl⟩
        case round =>
          obtain ⟨rfl, j, hgj, hj, rfl⟩ := hrel
          obtain ⟨s, hs⟩ : ∃ s, h.Names[j]? = some s := ⟨_, List.getElem?_eq_getElem (by rw [hl0.out]; omega)⟩
          have e1 := Mm.flat1_str.cell (HS1.out.sl 2 rfl) hs
          have hjk : (j : Int) < (k : Int) := by omega
          by_cases hjp : j < p
          · have hls : Op.bytesLess s.toList x.toList = true := by have := HP.out.2.1 j hjp; rw [Pl.strAt_of hs] at this; exact this
            have hse : s.toList.isEmpty = false := by
              have := HSO.out.used j s (by omega) hs
              cases hz : s.toList with
              | nil => exact absurd hz this
              | cons => rfl
            clear hs
            go_wp2
            go_roundg (k - (j + 1))
            case measure => omega
            case rel => exact ⟨rfl, j + 1, Nat.le_refl _, by omega, by go_num⟩
          · obtain rfl : j = p := by omega
            by_cases hjm : j < m
            · have hls : Op.bytesLess s.toList x.toList = false := by have := HP.out.2.2 j (Nat.le_refl _) hjm; rw [Pl.strAt_of hs] at this; exact this
              have hse : s.toList.isEmpty = false := by
                have := HSO.out.used j s (by omega) hs
                cases hz : s.toList with
                | nil => exact absurd hz this
                | cons => rfl
              clear hs
              have hjk1 : j < k := by omega
              go_wp2
              clear e1 HP hgj hjk
              go_loopg [9] k (fun g i wx => ∃ q : Nat, q ≤ g ∧ j ≤ q ∧ q < k ∧ i = .int .i64 q ∧ Hid (Mm.SepF F w0 wx (Mm.tblk (wo.heap.size + 1) 38 [.slice none 0 0, .slice none 0 0, .int .i64 0, .int .i64 0] :: Mm.tblk wo.heap.size 38 [.slice (some ⟨gN, 0, none⟩) k c0, .slice (some ⟨gC, 0, none⟩) k c1, .int .i64 h.Gone, .int .i64 (h.Total + 1)] :: Mm.tsl Mm.str 9 (Pl.shf h.Names q) (.slice (some ⟨gN, 0, none⟩) k c0) f0 :: Mm.tsl Mm.int 3 (Pl.shf h.Counts q) (.slice (some ⟨gC, 0, none⟩) k c1) f1 :: ts)))
              case atStart => exact ⟨k - 1, by omega, by omega, by omega, rfl, by
                have e1 := Pl.shf_start h.Names (by rw [hl0.out]; omega)
                have e2 := Pl.shf_start h.Counts (by rw [hl1.out]; omega)
                rw [hl0.out] at e1
                rw [hl1.out] at e2
                rw [e1, e2]; exact HS1.out⟩
              case round =>
                obtain ⟨q, hgq, hjq, hqk, rfl, HS⟩ := hrel
                obtain ⟨V, rfl⟩ : ∃ V : World, V = wr := ⟨_, rfl⟩
                have q0 := HS.out.cell (k := 0) 1 rfl rfl
                have q1 := HS.out.cell (k := 1) 1 rfl rfl
                have q2 := HS.out.cell (k := 2) 1 rfl rfl
                have q3 := HS.out.cell (k := 3) 1 rfl rfl
                obtain ⟨u, hu⟩ : ∃ u, (Pl.shf h.Names q)[q]? = some u := ⟨_, List.getElem?_eq_getElem (by rw [Pl.shf_len _ _ (by rw [hl0.out]; exact hqk), hl0.out]; exact hqk)⟩
                obtain ⟨y, hy⟩ : ∃ y, (Pl.shf h.Counts q)[q]? = some y := ⟨_, List.getElem?_eq_getElem (by rw [Pl.shf_len _ _ (by rw [hl1.out]; exact hqk), hl1.out]; exact hqk)⟩
                have u0 := Mm.flat1_str.cell (HS.out.sl 2 rfl) hu
                have u1 := (HS.out.sl 2 rfl).frozen q
                have v0 := Mm.flat1_int.cell (HS.out.sl 3 rfl) hy
                have v1 := (HS.out.sl 3 rfl).frozen q
                have p1 : (0 : Int) ≤ (q : Int) := by omega
                have p2 : (q : Int) < (k : Int) := by omega
                by_cases hlt : j < q
                · obtain ⟨s1, hs1⟩ : ∃ s1, h.Names[q - 1]? = some s1 := ⟨_, List.getElem?_eq_getElem (by rw [hl0.out]; omega)⟩
                  obtain ⟨y1, hy1⟩ : ∃ y1, h.Counts[q - 1]? = some y1 := ⟨_, List.getElem?_eq_getElem (by rw [hl1.out]; omega)⟩
                  have hs1' := (Pl.shf_prev (l := h.Names) (i := q) (by rw [hl0.out]; exact hqk) (by omega)).trans hs1
                  have hy1' := (Pl.shf_prev (l := h.Counts) (i := q) (by rw [hl1.out]; exact hqk) (by omega)).trans hy1
                  have u2 := Mm.flat1_str.cell (HS.out.sl 2 rfl) hs1'
                  have v2 := Mm.flat1_int.cell (HS.out.sl 3 rfl) hy1'
                  have p3 : IntKind.i64.wrap ((q : Int) - 1) = ((q - 1 : Nat) : Int) := by rw [IntWalk.i64_in _ (by omega)]; omega
                  have p4 : (0 : Int) ≤ ((q - 1 : Nat) : Int) := by omega
                  have p5 : ((q - 1 : Nat) : Int) < (k : Int) := by omega
                  have HSN : Hid ((Pl.shf h.Names q).set q s1 = Pl.shf h.Names (q - 1)) := Pl.shf_next (by rw [hl0.out]; exact hqk) (by omega) hs1
                  have HSC : Hid ((Pl.shf h.Counts q).set q y1 = Pl.shf h.Counts (q - 1)) := Pl.shf_next (by rw [hl1.out]; exact hqk) (by omega) hy1
                  have HS2 := Lib.hid ((HS.out.put1 (x' := s1) (u := .string s1) 2 rfl rfl hu (fun cs fx ho => by
                    obtain ⟨cs', fx', ho'⟩ : ∃ cs' fx', Mm.str.own V s1 cs' fx' := ⟨_, _, (Mm.flat1_str.owns (HS.out.sl 2 rfl)).2.2 s1 (List.mem_of_getElem? hs1') V⟩
                    have h2 := (Mm.flat1_str.inv ho').2.2 V
                    rw [(Mm.flat1_str.inv ho).2.1]; exact h2)).put1 (x' := y1) (u := .int .i64 y1) 3 rfl rfl hy (fun cs fx ho => by
                    have h2 := (Mm.flat1_int.owns (HS.out.sl 3 rfl)).2.2 y1 (List.mem_of_getElem? hy1') (V.setCell ⟨gN, q, none⟩ (.string s1))
                    rw [(Mm.flat1_int.inv ho).2.1]; exact h2))
                  clear hs1 hy1 hs1' hy1' hu hy
                  go_wp2
                  go_region
                  all_goals
                    go_wp2
                    go_region
                    all_goals
                      go_wp2
                      go_roundg (q - 1)
                      case measure => omega
                      case rel => exact ⟨q - 1, Nat.le_refl _, by omega, by omega, rfl, by rw [← HSN.out, ← HSC.out]; exact HS2.out.step (Below.refl _ _).drew.drew⟩
                · obtain rfl : q = j := by omega
                  have HSN : Hid ((Pl.shf h.Names q).set q x = Pl.insAt h.Names q x) := Pl.shf_done (by rw [hl0.out]; exact hqk)
                  have HSC : Hid ((Pl.shf h.Counts q).set q 1 = Pl.insAt h.Counts q 1) := Pl.shf_done (by rw [hl1.out]; exact hqk)
                  have r0 := HS.out.cell (k := 0) 0 rfl rfl
                  have r1 := HS.out.cell (k := 1) 0 rfl rfl
                  have r2 := HS.out.cell (k := 2) 0 rfl rfl
                  have r3 := HS.out.cell (k := 3) 0 rfl rfl
                  have x0 := HS.out.frz (k := 0) 0 rfl
                  have x1 := HS.out.frz (k := 1) 0 rfl
                  have x2 := HS.out.frz (k := 2) 0 rfl
                  have x3 := HS.out.frz (k := 3) 0 rfl
                  have HS2 := Lib.hid ((HS.out.put1 (x' := x) (u := .string x) 2 rfl rfl hu (fun cs fx ho => by
                    rw [(Mm.flat1_str.inv ho).2.1]; exact ⟨rfl, HXS.out, rfl⟩)).put1 (x' := 1) (u := .int .i64 1) 3 rfl rfl hy (fun cs fx ho => by
                    rw [(Mm.flat1_int.inv ho).2.1]; exact ⟨rfl, by unfold Mm.I64; omega, rfl⟩))
                  have HS3 := HS2.out
                  simp only [List.set_cons_succ, List.set_cons_zero] at HS3
                  rw [HSN.out, HSC.out] at HS3
                  have HS6 := Lib.hid ((((HS3.setBlk (k := 0) 0 rfl (.slice (some ⟨gN, 0, none⟩) k c0)).setBlk (k := 1) 0 rfl (.slice (some ⟨gC, 0, none⟩) k c1)).setBlk (k := 2) 0 rfl (.int .i64 h.Gone)).setBlk (k := 3) 0 rfl (.int .i64 (h.Total + 1))).tail.tail
                  clear hu hy HS3
                  go_wp2
                  rw [HF.out]
                  exact bodyPost_ret (v := .agg #[.slice (some ⟨gN, 0, none⟩) k c0, .slice (some ⟨gC, 0, none⟩) k c1, .int .i64 h.Gone, .int .i64 (h.Total + 1)]) (by simp [results, Try.results67, go_sem, r0, r1, r2, r3]) rfl ⟨_, _, _, _, _, _, _, _, rfl, HS6.out⟩
            · obtain rfl : s = ⟨#[]⟩ := Pl.ba_nil (HSO.out.free j s (by omega) hs)
              clear hs
              have hjk1 : j < k := by omega
              go_wp2
              clear e1 HP hgj hjk
              go_loopg [9] k (fun g i wx => ∃ q : Nat, q ≤ g ∧ j ≤ q ∧ q < k ∧ i = .int .i64 q ∧ Hid (Mm.SepF F w0 wx (Mm.tblk (wo.heap.size + 1) 38 [.slice none 0 0, .slice none 0 0, .int .i64 0, .int .i64 0] :: Mm.tblk wo.heap.size 38 [.slice (some ⟨gN, 0, none⟩) k c0, .slice (some ⟨gC, 0, none⟩) k c1, .int .i64 h.Gone, .int .i64 (h.Total + 1)] :: Mm.tsl Mm.str 9 (Pl.shf h.Names q) (.slice (some ⟨gN, 0, none⟩) k c0) f0 :: Mm.tsl Mm.int 3 (Pl.shf h.Counts q) (.slice (some ⟨gC, 0, none⟩) k c1) f1 :: ts)))
              case atStart => exact ⟨k - 1, by omega, by omega, by omega, rfl, by
                have e1 := Pl.shf_start h.Names (by rw [hl0.out]; omega)
                have e2 := Pl.shf_start h.Counts (by rw [hl1.out]; omega)
                rw [hl0.out] at e1
                rw [hl1.out] at e2
                rw [e1, e2]; exact HS1.out⟩
              case round =>
                obtain ⟨q, hgq, hjq, hqk, rfl, HS⟩ := hrel
                obtain ⟨V, rfl⟩ : ∃ V : World, V = wr := ⟨_, rfl⟩
                have q0 := HS.out.cell (k := 0) 1 rfl rfl
                have q1 := HS.out.cell (k := 1) 1 rfl rfl
                have q2 := HS.out.cell (k := 2) 1 rfl rfl
                have q3 := HS.out.cell (k := 3) 1 rfl rfl
                obtain ⟨u, hu⟩ : ∃ u, (Pl.shf h.Names q)[q]? = some u := ⟨_, List.getElem?_eq_getElem (by rw [Pl.shf_len _ _ (by rw [hl0.out]; exact hqk), hl0.out]; exact hqk)⟩
                obtain ⟨y, hy⟩ : ∃ y, (Pl.shf h.Counts q)[q]? = some y := ⟨_, List.getElem?_eq_getElem (by rw [Pl.shf_len _ _ (by rw [hl1.out]; exact hqk), hl1.out]; exact hqk)⟩
                have u0 := Mm.flat1_str.cell (HS.out.sl 2 rfl) hu
                have u1 := (HS.out.sl 2 rfl).frozen q
                have v0 := Mm.flat1_int.cell (HS.out.sl 3 rfl) hy
                have v1 := (HS.out.sl 3 rfl).frozen q
                have p1 : (0 : Int) ≤ (q : Int) := by omega
                have p2 : (q : Int) < (k : Int) := by omega
                by_cases hlt : j < q
                · obtain ⟨s1, hs1⟩ : ∃ s1, h.Names[q - 1]? = some s1 := ⟨_, List.getElem?_eq_getElem (by rw [hl0.out]; omega)⟩
                  obtain ⟨y1, hy1⟩ : ∃ y1, h.Counts[q - 1]? = some y1 := ⟨_, List.getElem?_eq_getElem (by rw [hl1.out]; omega)⟩
                  have hs1' := (Pl.shf_prev (l := h.Names) (i := q) (by rw [hl0.out]; exact hqk) (by omega)).trans hs1
                  have hy1' := (Pl.shf_prev (l := h.Counts) (i := q) (by rw [hl1.out]; exact hqk) (by omega)).trans hy1
                  have u2 := Mm.flat1_str.cell (HS.out.sl 2 rfl) hs1'
                  have v2 := Mm.flat1_int.cell (HS.out.sl 3 rfl) hy1'
                  have p3 : IntKind.i64.wrap ((q : Int) - 1) = ((q - 1 : Nat) : Int) := by rw [IntWalk.i64_in _ (by omega)]; omega
                  have p4 : (0 : Int) ≤ ((q - 1 : Nat) : Int) := by omega
                  have p5 : ((q - 1 : Nat) : Int) < (k : Int) := by omega
                  have HSN : Hid ((Pl.shf h.Names q).set q s1 = Pl.shf h.Names (q - 1)) := Pl.shf_next (by rw [hl0.out]; exact hqk) (by omega) hs1
                  have HSC : Hid ((Pl.shf h.Counts q).set q y1 = Pl.shf h.Counts (q - 1)) := Pl.shf_next (by rw [hl1.out]; exact hqk) (by omega) hy1
                  have HS2 := Lib.hid ((HS.out.put1 (x' := s1) (u := .string s1) 2 rfl rfl hu (fun cs fx ho => by
                    obtain ⟨cs', fx', ho'⟩ : ∃ cs' fx', Mm.str.own V s1 cs' fx' := ⟨_, _, (Mm.flat1_str.owns (HS.out.sl 2 rfl)).2.2 s1 (List.mem_of_getElem? hs1') V⟩
                    have h2 := (Mm.flat1_str.inv ho').2.2 V
                    rw [(Mm.flat1_str.inv ho).2.1]; exact h2)).put1 (x' := y1) (u := .int .i64 y1) 3 rfl rfl hy (fun cs fx ho => by
                    have h2 := (Mm.flat1_int.owns (HS.out.sl 3 rfl)).2.2 y1 (List.mem_of_getElem? hy1') (V.setCell ⟨gN, q, none⟩ (.string s1))
                    rw [(Mm.flat1_int.inv ho).2.1]; exact h2))
                  clear hs1 hy1 hs1' hy1' hu hy
                  go_wp2
                  go_region
                  all_goals
                    go_wp2
                    go_region
                    all_goals
                      go_wp2
                      go_roundg (q - 1)
                      case measure => omega
                      case rel => exact ⟨q - 1, Nat.le_refl _, by omega, by omega, rfl, by rw [← HSN.out, ← HSC.out]; exact HS2.out.step (Below.refl _ _).drew.drew⟩
                · obtain rfl : q = j := by omega
                  have HSN : Hid ((Pl.shf h.Names q).set q x = Pl.insAt h.Names q x) := Pl.shf_done (by rw [hl0.out]; exact hqk)
                  have HSC : Hid ((Pl.shf h.Counts q).set q 1 = Pl.insAt h.Counts q 1) := Pl.shf_done (by rw [hl1.out]; exact hqk)
                  have r0 := HS.out.cell (k := 0) 0 rfl rfl
                  have r1 := HS.out.cell (k := 1) 0 rfl rfl
                  have r2 := HS.out.cell (k := 2) 0 rfl rfl
                  have r3 := HS.out.cell (k := 3) 0 rfl rfl
                  have x0 := HS.out.frz (k := 0) 0 rfl
                  have x1 := HS.out.frz (k := 1) 0 rfl
                  have x2 := HS.out.frz (k := 2) 0 rfl
                  have x3 := HS.out.frz (k := 3) 0 rfl
                  have HS2 := Lib.hid ((HS.out.put1 (x' := x) (u := .string x) 2 rfl rfl hu (fun cs fx ho => by
                    rw [(Mm.flat1_str.inv ho).2.1]; exact ⟨rfl, HXS.out, rfl⟩)).put1 (x' := 1) (u := .int .i64 1) 3 rfl rfl hy (fun cs fx ho => by
                    rw [(Mm.flat1_int.inv ho).2.1]; exact ⟨rfl, by unfold Mm.I64; omega, rfl⟩))
                  have HS3 := HS2.out
                  simp only [List.set_cons_succ, List.set_cons_zero] at HS3
                  rw [HSN.out, HSC.out] at HS3
                  have HS6 := Lib.hid ((((HS3.setBlk (k := 0) 0 rfl (.slice (some ⟨gN, 0, none⟩) k c0)).setBlk (k := 1) 0 rfl (.slice (some ⟨gC, 0, none⟩) k c1)).setBlk (k := 2) 0 rfl (.int .i64 h.Gone)).setBlk (k := 3) 0 rfl (.int .i64 (h.Total + 1))).tail.tail
                  clear hu hy HS3
                  go_wp2
                  rw [HF.out]
                  exact bodyPost_ret (v := .agg #[.slice (some ⟨gN, 0, none⟩) k c0, .slice (some ⟨gC, 0, none⟩) k c1, .int .i64 h.Gone, .int .i64 (h.Total + 1)]) (by simp [results, Try.results67, go_sem, r0, r1, r2, r3]) rfl ⟨_, _, _, _, _, _, _, _, rfl, HS6.out⟩
      · have hse' : s.toList.isEmpty = false := by
          cases hz : s.toList with
          | nil => exact absurd hz hse
          | cons => rfl
        have HF : Hid (Pl.hadd h x = lessV ⟨h.Names, h.Counts, h.Gone, h.Total + 1⟩) := by
          show _ = _
          unfold Pl.hadd
          rw [HIX.out, if_neg (by decide), hl0.out, HSs.out, if_pos hse]
          rfl
        clear hfull hse
        have HAT := Lib.hid (show rHeavy.at_ W W.heap.size ⟨h.Names, h.Counts, h.Gone, h.Total + 1⟩ [.slice (some ⟨gN, 0, none⟩) k c0, .slice (some ⟨gC, 0, none⟩) k c1, .int .i64 h.Gone, .int .i64 (h.Total + 1)] from rHeavy_at_mk (x := ⟨h.Names, h.Counts, h.Gone, h.Total + 1⟩) ((HS1.out.sl 2 rfl).weak (HS1.out.sl 2 rfl).olt) ((HS1.out.sl 3 rfl).weak (HS1.out.sl 3 rfl).olt) HI6.out.1 HI6.out.2)
        go_wp2_with (go_at_call 95; refine (l15Less_c ⟨h.Names, h.Counts, h.Gone, h.Total + 1⟩ [.slice (some ⟨gN, 0, none⟩) k c0, .slice (some ⟨gC, 0, none⟩) k c1, .int .i64 h.Gone, .int .i64 (h.Total + 1)] W W.heap.size HAT.out (Nat.le_refl _) (by show h.Names.length ≤ 6; rw [hl0.out]; omega) (by show h.Counts.length = h.Names.length; rw [hl0.out, hl1.out]) (fun i y hy => by have := HCB.out i y hy; omega) (by show 0 ≤ h.Gone ∧ h.Gone ≤ 10000000; omega)).mono ?_; rintro e w2 ⟨cs2, fp2, rfl, ho2, hnd2, hf2, hb2⟩; obtain ⟨A2, n2, c2, A3, n3, c3, f2, f3, rfl, -⟩ := rHeavy_own ho2; (have HS2 := Lib.hid (HS1.out.add hb2 (t := Mm.tow rHeavy (lessV ⟨h.Names, h.Counts, h.Gone, h.Total + 1⟩) [.slice A2 n2 c2, .slice A3 n3 c3, .int .i64 (lessV ⟨h.Names, h.Counts, h.Gone, h.Total + 1⟩).Gone, .int .i64 (lessV ⟨h.Names, h.Counts, h.Gone, h.Total + 1⟩).Total] fp2) ho2 hnd2 hf2)); (have r0 := HS2.out.cell (k := 0) 1 rfl rfl); (have r1 := HS2.out.cell (k := 1) 1 rfl rfl); (have r2 := HS2.out.cell (k := 2) 1 rfl rfl); (have r3 := HS2.out.cell (k := 3) 1 rfl rfl); (have x0 := HS2.out.frz (k := 0) 1 rfl); (have x1 := HS2.out.frz (k := 1) 1 rfl); (have x2 := HS2.out.frz (k := 2) 1 rfl); (have x3 := HS2.out.frz (k := 3) 1 rfl); clear ho2 hnd2 hf2 hb2)
        have HS6 := Lib.hid (((((HS2.out.setBlk (k := 0) 1 rfl (.slice A2 n2 c2)).setBlk (k := 1) 1 rfl (.slice A3 n3 c3)).setBlk (k := 2) 1 rfl (.int .i64 (lessV ⟨h.Names, h.Counts, h.Gone, h.Total + 1⟩).Gone)).setBlk (k := 3) 1 rfl (.int .i64 (lessV ⟨h.Names, h.Counts, h.Gone, h.Total + 1⟩).Total)).sub (List.Sublist.cons_cons _ (.cons _ (.cons _ (.cons _ (.cons _ (List.Sublist.refl _)))))))
        obtain ⟨A4, n4, c4, A5, n5, c5, f4, f5, hcs, HS7⟩ := hv_split HS6.out
        simp only [List.cons.injEq, Value.slice.injEq, and_true] at hcs
        obtain ⟨⟨rfl, rfl, rfl⟩, rfl, rfl, rfl⟩ := hcs
        rw [HF.out]
        exact bodyPost_ret (v := .agg #[.slice A2 n2 c2, .slice A3 n3 c3, .int .i64 (h.Gone + 1), .int .i64 (h.Total + 1)]) (by simp [results, Try.results67, go_sem, r0, r1, r2, r3]; exact ⟨rfl, rfl⟩) rfl ⟨_, _, _, _, _, _, _, _, rfl, HS7⟩
theorem l15Add_y (h y : Heavy) (x : ByteArray) (b : Int) (hI : Pl.HIn h b) (hb : b ≤ 5000000) (hx : x.toList ≠ []) (hxs : x.size ≤ maxLen) (hy : Pl.hadd h x = y) (F : List Nat) (w0 wr : World) (ts : List Mm.Thing) (A0 A1 : Option Addr) (n0 c0 n1 c1 : Nat) (f0 f1 : List Nat)
    (hS : Mm.SepF F w0 wr (Mm.tsl Mm.str 9 h.Names (.slice A0 n0 c0) f0 :: Mm.tsl Mm.int 3 h.Counts (.slice A1 n1 c1) f1 :: ts)) :
    Calls Try.prog 67 #[.agg #[.slice A0 n0 c0, .slice A1 n1 c1, .int .i64 h.Gone, .int .i64 h.Total], .string x] wr (HvRet F w0 ts y) := by
  subst hy; exact l15Add_c h x b hI hb hx hxs F w0 wr ts A0 A1 n0 c0 n1 c1 f0 f1 hS
end Go.Proofs.Ytjmcbggdckfefaa
