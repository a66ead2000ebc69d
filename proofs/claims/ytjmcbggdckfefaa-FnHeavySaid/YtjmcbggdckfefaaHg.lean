/-
  Contracts: the program adds a name to a summary of heavy hitters behind a pointer. No conditions.
-/
import Derived.Test.YtjmcbggdckfefaaHc
import Derived.Test.YtjmcbggdckfefaaLy
import Derived.Test.YtjmcbggdckfefaaWi
namespace Go.Proofs.Ytjmcbggdckfefaa
open Go.RowKit
attribute [local go_sem] und_cell World.cell?_alloc_some
theorem insS_c {F : List Nat} {w0 W : World} {ts : List Mm.Thing} {i g n c vb k : Nat} {xs : List ByteArray} {x : ByteArray} {fp : List Nat} (h : Mm.SepF F w0 W ts) (hi : ts[i]? = some (Mm.tsl Mm.str 9 xs (.slice (some ⟨g, 0, none⟩) n c) fp)) (hvb : Mm.Blk W vb 9 [.string x]) (hne : vb ≠ g) (hk : k < n) (hn : n ≤ 1000) (hx : x.size ≤ maxLen) :
    Calls Try.prog 97 #[.slice (some ⟨g, 0, none⟩) n c, .int .i64 k, .slice (some ⟨vb, 0, none⟩) 1 1] W fun e w' => ∃ g' c' fp', e = .returned (.slice (some ⟨g', 0, none⟩) (n + 1) c') ∧ n ≤ c' ∧ c' ≤ maxLen ∧ Mm.SepF F w0 w' (ts.set i (Mm.tsl Mm.str 9 (Pl.insAt xs k x) (.slice (some ⟨g', 0, none⟩) n c') fp')) := by
  have hs : Mm.SlOwn Mm.str 9 W xs (.slice (some ⟨g, 0, none⟩) n c) fp := h.at_ i hi
  obtain ⟨cur, hb, hcl, ht, hnl, hnc, hcm, -⟩ := Mm.flat1_str.blk hs
  have hcs : ∀ (j : Nat) (v : Value), (xs.map (fun x => Value.string x))[j]? = some v → W.cell? ⟨g, 0 + j, none⟩ = some v := fun j v hv => by
    rw [List.getElem?_map] at hv
    cases hj : xs[j]? with
    | none => rw [hj] at hv; cases hv
    | some y =>
      rw [hj] at hv
      injection hv with hv
      rw [Nat.zero_add, Mm.flat1_str.cell hs hj]; exact congrArg some hv
  have hvs : ∀ (j : Nat) (v : Value), ([Value.string x])[j]? = some v → W.cell? ⟨vb, 0 + j, none⟩ = some v := fun j v hv => by rw [Nat.zero_add]; exact hvb.cell hv
  have h1c : ∀ v ∈ xs.map (fun x => Value.string x), v.oneCell' = true := fun v hv => by obtain ⟨y, _, rfl⟩ := List.mem_map.1 hv; rfl
  have h1v : ∀ v ∈ [Value.string x], v.oneCell' = true := fun v hv => by rw [List.mem_singleton.1 hv]; rfl
  unfold maxLen at hcm
  by_cases hroom : n + 1 ≤ c
  · refine (Any2.slices_Insert_string_shift lyInsS g 0 n c k vb 0 1 1 (xs.map (fun x => Value.string x)) [.string x] W hk (by omega) hroom (by omega) hne (by rw [List.length_map]; omega) rfl hcs (fun j hj => ?_) (fun j hj => hb.frozen _) hvs h1c h1v _ _ _ _ (Mm.shape_blk hvb) (Mm.shape_blk hb) (by omega) (hvb.frozen _) (hvb.frozen _)).mono ?_
    · obtain ⟨u, hu⟩ : ∃ u, cur[0 + j]? = some u := ⟨_, List.getElem?_eq_getElem (by omega)⟩
      rw [hb.cell hu]; rfl
    · rintro e w' ⟨rfl, rfl⟩
      exact ⟨g, c, fp, rfl, by omega, by unfold maxLen; omega, Mm.ins_shift Mm.flat1_str h hi hk hroom (fun w => ⟨rfl, hx, rfl⟩) (by omega) (by omega)⟩
  · have hG := grownCap_ge W (n + 1) c (ly.t 9)
    have hGm := grownCap_le_maxLen W (n + 1) c (ly.t 9) (by unfold maxLen; omega)
    refine (Any2.slices_Insert_string_grow lyInsS g 0 n c k vb 0 1 1 (xs.map (fun x => Value.string x)) [.string x] W hk (by omega) hnc (by omega) (by omega) (by rw [List.length_map]; omega) rfl hcs hvs h1c h1v).mono ?_
    rintro e w' ⟨rfl, rfl⟩
    exact ⟨_, _, [W.heap.size], rfl, by omega, hGm, Mm.ins_grow Mm.flat1_str h hi hk (fun w => ⟨rfl, hx, rfl⟩) rfl rfl hG hGm rfl⟩
theorem insI_c {F : List Nat} {w0 W : World} {ts : List Mm.Thing} {i g n c vb k : Nat} {xs : List Int} {x : Int} {fp : List Nat} (h : Mm.SepF F w0 W ts) (hi : ts[i]? = some (Mm.tsl Mm.int 3 xs (.slice (some ⟨g, 0, none⟩) n c) fp)) (hvb : Mm.Blk W vb 3 [.int .i64 x]) (hne : vb ≠ g) (hk : k < n) (hn : n ≤ 1000) (hx : Mm.I64 x) :
    Calls Try.prog 98 #[.slice (some ⟨g, 0, none⟩) n c, .int .i64 k, .slice (some ⟨vb, 0, none⟩) 1 1] W fun e w' => ∃ g' c' fp', e = .returned (.slice (some ⟨g', 0, none⟩) (n + 1) c') ∧ n ≤ c' ∧ c' ≤ maxLen ∧ Mm.SepF F w0 w' (ts.set i (Mm.tsl Mm.int 3 (Pl.insAt xs k x) (.slice (some ⟨g', 0, none⟩) n c') fp')) := by
  have hs : Mm.SlOwn Mm.int 3 W xs (.slice (some ⟨g, 0, none⟩) n c) fp := h.at_ i hi
  obtain ⟨cur, hb, hcl, ht, hnl, hnc, hcm, -⟩ := Mm.flat1_int.blk hs
  have hcs : ∀ (j : Nat) (v : Value), (xs.map (fun x => Value.int .i64 x))[j]? = some v → W.cell? ⟨g, 0 + j, none⟩ = some v := fun j v hv => by
    rw [List.getElem?_map] at hv
    cases hj : xs[j]? with
    | none => rw [hj] at hv; cases hv
    | some y =>
      rw [hj] at hv
      injection hv with hv
      rw [Nat.zero_add, Mm.flat1_int.cell hs hj]; exact congrArg some hv
  have hvs : ∀ (j : Nat) (v : Value), ([Value.int .i64 x])[j]? = some v → W.cell? ⟨vb, 0 + j, none⟩ = some v := fun j v hv => by rw [Nat.zero_add]; exact hvb.cell hv
  have h1c : ∀ v ∈ xs.map (fun x => Value.int .i64 x), v.oneCell' = true := fun v hv => by obtain ⟨y, _, rfl⟩ := List.mem_map.1 hv; rfl
  have h1v : ∀ v ∈ [Value.int .i64 x], v.oneCell' = true := fun v hv => by rw [List.mem_singleton.1 hv]; rfl
  unfold maxLen at hcm
  by_cases hroom : n + 1 ≤ c
  · refine (Any2.slices_Insert_int_shift lyInsI g 0 n c k vb 0 1 1 (xs.map (fun x => Value.int .i64 x)) [.int .i64 x] W hk (by omega) hroom (by omega) hne (by rw [List.length_map]; omega) rfl hcs (fun j hj => ?_) (fun j hj => hb.frozen _) hvs h1c h1v _ _ _ _ (Mm.shape_blk hvb) (Mm.shape_blk hb) (by omega) (hvb.frozen _) (hvb.frozen _)).mono ?_
    · obtain ⟨u, hu⟩ : ∃ u, cur[0 + j]? = some u := ⟨_, List.getElem?_eq_getElem (by omega)⟩
      rw [hb.cell hu]; rfl
    · rintro e w' ⟨rfl, rfl⟩
      exact ⟨g, c, fp, rfl, by omega, by unfold maxLen; omega, Mm.ins_shift Mm.flat1_int h hi hk hroom (fun w => ⟨rfl, hx, rfl⟩) (by omega) (by omega)⟩
  · have hG := grownCap_ge W (n + 1) c (ly.t 3)
    have hGm := grownCap_le_maxLen W (n + 1) c (ly.t 3) (by unfold maxLen; omega)
    refine (Any2.slices_Insert_int_grow lyInsI g 0 n c k vb 0 1 1 (xs.map (fun x => Value.int .i64 x)) [.int .i64 x] W hk (by omega) hnc (by omega) (by omega) (by rw [List.length_map]; omega) rfl hcs hvs h1c h1v).mono ?_
    rintro e w' ⟨rfl, rfl⟩
    exact ⟨_, _, [W.heap.size], rfl, by omega, hGm, Mm.ins_grow Mm.flat1_int h hi hk (fun w => ⟨rfl, hx, rfl⟩) rfl rfl hG hGm rfl⟩
/-- binary search among the names in order -/
theorem bs_c {l : List ByteArray} {m : Nat} (hs : Pl.HSort l m) (x : ByteArray) (g c : Nat) (w : World) (hm : m ≤ 1000) (hc : ∀ j, j < m → w.cell? ⟨g, j, none⟩ = some (.string (Pl.strAt l j))) :
    Calls Try.prog 96 #[.slice (some ⟨g, 0, none⟩) m c, .string x] w fun e w' => e = .returned (.tuple #[.int .i64 (Pl.posN l x : Nat), .bool (decide (Pl.posN l x < m ∧ Pl.strAt l (Pl.posN l x) = x))]) ∧ ∃ q, w' = w.drewN q := by
  obtain ⟨h1, h2, h3⟩ := hs.pos x
  have hk : Lib.bsGo (fun t => Op.bytesLess ((fun t => if t < m then Pl.strAt l t else x) t).toList x.toList) m 0 m = Pl.posN l x := by
    refine Lib.bsGo_spec _ _ (fun t ht => ?_) (fun t ht => ?_) m 0 m (by omega) (Nat.zero_le _) h1
    · dsimp only; rw [if_pos (by omega)]; exact h2 t ht
    · dsimp only
      by_cases hm : t < m
      · rw [if_pos hm]; exact h3 t ht hm
      · rw [if_neg hm]; exact Pl.bless_irrefl _
  refine (Any2.slices_BinarySearch_string lyBsS g 0 m c (fun t => if t < m then Pl.strAt l t else x) x w (by omega) (fun j hj => by rw [Nat.zero_add, if_pos hj]; exact hc j hj)).mono ?_
  rintro e w' ⟨rfl, hq⟩
  rw [hk]
  refine ⟨?_, hq⟩
  have : decide (Pl.posN l x < m ∧ (if Pl.posN l x < m then Pl.strAt l (Pl.posN l x) else x) = x) = decide (Pl.posN l x < m ∧ Pl.strAt l (Pl.posN l x) = x) := by
    by_cases hp : Pl.posN l x < m
    · simp [hp]
    · simp [hp]
  rw [this]
/-- a summary behind a pointer among the things of a call, and what the call leaves -/
def HvPtr (F : List Nat) (w0 : World) (ts : List Mm.Thing) (g : Nat) (y : Heavy) (e : Ending) (w' : World) : Prop :=
  ∃ A0 n0 c0 A1 n1 c1 f0 f1, e = .returned (.tuple #[]) ∧ Mm.SepF F w0 w' (Mm.tblk g 38 [.slice A0 n0 c0, .slice A1 n1 c1, .int .i64 y.Gone, .int .i64 y.Total] :: Mm.tsl Mm.str 9 y.Names (.slice A0 n0 c0) f0 :: Mm.tsl Mm.int 3 y.Counts (.slice A1 n1 c1) f1 :: ts)
set_option maxRecDepth 100000 in
set_option maxHeartbeats 8000000 in
theorem hvAdd_c (h y : Heavy) (x : ByteArray) (b : Int) (hI : Pl.HIn h b) (hb : b ≤ 5000000) (hx : x.toList ≠ []) (hxs : x.size ≤ maxLen) (hy : Pl.hadd h x = y) (F : List Nat) (w0 wo : World) (ts : List Mm.Thing) (g : Nat) (A0 A1 : Option Addr) (n0 c0 n1 c1 : Nat) (f0 f1 : List Nat)
    (hS : Mm.SepF F w0 wo (Mm.tblk g 38 [.slice A0 n0 c0, .slice A1 n1 c1, .int .i64 h.Gone, .int .i64 h.Total] :: Mm.tsl Mm.str 9 h.Names (.slice A0 n0 c0) f0 :: Mm.tsl Mm.int 3 h.Counts (.slice A1 n1 c1) f1 :: ts)) :
    Calls Try.prog 73 #[.pointer (some ⟨g, 0, none⟩), .string x] wo (HvPtr F w0 ts g y) := by
  have hpl := hI.pl
  have hcl := hI.cl
  have hgb := hI.gb
  have htb := hI.tb
  have HCB := Lib.hid hI.cb
  obtain ⟨m, hsort⟩ := hI.so
  have HSO := Lib.hid hsort
  have hm := hsort.le
  have HFD := Lib.hid (hsort.found hx)
  have HFU := Lib.hid (hsort.full (by omega))
  obtain ⟨gN, rfl, -, hn0⟩ := Mm.sl_addr (hS.sl 1 rfl) (by omega)
  obtain ⟨gC, rfl, -, hn1⟩ := Mm.sl_addr (hS.sl 2 rfl) (by omega)
  obtain rfl : n0 = n1 := by omega
  have hl0 := Lib.hid hn0.symm
  have hl1 := Lib.hid (show h.Counts.length = n0 by omega)
  have hn6 : n0 ≤ 6 := by omega
  have hn1' : 1 ≤ n0 := by omega
  have hmn : m ≤ n0 := by omega
  have hcap0 : n0 ≤ c0 := ((hS.sl 1 rfl).weak (B := wo.heap.size) (hS.sl 1 rfl).olt).2.1
  have HI6 := Lib.hid (show Mm.I64 h.Gone ∧ Mm.I64 (h.Total + 1) by unfold Mm.I64; omega)
  have htw : IntKind.i64.wrap (h.Total + 1) = h.Total + 1 := IntWalk.i64_in _ (by omega)
  have hgw : IntKind.i64.wrap (h.Gone + 1) = h.Gone + 1 := IntWalk.i64_in _ (by omega)
  have HIF := Lib.hid hsort.idx_free
  rw [hl0.out] at HIF HFU
  have HX := Lib.hid hx
  have HXS := Lib.hid hxs
  have HPO := Lib.hid (hsort.pos x)
  obtain ⟨p, hp⟩ : ∃ p, Pl.posN h.Names x = p := ⟨_, rfl⟩
  have hq0 := hS.cell (k := 0) 0 rfl rfl
  have hq1 := hS.cell (k := 1) 0 rfl rfl
  have hq2 := hS.cell (k := 2) 0 rfl rfl
  have hq3 := hS.cell (k := 3) 0 rfl rfl
  have hz0 := hS.frz (k := 0) 0 rfl
  have hz1 := hS.frz (k := 1) 0 rfl
  have hz2 := hS.frz (k := 2) 0 rfl
  have hz3 := hS.frz (k := 3) 0 rfl
  have HS1 := Lib.hid (hS.setBlk (k := 3) 0 rfl (.int .i64 (h.Total + 1)))
  have hpm := HPO.out.1
  rw [hp] at hpm
  have HIX := Lib.hid (sIdx_c h.Names (some ⟨gN, 0, none⟩) n0 c0 ⟨#[]⟩ (wo.setCell ⟨g, 3, none⟩ (.int .i64 (h.Total + 1))) _ ((HS1.out.sl 1 rfl).weak (HS1.out.sl 1 rfl).olt))
  have HBS := Lib.hid (bs_c hsort x gN c0 (wo.setCell ⟨g, 3, none⟩ (.int .i64 (h.Total + 1))) (by omega) (fun j hj => by
    obtain ⟨z, hz, hzs, _⟩ := hsort.at_ hj
    rw [hzs]
    exact Mm.flat1_str.cell (HS1.out.sl 1 rfl) hz))
  rw [hp] at HBS HPO HFD
  rw [HIF.out] at HIX
  have HP := Lib.hid hp
  have hu1 : (0 : Int) ≤ (m : Int) := by omega
  have hu2 : (m : Int) ≤ (c0 : Int) := by omega
  have hC0 : g ≠ gC := fun e => HS1.out.apart (i := 2) (j := 0) rfl rfl (by decide) gC (HS1.out.sl 2 rfl).mem_block (by simp [Mm.tblk, e])
  have hN0 : g ≠ gN := fun e => HS1.out.apart (i := 1) (j := 0) rfl rfl (by decide) gN (HS1.out.sl 1 rfl).mem_block (by simp [Mm.tblk, e])
  have HY := Lib.hid hy
  clear hS hI hpl hcl hn0 hn1 hsort hx hxs hp hy
  obtain ⟨used, hused⟩ : ∃ u : Int, u = (if m < n0 then (m : Int) else -1) := ⟨_, rfl⟩
  obtain ⟨fnd, hfnd⟩ : ∃ f : Bool, f = decide (p < m ∧ Pl.strAt h.Names p = x) := ⟨_, rfl⟩
  rw [← hfnd] at HBS
  rw [← hused] at HIX
  have HFN := Lib.hid hfnd
  clear hfnd HIF
  go_enter Try.func73, Try.ntmps73
  by_cases hmn' : m < n0
  · obtain rfl : used = (m : Int) := by rw [hused, if_pos hmn']
    clear hused
    have hu3 : ¬ ((m : Int) < 0) := by omega
    have hu4 : (m : Int) < (n0 : Int) := by omega
    cases fnd
    · have hnf : ¬ (p < m ∧ Pl.strAt h.Names p = x) := of_decide_eq_false HFN.out.symm
      have HF : Hid (y = ⟨Pl.insAt h.Names p x, Pl.insAt h.Counts p 1, h.Gone, h.Total + 1⟩) := by
        show _ = _
        rcases HFD.out with hd | hd
        · exact absurd ⟨hd.1, hd.2.1⟩ hnf
        · rw [← HY.out]
          unfold Pl.hadd
          rw [if_neg (by rw [hd.2]; decide), hl0.out, if_neg (fun hh => by have := HFU.out.1 hh; omega), HP.out]
      have hpn : p < n0 := by omega
      go_wp2_with first
        | (go_at_call 93; (with_reducible refine HIX.out.mono ?_); rintro e w' ⟨rfl, rfl⟩)
        | (go_at_call 96; (with_reducible refine HBS.out.mono ?_); rintro e w1 ⟨rfl, q, hqw⟩; (have HS2 := Lib.hid (hqw ▸ HS1.out.step (below_drewN (Below.refl _ _) q))); (have r0 := HS2.out.cell (k := 0) 0 rfl rfl); (have r1 := HS2.out.cell (k := 1) 0 rfl rfl); (have hgl := (HS2.out.sl 1 rfl).olt gN (HS2.out.sl 1 rfl).mem_block); (have HCI := Lib.hid (insS_c (W := w1.alloc (.cells #[.string x] 9)) (i := 1) (vb := w1.heap.size) (HS2.out.step (below_new (Below.refl _ _) _)) rfl (Mm.Blk.new w1 9 [.string x]) (by omega) hpn (by omega) HXS.out)); clear hqw)
        | (go_at_call 97; (with_reducible refine HCI.out.mono ?_); rintro e w3 ⟨g3, c3, f3, rfl, hc3, hcm3, hs3⟩; (have HS3 := Lib.hid (hs3.setBlk (k := 0) 0 rfl (.slice (some ⟨g3, 0, none⟩) n0 c3))); (have p0 := hs3.cell (k := 0) 0 rfl rfl); (have p1 := hs3.cell (k := 1) 0 rfl rfl); (have p2 := hs3.frz (k := 0) 0 rfl); (have p3 := hs3.frz (k := 1) 0 rfl); (have p4 : (n0 : Int) ≤ (c3 : Int) := by omega); (have hgl3 := (hs3.sl 2 rfl).olt gC (hs3.sl 2 rfl).mem_block); (have hsz3 : (w3.setCell ⟨g, 0, none⟩ (.slice (some ⟨g3, 0, none⟩) n0 c3)).heap.size = w3.heap.size := by simp [World.setCell]); (have HCJ := Lib.hid (insI_c (W := (w3.setCell ⟨g, 0, none⟩ (.slice (some ⟨g3, 0, none⟩) n0 c3)).alloc (.cells #[.int .i64 1] 3)) (i := 2) (vb := w3.heap.size) (x := 1) (HS3.out.step (below_new (Below.refl _ _) _)) rfl (Mm.Blk.new' _ 3 [.int .i64 1] hsz3) (by omega) hpn (by omega) (by unfold Mm.I64; omega))); clear hs3)
        | (go_at_call 98; (with_reducible refine HCJ.out.mono ?_); rintro e w4 ⟨g4, c4, f4, rfl, hc4, hcm4, hs4⟩; (have HS4 := Lib.hid (hs4.setBlk (k := 1) 0 rfl (.slice (some ⟨g4, 0, none⟩) n0 c4))); (have s0 := hs4.cell (k := 1) 0 rfl rfl); (have s1 := hs4.frz (k := 1) 0 rfl); (have s4 : (n0 : Int) ≤ (c4 : Int) := by omega); clear hs4)
      rw [HF.out]
      exact bodyPost_ret (v := .tuple #[]) (by simp [results, Try.results73, go_sem]) rfl ⟨_, _, _, _, _, _, _, _, rfl, HS4.out⟩
    · skip
      have hfp : p < m ∧ Pl.strAt h.Names p = x := of_decide_eq_true HFN.out.symm
      obtain ⟨y0, hy0⟩ : ∃ y0, h.Counts[p]? = some y0 := ⟨_, List.getElem?_eq_getElem (by rw [hl1.out]; omega)⟩
      have hyb := HCB.out p y0 hy0
      have hyw : IntKind.i64.wrap (y0 + 1) = y0 + 1 := IntWalk.i64_in _ (by omega)
      have HF : Hid (y = ⟨h.Names, h.Counts.set p (y0 + 1), h.Gone, h.Total + 1⟩) := by
        show _ = _
        rcases HFD.out with hd | hd
        · rw [← HY.out]
          unfold Pl.hadd
          rw [if_pos (by rw [hd.2.2]; omega), hd.2.2, Int.toNat_natCast, Pl.getD_of hy0]
        · exact absurd hfp.2 (hd.1 hfp.1)
      have hpn : (p : Int) < (n0 : Int) := by omega
      have hcn : (n0 : Int) ≤ (c0 : Int) := by omega
      have hn00 : (0 : Int) ≤ (n0 : Int) := by omega
      go_wp2_with first
        | (go_at_call 93; (with_reducible refine HIX.out.mono ?_); rintro e w' ⟨rfl, rfl⟩)
        | (go_at_call 96; (with_reducible refine HBS.out.mono ?_); rintro e w1 ⟨rfl, q, hqw⟩; (have HS2 := Lib.hid (hqw ▸ HS1.out.step (below_drewN (Below.refl _ _) q))); (have r0 := HS2.out.cell (k := 0) 0 rfl rfl); (have r1 := HS2.out.cell (k := 1) 0 rfl rfl); (have u0 := Mm.flat1_int.cell (HS2.out.sl 2 rfl) hy0); (have u1 := (HS2.out.sl 2 rfl).frozen p); clear hqw)
      have HS3 := Lib.hid (HS2.out.put1 (x' := y0 + 1) (u := .int .i64 (y0 + 1)) 2 rfl rfl hy0 (fun cs fx ho => ⟨rfl, by unfold Mm.I64; omega, ho.2.2⟩))
      rw [HF.out]
      exact bodyPost_ret (v := .tuple #[]) (by simp [results, Try.results73, go_sem]) rfl ⟨_, _, _, _, _, _, _, _, rfl, HS3.out⟩
  · obtain rfl : used = -1 := by rw [hused, if_neg hmn']
    have hmn0 : m = n0 := by omega
    rw [hmn0] at HBS
    have HMN := Lib.hid hmn0
    clear hused hmn0
    cases fnd
    · have hnf : ¬ (p < m ∧ Pl.strAt h.Names p = x) := of_decide_eq_false HFN.out.symm
      have HF : Hid (y = Pl.hless h) := by
        show _ = _
        rcases HFD.out with hd | hd
        · exact absurd ⟨hd.1, hd.2.1⟩ hnf
        · rw [← HY.out]
          unfold Pl.hadd
          rw [if_neg (by rw [hd.2]; decide), hl0.out, if_pos (HFU.out.2 HMN.out)]
      clear hnf
      have hcn : (n0 : Int) ≤ (c0 : Int) := by omega
      have hn00 : (0 : Int) ≤ (n0 : Int) := by omega
      go_wp2_with first
        | (go_at_call 93; (with_reducible refine HIX.out.mono ?_); rintro e w' ⟨rfl, rfl⟩)
        | (go_at_call 96; (with_reducible refine HBS.out.mono ?_); rintro e w1 ⟨rfl, q, hqw⟩; (have HS2 := Lib.hid (hqw ▸ HS1.out.step (below_drewN (Below.refl _ _) q))); (have r0 := HS2.out.cell (k := 0) 0 rfl rfl); (have r1 := HS2.out.cell (k := 1) 0 rfl rfl); (have r2 := HS2.out.cell (k := 2) 0 rfl rfl); (have r3 := HS2.out.frz (k := 2) 0 rfl); clear hqw)
      have HS3 := Lib.hid (((HS2.out.setBlk (k := 2) 0 rfl (.int .i64 (h.Gone + 1))).add (t := Mm.tsl Mm.int 3 [] (.slice none 0 0) []) (Below.refl _ _) Mm.SlOwn.nil List.nodup_nil (fun b hb => by cases hb)).add (t := Mm.tsl Mm.str 9 [] (.slice none 0 0) []) (Below.refl _ _) Mm.SlOwn.nil List.nodup_nil (fun b hb => by cases hb))
      obtain ⟨W0, hW0⟩ : ∃ W0, W0 = w1.setCell ⟨g, 2, none⟩ (.int .i64 (h.Gone + 1)) := ⟨_, rfl⟩
      rw [← hW0] at HS3 ⊢
      clear hW0 HS2 r0 r1 r2 r3 HS1 HIX HBS hz0 hz1 hz2 hz3 hq0 hq1 hq2 hq3
      obtain ⟨i0, hi, hz0, hz1, hz2⟩ := info_parts Try.infoHs
      obtain ⟨i1, hi1, hy0, hy1, hy2⟩ := info_parts Try.infoHi
      go_loopg [8, 9, 56] n0 (fun gg u8 u9 i wx => ∃ (k m' : Nat) (f f' : List Nat), n0 - k ≤ gg ∧ k ≤ n0 ∧ i = .int .i64 k ∧ Hid (m' = (Pl.lessTo h.Names h.Counts k).length) ∧ Hid (Mm.SepF F w0 wx (Mm.tsl Mm.str 9 ((Pl.lessTo h.Names h.Counts k).map (·.1)) u8 f :: Mm.tsl Mm.int 3 ((Pl.lessTo h.Names h.Counts k).map (·.2)) u9 f' :: Mm.tblk g 38 [.slice (some ⟨gN, 0, none⟩) n0 c0, .slice (some ⟨gC, 0, none⟩) n0 c1, .int .i64 (h.Gone + 1), .int .i64 (h.Total + 1)] :: Mm.tsl Mm.str 9 h.Names (.slice (some ⟨gN, 0, none⟩) n0 c0) f0 :: Mm.tsl Mm.int 3 h.Counts (.slice (some ⟨gC, 0, none⟩) n0 c1) f1 :: ts)))
      case atStart => exact ⟨0, 0, [], [], Nat.le_refl _, Nat.zero_le _, rfl, rfl, HS3.out⟩
      case round =>
        obtain ⟨k, m', f, f', hgk, hk, rfl, HM, HS⟩ := hrel
        obtain ⟨V, rfl⟩ : ∃ V : World, V = wr := ⟨_, rfl⟩
        have hml := Pl.lessTo_len h.Names h.Counts k
        have hmk : m' ≤ k := by have := HM.out; omega
        have d0 := HS.out.cell (k := 0) 2 rfl rfl
        have d1 := HS.out.cell (k := 1) 2 rfl rfl
        have z0 := HS.out.frz (k := 0) 2 rfl
        have z1 := HS.out.frz (k := 1) 2 rfl
        by_cases hlt : k < n0
        · obtain ⟨x1, hx1⟩ : ∃ x1, h.Names[k]? = some x1 := ⟨_, List.getElem?_eq_getElem (by rw [hl0.out]; exact hlt)⟩
          obtain ⟨y1, hy1'⟩ : ∃ y1, h.Counts[k]? = some y1 := ⟨_, List.getElem?_eq_getElem (by rw [hl1.out]; exact hlt)⟩
          have e0 := Mm.flat1_str.cell (HS.out.sl 3 rfl) hx1
          have e1 := Mm.flat1_int.cell (HS.out.sl 4 rfl) hy1'
          have hyb := HCB.out k y1 hy1'
          by_cases hyt : 1 < y1
          · have HN : Hid (Pl.lessTo h.Names h.Counts (k + 1) = Pl.lessTo h.Names h.Counts k ++ [(x1, y1 - 1)]) := by
              show _ = _
              rw [Pl.lessTo, Pl.strAt_of hx1, Pl.getD_of hy1', if_pos hyt]
            have HLn : Hid (((Pl.lessTo h.Names h.Counts k).map (·.1)).length = m') := by show _ = _; rw [List.length_map]; exact HM.out.symm
            have HLm : Hid (((Pl.lessTo h.Names h.Counts k).map (·.2)).length = m') := by show _ = _; rw [List.length_map]; exact HM.out.symm
            have hbx : x1.size ≤ maxLen := by
              have h3 := (Mm.flat1_str.owns (HS.out.sl 3 rfl)).2.2 x1 (List.mem_of_getElem? hx1) V
              exact h3.2.1
            clear hx1 hy1'
            have hyw : IntKind.i64.wrap (y1 - 1) = y1 - 1 := IntWalk.i64_in _ (by omega)
            obtain ⟨l0, ho0, hnx0⟩ := HS.out.push0 (W2 := V.alloc (.cells #[.string x1] 9)) 0 rfl (below_new (Below.refl _ _) _) (x := x1) (cx := [.string x1]) ⟨rfl, hbx, rfl⟩
            rw [HLn.out] at ho0 hnx0
            have HNX0 := Lib.hid hnx0
            clear hnx0
            go_wp2_with first
              | (at_builtin; refine wpList_append_lies _ (by rfl) _ _ _ (by rfl) 0 9 i0 _ 1 16 Try.underlying33 hi hz0 hz1 hz2 rfl (by omega) u8 m' l0 (by rfl) ho0 ⟨V.heap.size, 0, none⟩ 1 1 [.string x1] (by rfl) (by rfl) (World.news_of_block (B := V.heap.size) (cs := #[.string x1]) (t := 9) (fr := (0, 0)) (heap_alloc_new V _)) (by simp [Value.oneCell']) (by omega) (by unfold maxLen; omega) (by omega) (Nat.zero_le _) _ rfl ?_; intro g5 cap w5 hown1 hgrow hat hlt'; obtain ⟨f5, hs5⟩ := HNX0.out g5 cap w5 hown1 hgrow hat; obtain ⟨l1, ho1, hnx1⟩ := hs5.push0 (W2 := w5.alloc (.cells #[.int .i64 (y1 - 1)] 3)) 1 rfl (below_new (Below.refl _ _) _) (x := y1 - 1) (cx := [.int .i64 (y1 - 1)]) ⟨rfl, by unfold Mm.I64; omega, rfl⟩; rw [HLm.out] at ho1 hnx1; (have HNX1 := Lib.hid hnx1); clear hs5 hown1 hgrow hat hlt' hnx1)
              | (at_builtin; refine wpList_append_lies _ (by rfl) _ _ _ (by rfl) 0 3 i1 _ 1 8 Try.underlying34 hi1 hy0 hy1 hy2 rfl (by omega) u9 m' l1 (by rfl) ho1 ⟨w5.heap.size, 0, none⟩ 1 1 [.int .i64 (y1 - 1)] (by rfl) (by rfl) (World.news_of_block (B := w5.heap.size) (cs := #[.int .i64 (y1 - 1)]) (t := 3) (fr := (0, 0)) (heap_alloc_new w5 _)) (by simp [Value.oneCell']) (by omega) (by unfold maxLen; omega) (by omega) (Nat.zero_le _) _ rfl ?_; intro g6 cap6 w6 hown2 hgrow2 hat2 hlt2; obtain ⟨f6, hs6⟩ := HNX1.out g6 cap6 w6 hown2 hgrow2 hat2; (have HS6 := Lib.hid hs6); clear hs6 hown2 hgrow2 hat2 hlt2)
            go_roundg (n0 - (k + 1))
            case measure => omega
            case rel => exact ⟨k + 1, m' + 1, f5, f6, Nat.le_refl _, by omega, by go_num, by show _ = _; rw [HN.out, List.length_append, ← HM.out]; rfl, by rw [HN.out, List.map_append, List.map_append]; exact HS6.out⟩
          · have HN : Hid (Pl.lessTo h.Names h.Counts (k + 1) = Pl.lessTo h.Names h.Counts k) := by
              show _ = _
              rw [Pl.lessTo, Pl.strAt_of hx1, Pl.getD_of hy1', if_neg hyt, List.append_nil]
            clear hx1 hy1'
            go_wp2
            go_roundg (n0 - (k + 1))
            case measure => omega
            case rel => exact ⟨k + 1, m', f, f', Nat.le_refl _, by omega, by go_num, by show _ = _; rw [HN.out]; exact HM.out, by rw [HN.out]; exact HS.out⟩
        · have hkn : k = n0 := by omega
          obtain ⟨A2, n2, c2, rfl, hn2, -⟩ := (HS.out.sl 0 rfl).form
          obtain ⟨A3, n3, c3, rfl, hn3, -⟩ := (HS.out.sl 1 rfl).form
          have hn2m : n2 = m' := by rw [hn2, List.length_map]; exact HM.out.symm
          have hn3m : n3 = m' := by rw [hn3, List.length_map]; exact HM.out.symm
          subst hn2m; subst hn3m
          have HF2 : Hid (y = ⟨(Pl.lessTo h.Names h.Counts k).map (·.1) ++ List.replicate (n0 - n3) ⟨#[]⟩, (Pl.lessTo h.Names h.Counts k).map (·.2) ++ List.replicate (n0 - n3) 0, h.Gone + 1, h.Total + 1⟩) := by
            show _ = _
            rw [HF.out]
            unfold Pl.hless
            rw [hl0.out, ← hkn, ← HM.out]
          have hlw : IntKind.i64.wrap ((n0 : Int) - (n3 : Int)) = ((n0 - n3 : Nat) : Int) := by rw [IntWalk.i64_in _ (by omega)]; omega
          obtain ⟨v4, w4, f4, hr4, hs4⟩ := HS.out.zeros (P := Try.prog) (i := 0) (z0 := ⟨#[]⟩) Mm.flat1_str 33 3 33 9 i0 _ 16 rfl Try.underlying33 Try.underlying3 hi hz0 hz1 hz2 rfl rfl rfl (fun w => ⟨rfl, by show 0 ≤ maxLen; omega, rfl⟩) (n0 - n3) (by rw [← hn2]; unfold maxLen; omega) (by rw [← hn2]; omega)
          obtain ⟨v5, w5, f5, hr5, hs5⟩ := hs4.zeros (P := Try.prog) (i := 1) (z0 := 0) Mm.flat1_int 34 3 34 3 i1 _ 8 rfl Try.underlying34 Try.underlying3 hi1 hy0 hy1 hy2 rfl rfl rfl (fun w => ⟨rfl, by unfold Mm.I64; omega, rfl⟩) (n0 - n3) (by rw [← hn3]; unfold maxLen; omega) (by rw [← hn3]; omega)
          obtain ⟨A4, n4, c4, rfl, -⟩ := (hs5.sl 0 rfl).form
          obtain ⟨A5, n5, c5, rfl, -⟩ := (hs5.sl 1 rfl).form
          have HS5 := Lib.hid hs5
          have s0 := hs5.cell (k := 0) 2 rfl rfl
          have s1 := hs5.cell (k := 1) 2 rfl rfl
          have y0 := hs5.frz (k := 0) 2 rfl
          have y1 := hs5.frz (k := 1) 2 rfl
          clear hs4 hs5 hn2 hn3
          have HR4 := Lib.hid hr4
          have HR5 := Lib.hid hr5
          clear hr4 hr5
          go_wp2_with first
            | (at_builtin; refine Lib.wpList_append_run _ rfl _ _ _ _ rfl _ _ rfl rfl _ _ HR4.out ?_)
            | (at_builtin; refine Lib.wpList_append_run _ rfl _ _ _ _ rfl _ _ rfl rfl _ _ HR5.out ?_)
          have HS6 := Lib.hid (((HS5.out.setBlk (k := 0) 2 rfl (.slice A4 n4 c4)).setBlk (k := 1) 2 rfl (.slice A5 n5 c5)).sub (List.Sublist.cons_cons _ (.cons_cons _ (.cons_cons _ (.cons _ (.cons _ (List.Sublist.refl _)))))))
          have HS7 := Lib.hid HS6.out.front3
          rw [HF2.out]
          exact bodyPost_ret (v := .tuple #[]) (by simp [results, Try.results73, go_sem]) rfl ⟨_, _, _, _, _, _, _, _, rfl, HS7.out⟩
    · skip
      have hfp : p < m ∧ Pl.strAt h.Names p = x := of_decide_eq_true HFN.out.symm
      obtain ⟨y0, hy0⟩ : ∃ y0, h.Counts[p]? = some y0 := ⟨_, List.getElem?_eq_getElem (by rw [hl1.out]; omega)⟩
      have hyb := HCB.out p y0 hy0
      have hyw : IntKind.i64.wrap (y0 + 1) = y0 + 1 := IntWalk.i64_in _ (by omega)
      have HF : Hid (y = ⟨h.Names, h.Counts.set p (y0 + 1), h.Gone, h.Total + 1⟩) := by
        show _ = _
        rcases HFD.out with hd | hd
        · rw [← HY.out]
          unfold Pl.hadd
          rw [if_pos (by rw [hd.2.2]; omega), hd.2.2, Int.toNat_natCast, Pl.getD_of hy0]
        · exact absurd hfp.2 (hd.1 hfp.1)
      have hpn : (p : Int) < (n0 : Int) := by omega
      have hcn : (n0 : Int) ≤ (c0 : Int) := by omega
      have hn00 : (0 : Int) ≤ (n0 : Int) := by omega
      go_wp2_with first
        | (go_at_call 93; (with_reducible refine HIX.out.mono ?_); rintro e w' ⟨rfl, rfl⟩)
        | (go_at_call 96; (with_reducible refine HBS.out.mono ?_); rintro e w1 ⟨rfl, q, hqw⟩; (have HS2 := Lib.hid (hqw ▸ HS1.out.step (below_drewN (Below.refl _ _) q))); (have r0 := HS2.out.cell (k := 0) 0 rfl rfl); (have r1 := HS2.out.cell (k := 1) 0 rfl rfl); (have u0 := Mm.flat1_int.cell (HS2.out.sl 2 rfl) hy0); (have u1 := (HS2.out.sl 2 rfl).frozen p); clear hqw)
      have HS3 := Lib.hid (HS2.out.put1 (x' := y0 + 1) (u := .int .i64 (y0 + 1)) 2 rfl rfl hy0 (fun cs fx ho => ⟨rfl, by unfold Mm.I64; omega, ho.2.2⟩))
      rw [HF.out]
      exact bodyPost_ret (v := .tuple #[]) (by simp [results, Try.results73, go_sem]) rfl ⟨_, _, _, _, _, _, _, _, rfl, HS3.out⟩
end Go.Proofs.Ytjmcbggdckfefaa
