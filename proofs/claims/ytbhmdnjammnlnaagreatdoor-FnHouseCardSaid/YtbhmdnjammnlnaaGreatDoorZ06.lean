/-
  Joined texts, in build order: Jn, Jo, K7, K8, Jp, Jq, Jr, Js, Jt, Ju, Rw, K9. Each part says what it proves; no conditions beyond those that a part names.
-/
import Derived.Test.YtbhmdnjammnlnaaGreatDoorZ02
import Derived.Test.YtbhmdnjammnlnaaGreatDoorZ03
import Derived.Test.YtbhmdnjammnlnaaGreatDoorZ04
import Derived.Test.YtbhmdnjammnlnaaGreatDoorZ05
import Derived.Deep.LoopGhost
set_option linter.unusedVariables false
set_option linter.unusedSimpArgs false
namespace Go.Proofs.YtbhmdnjammnlnaaGreatDoor
open Go.RowKit
attribute [local go_sem] und_cell cha_cell World.cell?_alloc_some
abbrev isBld (B b : Nat) (L : List UInt8) (w : World) : Prop := Lib.IsBuilderF 228 5 B b (Lib.byteCells L) w
theorem bat_old {T e : TypeId} {B b : Nat} {p : Value} {bs : List Value} {w w' : World} (h : Lib.BuilderAtF T e B b p bs w) (hb : Below w.heap.size w w') : Lib.BuilderAtF T e B b p bs w' := by
  have hlt := h.lt
  obtain ⟨hB, v, hk, hown, hne⟩ := h
  refine ⟨hB, v, (hb.block b hlt).trans hk, ⟨hown.1, ?_⟩, hne⟩
  rcases hown.2 with h1 | ⟨g, cap, cur, fz, hv, hbg, hg, rest⟩
  · exact .inl h1
  · refine .inr ⟨g, cap, cur, fz, hv, hbg, (hb.block g ?_).trans hg, rest⟩
    rcases Nat.lt_or_ge g w.heap.size with h' | h'
    · exact h'
    · rw [Array.getElem?_eq_none h'] at hg; cases hg
theorem isBld.old {B b : Nat} {L : List UInt8} {w w' : World} (h : isBld B b L w) (hb : Below w.heap.size w w') : isBld B b L w' := h.imp (bat_old · hb) (bat_old · hb)
theorem blk_kept {e : TypeId} {b : Nat} {w w' : World} (h : Lib.OthersKept e (some b) w w') {g : Nat} {t : TypeId} {cs : List Value} (hk : Mm.Blk w g t cs) (hg : g ≠ b) (ht : t ≠ e) : Mm.Blk w' g t cs :=
  h g _ hk (by simpa using hg) (fun c fz hh => ht (by injection hh))
theorem bldWS_c (B b : Nat) (L : List UInt8) (s : ByteArray) (w : World) (h : isBld B b L w) (hlen : L.length + s.size ≤ 1000000) (hBw : B ≤ w.heap.size) :
    Calls Tryz.prog 188 #[.pointer (some ⟨b, 0, none⟩), .string s] w fun e w' => e = .returned (.tuple #[.int .i64 s.size, .nilIface]) ∧ isBld B b (L ++ s.data.toList) w' ∧ Below B w w' ∧ Lib.OthersKept 5 (some b) w w' := by
  refine (Any.Builder_WriteString_k lsWS lsX B b (Lib.byteCells L) s w h (by simp [Lib.byteCells]; omega) hBw).mono ?_
  rintro e w' ⟨rfl, h1, h2, h3⟩
  refine ⟨rfl, .inr ?_, h2, h3⟩
  have : Lib.byteCells L ++ Lib.strCells s = Lib.byteCells (L ++ s.data.toList) := by simp [Lib.byteCells, Lib.strCells]
  rw [← this]
  exact h1
theorem bldStr_c (B b : Nat) (L : List UInt8) (w : World) (h : isBld B b L w) (h0 : L ≠ []) (hBw : B ≤ w.heap.size) :
    Calls Tryz.prog 189 #[.pointer (some ⟨b, 0, none⟩)] w fun e w' => e = .returned (.string ⟨L.toArray⟩) ∧ isBld B b L w' ∧ Below B w w' ∧ Lib.OthersKept 5 (some b) w w' :=
  Any.Builder_String_k lsStr lsX B b L w h h0
namespace Pl
def rowL (r : Row) : List UInt8 := (rowSays r).flatMap lineL
theorem headL_rows (h : Head) : headL h = Lib.itoa h.Offset ++ 10 :: h.Rows.flatMap rowL := by
  unfold headL headSays rowL
  rw [List.flatMap_assoc]
def preL (h : Head) (i j : Nat) (r : Row) : List UInt8 := Lib.itoa h.Offset ++ 10 :: ((h.Rows.take i).flatMap rowL ++ ((rowSays r).take j).flatMap lineL)
def preH (h : Head) (i : Nat) : List UInt8 := Lib.itoa h.Offset ++ 10 :: (h.Rows.take i).flatMap rowL
theorem preH_zero (h : Head) : preH h 0 = Lib.itoa h.Offset ++ [10] := by unfold preH; simp
theorem preL_zero (h : Head) (i : Nat) (r : Row) : preL h i 0 r = preH h i := by unfold preL preH; simp
theorem preL_next {h : Head} {i j : Nat} {r : Row} {x : Sample} (hx : r.Samples[j]? = some x) : preL h i (j + 1) r = preL h i j r ++ lineL ⟨r.Name, x.At, x.Value⟩ := by
  have hs : (rowSays r)[j]? = some ⟨r.Name, x.At, x.Value⟩ := by unfold rowSays; rw [List.getElem?_map, hx]; rfl
  unfold preL
  rw [List.take_add_one, hs, List.flatMap_append]
  simp
theorem preL_end {h : Head} {i : Nat} {r : Row} (hr : h.Rows[i]? = some r) : preL h i r.Samples.length r = preH h (i + 1) := by
  have e : (rowSays r).take r.Samples.length = rowSays r := List.take_of_length_le (by unfold rowSays; rw [List.length_map]; exact Nat.le_refl _)
  unfold preL preH
  rw [List.take_add_one, hr, List.flatMap_append, e]
  simp [rowL]
theorem preH_end (h : Head) : preH h h.Rows.length = headL h := by
  unfold preH
  rw [List.take_of_length_le (Nat.le_refl _), headL_rows]
theorem lineL_len {x : Say} (h : sayOk x = true) : (lineL x).length ≤ 60 := by
  have h1 := sayOk_bounds h
  have h2 := sayOk_name h
  have h3 := Lib.itoa_length_le x.At (by omega) (by omega)
  have h4 := Lib.itoa_length_le x.Value (by omega) (by omega)
  have h5 : x.Name.data.toList.length = x.Name.size := by rw [Array.length_toList]; rfl
  unfold lineL sayL
  simp only [List.length_append, List.length_cons, List.length_nil]
  omega
theorem HeadOk.sayAt {h : Head} (k : HeadOk h) {r : Row} {i j : Nat} {x : Sample} (hr : h.Rows[i]? = some r) (hx : r.Samples[j]? = some x) : sayOk ⟨r.Name, x.At, x.Value⟩ = true := by
  have := k.row r (List.mem_of_getElem? hr)
  unfold sayOk
  rw [this.1]
  exact samplesOk_mem this.2.2 (List.mem_of_getElem? hx)
theorem line_txt (x : Say) : (sayTxt x ++ nlB).data.toList = lineL x := by
  unfold lineL nlB
  rw [ByteArray.data_append, Array.toList_append, sayTxt_data]
theorem pre_bound {h : Head} (k : HeadOk h) : ∀ i, i ≤ h.Rows.length → (preH h i).length ≤ 30 + 2400 * i
  | 0, _ => by
    rw [preH_zero]
    have := Lib.itoa_length_le h.Offset (by have := k.off; omega) (by have := k.off; omega)
    simp; omega
  | i + 1, hi => by
    have ih := pre_bound k i (by omega)
    obtain ⟨r, hr⟩ : ∃ r, h.Rows[i]? = some r := ⟨_, List.getElem?_eq_getElem (by omega)⟩
    have hb : ∀ j, j ≤ r.Samples.length → (preL h i j r).length ≤ (preH h i).length + 60 * j := by
      intro j
      induction j with
      | zero => intro _; rw [preL_zero]; omega
      | succ j ihj =>
        intro hj
        have := ihj (by omega)
        obtain ⟨x, hx⟩ : ∃ x, r.Samples[j]? = some x := ⟨_, List.getElem?_eq_getElem (by omega)⟩
        rw [preL_next hx, List.length_append]
        have := lineL_len (k.sayAt hr hx)
        omega
    have := hb _ (Nat.le_refl _)
    rw [preL_end hr] at this
    have h40 := samplesOk_len (k.row r (List.mem_of_getElem? hr)).2.2
    omega
theorem preL_bound {h : Head} (k : HeadOk h) {i j : Nat} {r : Row} (hr : h.Rows[i]? = some r) (hj : j ≤ r.Samples.length) : (preL h i j r).length ≤ 30000 := by
  have hi := (List.getElem?_eq_some_iff.1 hr).1
  have h8 := k.len
  have h0 := pre_bound k i (by omega)
  have h40 := samplesOk_len (k.row r (List.mem_of_getElem? hr)).2.2
  have hb : ∀ j, j ≤ r.Samples.length → (preL h i j r).length ≤ (preH h i).length + 60 * j := by
    intro j
    induction j with
    | zero => intro _; rw [preL_zero]; omega
    | succ j ihj =>
      intro hj
      have := ihj (by omega)
      obtain ⟨x, hx⟩ : ∃ x, r.Samples[j]? = some x := ⟨_, List.getElem?_eq_getElem (by omega)⟩
      rw [preL_next hx, List.length_append]
      have := lineL_len (k.sayAt hr hx)
      omega
  have := hb j hj
  omega
end Pl
theorem Pl.preL_txt {h : Head} (k : Pl.HeadOk h) {i j : Nat} {r : Row} {x : Sample} (hr : h.Rows[i]? = some r) (hx : r.Samples[j]? = some x) :
    (⟨(Pl.preL h i j r).toArray⟩ : ByteArray) ++ (Pl.sayTxt ⟨r.Name, x.At, x.Value⟩ ++ ⟨#[10]⟩) = ⟨(Pl.preL h i (j + 1) r).toArray⟩ ∧ (Pl.sayTxt ⟨r.Name, x.At, x.Value⟩).size ≤ 60 ∧ (⟨(Pl.preL h i j r).toArray⟩ : ByteArray).size ≤ 30000 := by
  have hs := k.sayAt hr hx
  have h1 := Pl.lineL_len hs
  have h2 : (Pl.sayTxt ⟨r.Name, x.At, x.Value⟩ ++ ⟨#[10]⟩).data.toList = Pl.lineL ⟨r.Name, x.At, x.Value⟩ := Pl.line_txt _
  refine ⟨?_, ?_, ?_⟩
  · apply Pl.sba_ext
    rw [ByteArray.data_append, Array.toList_append, h2, Pl.preL_next hx]
  · have h3 : (Pl.sayTxt ⟨r.Name, x.At, x.Value⟩).data.toList.length = (Pl.sayTxt ⟨r.Name, x.At, x.Value⟩).size := by rw [Array.length_toList]; rfl
    rw [Pl.sayTxt_data] at h3
    unfold Pl.lineL at h1
    rw [List.length_append] at h1
    omega
  · show (Pl.preL h i j r).toArray.size ≤ 30000
    rw [List.size_toArray]
    exact Pl.preL_bound k hr (by have := (List.getElem?_eq_some_iff.1 hx).1; omega)
set_option maxRecDepth 100000 in
set_option maxHeartbeats 2000000 in
theorem headText_c (h : Head) (cs : List Value) (w : World) (B Bt : Nat) (hh : rHead.at_ w B h cs) (hB : B ≤ w.heap.size) (hk : Pl.HeadOk h) (ht : Tab Bt w) :
    Calls Tryz.prog 170 #[.agg cs.toArray] w fun e w' => e = .returned (.string (Pl.headTxt h)) ∧ Below w.heap.size w w' := by
  obtain ⟨A0, n0, c0, rfl, r0, io⟩ := rHead_at hh
  have hn0 : n0 = h.Rows.length := r0.1.symm
  have h8 := hk.len
  have HN0 := Lib.hid hn0
  have HK := Lib.hid hk
  have R0 := Lib.hid r0
  have hoff := hk.off
  have HBW := Lib.hid hB
  clear hh r0 io hk
  have hn8 : n0 ≤ 8 := by omega
  clear hn0 h8
  obtain ⟨ga, hga⟩ : ∃ g, w.heap.size = g := ⟨_, rfl⟩
  obtain ⟨W0, hW0⟩ : ∃ W, w.alloc (.cells #[.slice A0 n0 c0, .int .i64 h.Offset] 73) = W := ⟨_, rfl⟩
  have KS0 := Lib.hid (((Mm.SepF.start w).alloc' hga 73 [.slice A0 n0 c0, .int .i64 h.Offset]).atW hW0)
  obtain ⟨o, ho⟩ : ∃ o : Int, h.Offset = o := ⟨_, rfl⟩
  rw [ho] at KS0 hW0 hoff ⊢
  have HT := Lib.hid ht
  clear ht
  obtain ⟨gb, hgb⟩ : ∃ g, W0.heap.size = g := ⟨_, rfl⟩
  obtain ⟨W1, hW1⟩ : ∃ W, W0.alloc (.cells #[.pointer none, .slice none 0 0] 228) = W := ⟨_, rfl⟩
  have hbld : isBld gb gb [] W1 := by rw [← hW1, ← hgb]; exact Lib.IsBuilderF.of (Lib.fresh_isBuilder _ _ W0)
  have KS1 := Lib.hid ((KS0.out.alloc' hgb 228 [.pointer none, .slice none 0 0]).atW hW1)
  have hgw : w.heap.size < gb ∧ gb < W1.heap.size := by
    have h1 := (KS1.out.blk 0 rfl).1
    have h2 := KS0.out.bel0.size
    have h3 := (KS0.out.blk 0 rfl).1
    omega
  have HGW := Lib.hid hgw
  have d0 := KS1.out.cell (k := 0) 1 rfl rfl
  have d1 := KS1.out.cell (k := 1) 1 rfl rfl
  have HT1 : Hid (Tab Bt W1) := HT.out.on KS1.out.bel0
  have CN := itoa_c o (by omega) (by omega) Bt W1 HT1.out
  have hos := Pl.itoaB_size (n := o) (by omega) (by omega)
  have h10 : (⟨#[10]⟩ : ByteArray).size = 1 := rfl
  have HP0 : Hid ([] ++ (Pl.itoaB o ++ ⟨#[10]⟩).data.toList = Pl.preH h 0) := by
    show _ = _
    rw [Pl.preH_zero, ho]
    simp [Pl.itoaB]
  obtain ⟨TM, hTM⟩ : ∃ T, Pl.itoaB o = T := ⟨_, rfl⟩
  rw [hTM] at CN hos HP0
  have HBL := Lib.hid hbld
  clear hoff hTM ho hbld hgw
  go_enter Tryz.func170, Tryz.ntmps170
  go_wp2_with fail
  refine CN.mono ?_
  rintro e w2 ⟨rfl, hb2⟩
  obtain ⟨W2, rfl⟩ : ∃ W : World, W = w2 := ⟨_, rfl⟩
  have KS2 := Lib.hid ((KS1.out.step hb2).sel [1] (by decide) rfl)
  have hB2 := isBld.old HBL.out hb2
  have hb12 := Lib.hid (below_le hb2 (Nat.le_of_lt HGW.out.2))
  have CW := bldWS_c gb gb [] (TM ++ ⟨#[10]⟩) W2 hB2 (by rw [ByteArray.size_append]; show 0 + _ ≤ _; omega) (by have := HGW.out.2; have := hb2.size; omega)
  rw [HP0.out] at CW
  clear hgb hga hW0 hW1 d0 d1 CN KS0 hb2 hB2
  go_wp2_with fail
  refine CW.mono ?_
  rintro e w3 ⟨rfl, hB3, hb3, hoth⟩
  obtain ⟨W3, rfl⟩ : ∃ W : World, W = w3 := ⟨_, rfl⟩
  have hk3 := blk_kept hoth (KS2.out.at_ 0 rfl) (by have h1 := KS1.out.apart (i := 0) (j := 1) rfl rfl (by decide) gb (by simp [Mm.tblk]); intro e; exact h1 (by simp [Mm.tblk, e])) (by decide)
  have d0 := Mm.Blk.cell hk3 (i := 0) rfl
  have HS3 : Hid (Below gb W1 W3 ∧ isBld gb gb (Pl.preH h 0) W3) := ⟨hb12.out.trans hb3, hB3⟩
  have HB1 : Hid (Below w.heap.size w W1) := KS1.out.bel0
  clear CW hB3 hb3 hoth hk3 KS2 hb12 HP0 HBL KS1
  go_upto_region 4 with fail
  clear d0
  go_loopg [16] n0 (fun gg i_ wr => ∃ (k : Nat), n0 - k ≤ gg ∧ k ≤ n0 ∧ i_ = .int .i64 (k : Nat) ∧ Hid (Below gb W1 wr ∧ isBld gb gb (Pl.preH h k) wr))
  case atStart => exact ⟨0, by omega, by omega, rfl, HS3.out⟩
  case round =>
    clear HS3
    obtain ⟨k, hgk, hk', rfl, HW⟩ := hrel
    obtain ⟨W, rfl⟩ : ∃ W : World, W = wr := ⟨_, rfl⟩
    by_cases hlt : k < n0
    · have fc : (k : Int) < (n0 : Nat) := by omega
      have hbw : Below w.heap.size w W := HB1.out.trans (below_le HW.out.1 (Nat.le_of_lt HGW.out.1))
      have HBW2 := Lib.hid hbw
      obtain ⟨x, b, off, AH, mH, dH, hx, rfl, hb, hnm, hrd, e0, e1⟩ := rRow_get (R0.out.keep (w' := W) fun b hb => hbw.block b (by have := HBW.out; omega)) hlt
      have HX := Lib.hid hx
      have HRD := Lib.hid hrd
      have hm40 : mH ≤ 40 := by have := Pl.samplesOk_len (HK.out.row x (List.mem_of_getElem? hx)).2.2; have := hrd.1; omega
      have HML : Hid (mH = x.Samples.length) := hrd.1.symm
      obtain ⟨gr, hgr⟩ : ∃ g, W.heap.size = g := ⟨_, rfl⟩
      obtain ⟨W2, hW2⟩ : ∃ V, W.alloc (.cells #[.string x.Name, .slice AH mH dH] 139) = V := ⟨_, rfl⟩
      have KS2 := Lib.hid (((Mm.SepF.start W).alloc' hgr 139 [.string x.Name, .slice AH mH dH]).atW hW2)
      have q0 := KS2.out.cell (k := 0) 0 rfl rfl
      have q1 := KS2.out.cell (k := 1) 0 rfl rfl
      have hgbW : gb < W.heap.size := by have := HGW.out.2; have := HW.out.1.size; omega
      have HSI : Hid (Below gb W W2 ∧ isBld gb gb (Pl.preL h k 0 x) W2 ∧ Mm.Blk W2 gr 139 [.string x.Name, .slice AH mH dH]) := ⟨below_le KS2.out.bel0 (Nat.le_of_lt hgbW), by rw [Pl.preL_zero]; exact isBld.old HW.out.2 KS2.out.bel0, KS2.out.at_ 0 rfl⟩
      have hgrb : gb < gr := by omega
      clear hx hrd hnm hbw KS2
      go_upto_region 7 with fail
      clear hW2 hgr e0 e1 q0 q1
      obtain ⟨gw, rfl⟩ : ∃ g : Nat, g = gk := ⟨_, rfl⟩
      go_loopg [23] mH (fun gg i_ wr => ∃ (j : Nat), mH - j ≤ gg ∧ j ≤ mH ∧ i_ = .int .i64 (j : Nat) ∧ Hid (Below gb W wr ∧ isBld gb gb (Pl.preL h k j x) wr ∧ Mm.Blk wr gr 139 [.string x.Name, .slice AH mH dH]))
      case atStart => exact ⟨0, by omega, by omega, rfl, HSI.out⟩
      case round =>
        clear HSI
        obtain ⟨j, hgj, hj, rfl, HV⟩ := hrel
        obtain ⟨V, rfl⟩ : ∃ W : World, W = wr := ⟨_, rfl⟩
        by_cases hjt : j < mH
        · have fj : (j : Int) < (mH : Nat) := by omega
          have hbV : Below w.heap.size w V := HBW2.out.trans (below_le HV.out.1 (Nat.le_of_lt HGW.out.1))
          obtain ⟨y, b2, off2, hy, hA, hb2, ia, iv, f0, f1⟩ := smp_get (HRD.out.keep (w' := V) fun b hb => HV.out.1.block b (by have := HBW.out; have := HGW.out.1; omega)) hjt
          subst hA
          have HTV : Hid (Tab Bt V) := HT.out.on hbV
          obtain ⟨gx, hgx⟩ : ∃ g, V.heap.size = g := ⟨_, rfl⟩
          obtain ⟨V1, hV1⟩ : ∃ U, V.alloc (.cells #[.int .i64 y.At, .int .i64 y.Value] 124) = U := ⟨_, rfl⟩
          have KS4 := Lib.hid (((Mm.SepF.start V).alloc' hgx 124 [.int .i64 y.At, .int .i64 y.Value]).atW hV1)
          have hso := HK.out.sayAt HX.out hy
          have hbd : 0 ≤ y.At ∧ y.At ≤ 1000000000 ∧ -1000000000 ≤ y.Value ∧ y.Value ≤ 1000000000 := Pl.sayOk_bounds hso
          have hnm : x.Name.size ≤ 8 := Pl.sayOk_name hso
          have HT4 : Hid (Tab Bt V1) := HTV.out.on KS4.out.bel0
          have CT := sayText_c ⟨x.Name, y.At, y.Value⟩ (by show x.Name.size ≤ 1000; omega) ⟨by show _ < y.At; omega, by show y.At < _; omega⟩ ⟨by show _ < y.Value; omega, by show y.Value < _; omega⟩ Bt V1 HT4.out
          obtain ⟨-, e2, e3⟩ := Pl.preL_txt HK.out HX.out hy
          have hnx := Pl.preL_next (h := h) (i := k) hy
          have htx : (Pl.sayTxt ⟨x.Name, y.At, y.Value⟩ ++ ⟨#[10]⟩).data.toList = Pl.lineL ⟨x.Name, y.At, y.Value⟩ := Pl.line_txt _
          rw [← htx] at hnx
          obtain ⟨TX, hTX⟩ : ∃ T, Pl.sayTxt ⟨x.Name, y.At, y.Value⟩ = T := ⟨_, rfl⟩
          rw [hTX] at CT e2 hnx
          have HNX := Lib.hid hnx
          have HPB : Hid ((Pl.preL h k j x).length ≤ 30000) := Pl.preL_bound HK.out HX.out (by have := HML.out; omega)
          have q0 := Mm.Blk.cell (Mm.Blk.bel HV.out.2.2 KS4.out.bel0) (i := 0) rfl
          have x0 := KS4.out.cell (k := 0) 0 rfl rfl
          have x1 := KS4.out.cell (k := 1) 0 rfl rfl
          have HBLD : Hid (isBld gb gb (Pl.preL h k j x) V1) := isBld.old HV.out.2.1 KS4.out.bel0
          have HBK : Hid (Mm.Blk V1 gr 139 [.string x.Name, .slice (some ⟨b2, off2, none⟩) mH dH]) := Mm.Blk.bel HV.out.2.2 KS4.out.bel0
          have hgbV : gb < V.heap.size := by have := HGW.out.2; have := HW.out.1.size; have := HV.out.1.size; omega
          have HBV : Hid (Below gb W V1) := HV.out.1.trans (below_le KS4.out.bel0 (Nat.le_of_lt hgbV))
          have hV1s := KS4.out.bel0.size
          clear hTX hy hso hbd hnm htx hnx e3 hbV HTV HT4 KS4
          go_wp2_with fail
          refine CT.mono ?_
          rintro e w5 ⟨rfl, hb5⟩
          obtain ⟨V2, rfl⟩ : ∃ W : World, W = w5 := ⟨_, rfl⟩
          have CW := bldWS_c gb gb (Pl.preL h k j x) (TX ++ ⟨#[10]⟩) V2 (isBld.old HBLD.out hb5) (by rw [ByteArray.size_append]; have := HPB.out; show _ + (_ + 1) ≤ _; omega) (by have := hb5.size; omega)
          rw [← HNX.out] at CW
          have HBK2 : Hid (Mm.Blk V2 gr 139 [.string x.Name, .slice (some ⟨b2, off2, none⟩) mH dH]) := Mm.Blk.bel HBK.out hb5
          have HBV2 : Hid (Below gb W V2) := HBV.out.trans (below_le hb5 (by omega))
          clear CT q0 x0 x1 hV1 hgx f0 f1 hb5 HBK HBV HBLD
          go_wp2_with fail
          refine CW.mono ?_
          rintro e w6 ⟨rfl, hB6, hb6, hoth⟩
          have HSN : Hid (Below gb W w6 ∧ isBld gb gb (Pl.preL h k (j + 1) x) w6 ∧ Mm.Blk w6 gr 139 [.string x.Name, .slice (some ⟨b2, off2, none⟩) mH dH]) := ⟨HBV2.out.trans hb6, hB6, blk_kept hoth HBK2.out (by omega) (by decide)⟩
          clear CW hB6 hb6 hoth HBK2 HBV2
          go_wp2
          go_roundg (mH - (j + 1))
          case measure => omega
          case rel => exact ⟨j + 1, Nat.le_refl _, by omega, by go_num, HSN.out⟩
        · obtain rfl : j = mH := by omega
          have fj : ¬ ((j : Nat) : Int) < (j : Nat) := by omega
          have HE : Hid (Pl.preL h k j x = Pl.preH h (k + 1)) := by show _ = _; rw [HML.out]; exact Pl.preL_end HX.out
          have HWN : Hid (Below gb W1 V ∧ isBld gb gb (Pl.preH h (k + 1)) V) := ⟨HW.out.1.trans HV.out.1, by rw [← HE.out]; exact HV.out.2.1⟩
          go_wp2
          go_roundg (n0 - (k + 1))
          case measure => omega
          case rel => exact ⟨k + 1, Nat.le_refl _, by omega, by go_num, HWN.out⟩
    · obtain rfl : k = n0 := by omega
      have fc : ¬ ((k : Nat) : Int) < (k : Nat) := by omega
      have HE : Hid (Pl.preH h k = Pl.headL h) := by show _ = _; rw [HN0.out]; exact Pl.preH_end h
      have CS := bldStr_c gb gb (Pl.headL h) W (by rw [← HE.out]; exact HW.out.2) (by unfold Pl.headL; simp) (by have := HGW.out.2; have := HW.out.1.size; omega)
      go_wp2_with fail
      refine CS.mono ?_
      rintro e w6 ⟨rfl, -, hb6, -⟩
      have HBE : Hid (Below w.heap.size w w6) := HB1.out.trans (below_le (HW.out.1.trans hb6) (Nat.le_of_lt HGW.out.1))
      clear CS hb6
      go_wp2
      go_ret
      exact ⟨rfl, HBE.out⟩
end Go.Proofs.YtbhmdnjammnlnaaGreatDoor

namespace Go.Proofs.YtbhmdnjammnlnaaGreatDoor
open Go.RowKit
attribute [local go_sem] und_cell cha_cell World.cell?_alloc_some
namespace Pl
structure RowOk (l : List Row) (k : Nat) (x : Row) : Prop where
  wd : word false x.Name.data.toList = true
  ne : x.Samples ≠ []
  sm : samplesOk x.Samples = true
  lt : ∀ y, 0 < k → l[k - 1]? = some y → lessB y.Name x.Name = true
theorem rsort_of {l : List Row} (h : ∀ k x, l[k]? = some x → RowOk l k x) : RSort l := by
  intro i j x y hij hx hy
  induction j generalizing y with
  | zero => omega
  | succ j ih =>
    obtain ⟨z, hz⟩ : ∃ z, l[j]? = some z := ⟨_, List.getElem?_eq_getElem (by have := (List.getElem?_eq_some_iff.1 hy).1; omega)⟩
    have h1 := (h (j + 1) y hy).lt z (by omega) (by simpa using hz)
    by_cases e : i = j
    · subst e
      rw [hz] at hx
      injection hx with hx
      rw [← hx]; exact h1
    · exact rless_trans (ih z (by omega) hz) h1
theorem HeadOk.of {h : Head} (h1 : ∀ k x, h.Rows[k]? = some x → RowOk h.Rows k x) (h2 : h.Rows.length ≤ 8) (h3 : 0 ≤ h.Offset ∧ h.Offset ≤ 1000) : HeadOk h :=
  ⟨rsort_of h1, fun r hr => by
    obtain ⟨i, hi⟩ := List.getElem?_of_mem hr
    have := h1 i r hi
    exact ⟨this.wd, this.ne, this.sm⟩, h2, h3⟩
theorem HeadOk.at_ {h : Head} (k : HeadOk h) {i : Nat} {x : Row} (hx : h.Rows[i]? = some x) : RowOk h.Rows i x := by
  have := k.row x (List.mem_of_getElem? hx)
  exact ⟨this.1, this.2.1, this.2.2, fun y hi hy => k.srt (i - 1) i y x (by omega) hy hx⟩
end Pl
set_option maxRecDepth 100000 in
set_option maxHeartbeats 4000000 in
theorem isHead_c (h : Head) (cs : List Value) (w : World) (B : Nat) (hh : rHead.at_ w B h cs) (hB : B ≤ w.heap.size) :
    Calls Tryz.prog 94 #[.agg cs.toArray] w (BoolAns (Pl.HeadOk h) w) := by
  obtain ⟨A0, n0, c0, rfl, r0, io⟩ := rHead_at hh
  have HN0 : Hid (n0 = h.Rows.length) := r0.1.symm
  have R0 := Lib.hid r0
  have HBW := Lib.hid hB
  have hnm : n0 ≤ maxLen := Nat.le_trans r0.2.1 r0.2.2.1
  unfold maxLen at hnm
  clear hh r0
  obtain ⟨o, ho⟩ : ∃ o : Int, h.Offset = o := ⟨_, rfl⟩
  have HO := Lib.hid ho
  rw [ho] at io ⊢
  clear ho
  obtain ⟨ga, hga⟩ : ∃ g, w.heap.size = g := ⟨_, rfl⟩
  obtain ⟨W0, hW0⟩ : ∃ W, w.alloc (.cells #[.slice A0 n0 c0, .int .i64 o] 73) = W := ⟨_, rfl⟩
  have KS0 := Lib.hid (((Mm.SepF.start w).alloc' hga 73 [.slice A0 n0 c0, .int .i64 o]).atW hW0)
  have d0 := KS0.out.cell (k := 0) 0 rfl rfl
  go_enter Tryz.func94, Tryz.ntmps94
  go_upto_region 2 with fail
  clear d0 hW0 hga
  go_loopg [8] n0 (fun gg i_ wr => ∃ (k : Nat), n0 - k ≤ gg ∧ k ≤ n0 ∧ i_ = .int .i64 (k : Nat) ∧ Hid (∀ i x, i < k → h.Rows[i]? = some x → Pl.RowOk h.Rows i x) ∧ Hid (Mm.SepF [] w wr [Mm.tblk ga 73 [.slice A0 n0 c0, .int .i64 o]]))
  case atStart => exact ⟨0, by omega, by omega, rfl, fun i x hi => absurd hi (by omega), KS0.out⟩
  case round =>
    clear KS0
    obtain ⟨k, hgk, hk', rfl, HU, HS⟩ := hrel
    obtain ⟨W, rfl⟩ : ∃ W : World, W = wr := ⟨_, rfl⟩
    by_cases hlt : k < n0
    · have fc : (k : Int) < (n0 : Nat) := by omega
      obtain ⟨x, b, off, AH, mH, dH, hx, rfl, hb, hnm2, hrd, e0, e1⟩ := rRow_get (R0.out.keep (w' := W) fun b hb => HS.out.bel0.block b (by have := HBW.out; omega)) hlt
      have HX := Lib.hid hx
      have HML : Hid (mH = x.Samples.length) := hrd.1.symm
      obtain ⟨gr, hgr⟩ : ∃ g, W.heap.size = g := ⟨_, rfl⟩
      obtain ⟨W2, hW2⟩ : ∃ V, W.alloc (.cells #[.string x.Name, .slice AH mH dH] 139) = V := ⟨_, rfl⟩
      have KS2 := Lib.hid ((HS.out.alloc' hgr 139 [.string x.Name, .slice AH mH dH]).atW hW2)
      have hb2 : Below W.heap.size W W2 := by rw [← hW2]; exact below_new (Below.refl _ _) _
      have HRD := Lib.hid (hrd.keep (w' := W2) fun b hb => hb2.block b (by have := HBW.out; have := HS.out.bel0.size; omega))
      have hBW2 : B ≤ W2.heap.size := by have := HBW.out; have := HS.out.bel0.size; have := hb2.size; omega
      go_upto_region 4 with fail
      clear hW2 hgr e0 e1 hrd hx
      have q0 := KS2.out.cell (k := 0) 0 rfl rfl
      have q1 := KS2.out.cell (k := 1) 0 rfl rfl
      have d0 := KS2.out.cell (k := 0) 1 rfl rfl
      have CWD := fun z : Und W2 => und_same z (isWord_c x.Name false (und W2 z) hnm2)
      have CSM := fun z : Und W2 => und_call z (areSamples_c x.Samples AH mH dH (und W2 z) B (HRD.out.und hBW2 z) (Nat.le_trans hBW2 (und_size z)))
      obtain ⟨wd, hwd⟩ : ∃ b, Pl.word false x.Name.data.toList = b := ⟨_, rfl⟩
      obtain ⟨so, hso⟩ : ∃ b, Pl.samplesOk x.Samples = b := ⟨_, rfl⟩
      rw [hwd] at CWD
      rw [hso] at CSM
      have HWD := Lib.hid hwd
      have HSO := Lib.hid hso
      have HB2 := Lib.hid KS2.out.bel0
      clear hwd hso hnm2 hb2
      by_cases hk0 : k = 0
      · subst hk0
        have HLT : Hid (∀ y, 0 < 0 → h.Rows[0 - 1]? = some y → Pl.lessB y.Name x.Name = true) := fun y hy => absurd hy (by omega)
        have z0 : ¬ ((0 : Int) < ((0 : Nat) : Int)) := by omega
        cases wd with
        | false =>
          have HNL : Hid (¬ Pl.HeadOk h) := fun hh => by have := (hh.at_ HX.out).wd; rw [HWD.out] at this; cases this
          refine wp_region_und (by kernel_rfl) (by kernel_rfl) ?_
          repeat (go_big_quiet_step ((first | (first | (go_at_call 85; with_reducible exact CWD _) | (go_at_call 140; with_reducible exact CSM _)))))
          refine wpQuiet_nil ?_
          intro X hX
          have HXX := Lib.hid (below_step HB2.out hX)
          clear hX
          go_wp2
          go_ret
          exact BoolAns.no HNL.out HXX.out
        | true =>
          by_cases hm0 : mH = 0
          · have HNL : Hid (¬ Pl.HeadOk h) := fun hh => (hh.at_ HX.out).ne (List.length_eq_zero_iff.1 (by have := HML.out; omega))
            have hm0' : ((mH : Int) == 0) = true := by simp [hm0]
            cases so
            all_goals
              refine wp_region_und (by kernel_rfl) (by kernel_rfl) ?_
              repeat (go_big_quiet_step ((first | (first | (go_at_call 85; with_reducible exact CWD _) | (go_at_call 140; with_reducible exact CSM _)))))
              refine wpQuiet_nil ?_
              intro X hX
              have HXX := Lib.hid (below_step HB2.out hX)
              clear hX
              go_wp2
              go_ret
              exact BoolAns.no HNL.out HXX.out
          · have hm0' : ((mH : Int) == 0) = false := by simp [hm0]
            cases so with
            | false =>
              have HNL : Hid (¬ Pl.HeadOk h) := fun hh => by have := (hh.at_ HX.out).sm; rw [HSO.out] at this; cases this
              refine wp_region_und (by kernel_rfl) (by kernel_rfl) ?_
              repeat (go_big_quiet_step ((first | (first | (go_at_call 85; with_reducible exact CWD _) | (go_at_call 140; with_reducible exact CSM _)))))
              refine wpQuiet_nil ?_
              intro X hX
              have HXX := Lib.hid (below_step HB2.out hX)
              clear hX
              go_wp2
              go_ret
              exact BoolAns.no HNL.out HXX.out
            | true =>
              have HUN : Hid (∀ i y, i < 0 + 1 → h.Rows[i]? = some y → Pl.RowOk h.Rows i y) := fun i y hi hy => by
                rcases Nat.lt_succ_iff_lt_or_eq.1 hi with h1 | rfl
                · exact HU.out i y h1 hy
                · have := HX.out.symm.trans hy
                  injection this with this
                  subst this
                  exact ⟨HWD.out, fun e => hm0 (by rw [HML.out, e]; rfl), HSO.out, HLT.out⟩
              refine wp_region_und (by kernel_rfl) (by kernel_rfl) ?_
              repeat (go_big_quiet_step ((first | (first | (go_at_call 85; with_reducible exact CWD _) | (go_at_call 140; with_reducible exact CSM _)))))
              refine wpQuiet_nil ?_
              intro X hX
              have HSX := Lib.hid ((KS2.out.step hX).sel [1] (by decide) rfl)
              clear hX
              go_wp2
              go_roundg (n0 - (0 + 1))
              case measure => omega
              case rel => exact ⟨0 + 1, by omega, by omega, by go_num, HUN.out, HSX.out⟩
      · have hk1 : k - 1 < n0 := by omega
        obtain ⟨y, AP, mP, dP, hy, hbp, hnmp, hrdp, p0, p1⟩ := rRow_get' (R0.out.keep (w' := W2) fun b hb => KS2.out.bel0.block b (by have := HBW.out; omega)) hk1
        have HY := Lib.hid hy
        clear hrdp p1 hnmp hbp hy
        have f1 : decide ((0 : Int) < (k : Nat)) = true := decide_eq_true (by omega)
        have f1n : decide (0 < k) = true := decide_eq_true (by omega)
        have f2 : (0 : Int) ≤ (k : Int) - 1 := by omega
        have f3 : (k : Int) - 1 < (n0 : Nat) := by omega
        have f4 : ((k : Int) - 1).toNat = k - 1 := by omega
        have f5 : (1 : Int) ≤ (k : Nat) := by omega
        obtain ⟨lt, hlt2⟩ : ∃ b, Op.bytesLess y.Name.toList x.Name.toList = b := ⟨_, rfl⟩
        have HL2 := Lib.hid hlt2
        cases lt with
        | false =>
          have HNL : Hid (¬ Pl.HeadOk h) := fun hh => by have := (hh.at_ HX.out).lt y (by omega) HY.out; rw [show Pl.lessB y.Name x.Name = Op.bytesLess y.Name.toList x.Name.toList from rfl, HL2.out] at this; cases this
          cases wd <;> cases so <;> by_cases hm0 : mH = 0
          all_goals
            have hm0' : ((mH : Int) == 0) = decide (mH = 0) := by by_cases e : mH = 0 <;> simp [e]
            simp only [hm0, decide_true, decide_false] at hm0'
            refine wp_region_und (by kernel_rfl) (by kernel_rfl) ?_
            repeat (go_big_quiet_step ((first | (first | (go_at_call 85; with_reducible exact CWD _) | (go_at_call 140; with_reducible exact CSM _)))))
            refine wpQuiet_nil ?_
            intro X hX
            have HXX := Lib.hid (below_step HB2.out hX)
            clear hX
            go_wp2
            go_ret
            exact BoolAns.no HNL.out HXX.out
        | true =>
          have HLT : Hid (∀ y, 0 < k → h.Rows[k - 1]? = some y → Pl.lessB y.Name x.Name = true) := fun y' _ hy' => by rw [HY.out] at hy'; injection hy' with hy'; rw [← hy']; exact HL2.out
          cases wd with
          | false =>
            have HNL : Hid (¬ Pl.HeadOk h) := fun hh => by have := (hh.at_ HX.out).wd; rw [HWD.out] at this; cases this
            refine wp_region_und (by kernel_rfl) (by kernel_rfl) ?_
            repeat (go_big_quiet_step ((first | (first | (go_at_call 85; with_reducible exact CWD _) | (go_at_call 140; with_reducible exact CSM _)))))
            refine wpQuiet_nil ?_
            intro X hX
            have HXX := Lib.hid (below_step HB2.out hX)
            clear hX
            go_wp2
            go_ret
            exact BoolAns.no HNL.out HXX.out
          | true =>
            by_cases hm0 : mH = 0
            · have HNL : Hid (¬ Pl.HeadOk h) := fun hh => (hh.at_ HX.out).ne (List.length_eq_zero_iff.1 (by have := HML.out; omega))
              have hm0' : ((mH : Int) == 0) = true := by simp [hm0]
              cases so
              all_goals
                refine wp_region_und (by kernel_rfl) (by kernel_rfl) ?_
                repeat (go_big_quiet_step ((first | (first | (go_at_call 85; with_reducible exact CWD _) | (go_at_call 140; with_reducible exact CSM _)))))
                refine wpQuiet_nil ?_
                intro X hX
                have HXX := Lib.hid (below_step HB2.out hX)
                clear hX
                go_wp2
                go_ret
                exact BoolAns.no HNL.out HXX.out
            · have hm0' : ((mH : Int) == 0) = false := by simp [hm0]
              cases so with
              | false =>
                have HNL : Hid (¬ Pl.HeadOk h) := fun hh => by have := (hh.at_ HX.out).sm; rw [HSO.out] at this; cases this
                refine wp_region_und (by kernel_rfl) (by kernel_rfl) ?_
                repeat (go_big_quiet_step ((first | (first | (go_at_call 85; with_reducible exact CWD _) | (go_at_call 140; with_reducible exact CSM _)))))
                refine wpQuiet_nil ?_
                intro X hX
                have HXX := Lib.hid (below_step HB2.out hX)
                clear hX
                go_wp2
                go_ret
                exact BoolAns.no HNL.out HXX.out
              | true =>
                have HUN : Hid (∀ i y, i < k + 1 → h.Rows[i]? = some y → Pl.RowOk h.Rows i y) := fun i y hi hy => by
                  rcases Nat.lt_succ_iff_lt_or_eq.1 hi with h1 | rfl
                  · exact HU.out i y h1 hy
                  · have := HX.out.symm.trans hy
                    injection this with this
                    subst this
                    exact ⟨HWD.out, fun e => hm0 (by rw [HML.out, e]; rfl), HSO.out, HLT.out⟩
                refine wp_region_und (by kernel_rfl) (by kernel_rfl) ?_
                repeat (go_big_quiet_step ((first | (first | (go_at_call 85; with_reducible exact CWD _) | (go_at_call 140; with_reducible exact CSM _)))))
                refine wpQuiet_nil ?_
                intro X hX
                have HSX := Lib.hid ((KS2.out.step hX).sel [1] (by decide) rfl)
                clear hX
                go_wp2
                go_roundg (n0 - (k + 1))
                case measure => omega
                case rel => exact ⟨k + 1, by omega, by omega, by go_num, HUN.out, HSX.out⟩
    · obtain rfl : k = n0 := by omega
      have fc : ¬ ((k : Nat) : Int) < (k : Nat) := by omega
      have d0 := HS.out.cell (k := 0) 0 rfl rfl
      have d1 := HS.out.cell (k := 1) 0 rfl rfl
      have HB2 := Lib.hid HS.out.bel0
      by_cases h8 : k ≤ 8
      · have h8' : ((k : Int) ≤ 8) := by omega
        obtain ⟨inb, hin⟩ : ∃ b, Pl.isIn o 0 1000 = b := ⟨_, rfl⟩
        have HIN := Lib.hid hin
        go_wp2_with (go_at_call 55; refine (within_isJ hin _).mono ?_; rintro e w' ⟨rfl, rfl⟩)
        go_ret
        refine ⟨inb, rfl, ?_, HB2.out⟩
        rw [← HIN.out, Pl.isIn_iff]
        constructor
        · intro ho
          exact Pl.HeadOk.of (fun i x hx => HU.out i x (by have := (List.getElem?_eq_some_iff.1 hx).1; have := HN0.out; omega) hx) (by have := HN0.out; omega) (by rw [HO.out]; exact ho)
        · intro hk; have := hk.off; rw [HO.out] at this; exact this
      · have h8' : ¬ ((k : Int) ≤ 8) := by omega
        have HN : Hid (¬ Pl.HeadOk h) := fun hk => h8 (by have := hk.len; have := HN0.out; omega)
        go_wp2
        go_ret
        exact BoolAns.no HN.out HB2.out
end Go.Proofs.YtbhmdnjammnlnaaGreatDoor

namespace Go.Proofs.YtbhmdnjammnlnaaGreatDoor
open Go.RowKit
attribute [local go_sem] und_cell cha_cell World.cell?_alloc_some
theorem Tryz.infoIntK : (Tryz.prog.info? 3).map (fun i => (i.zero, i.size, i.bytes)) = some (some (.int .i64 0), 1, 8) := by kernel_rfl
def FoldAns (h : Head) (l : List Say) (w : World) (e : Ending) (w' : World) : Prop :=
  ∃ cs fp A n c fq, e = .returned (.tuple #[.agg cs.toArray, .slice A n c, .bool true]) ∧ Mm.SepF [] w w' [Mm.tow rHead (Pl.foldS h l) cs fp, Mm.tsl Mm.int 3 (Pl.foldC h l) (.slice A n c) fq]
set_option maxRecDepth 100000 in
set_option maxHeartbeats 4000000 in
theorem foldSays_c (h : Head) (cs : List Value) (l : List Say) (A : Option Addr) (n c : Nat) (w : World) (B : Nat) (hh : rHead.at_ w B h cs) (hl : Mm.SlAt rSay w B l A n c) (hB : B ≤ w.heap.size) (hw : Pl.HW h) (hok : ∀ x, x ∈ l → Pl.sayOk x = true) (ho : 0 ≤ h.Offset ∧ h.Offset + n ≤ 1000) :
    Calls Tryz.prog 93 #[.agg cs.toArray, .slice A n c] w (FoldAns h l w) := by
  obtain ⟨A0, n0, c0, rfl, r0, io⟩ := rHead_at hh
  have HL := Lib.hid hl
  have HLN : Hid (l.length = n) := hl.1
  have HOK := Lib.hid hok
  have HW := Lib.hid hw
  have ho0 := ho.1
  have ho1 := ho.2
  have R0 := Lib.hid r0
  have HBW := Lib.hid hB
  have IO := Lib.hid io
  clear hh hl hok hw ho r0 hB io
  obtain ⟨iI, qI, qI0, qI1, qI2⟩ := info_parts Tryz.infoIntK
  obtain ⟨ga, hga⟩ : ∃ g, w.heap.size = g := ⟨_, rfl⟩
  obtain ⟨gc, hgc⟩ : ∃ g, ga + 1 = g := ⟨_, rfl⟩
  obtain ⟨W0, hW0⟩ : ∃ W, (w.alloc (.cells #[.slice A0 n0 c0, .int .i64 h.Offset] 73)).alloc (.cells #[.slice none 0 0, .int .i64 0] 73) = W := ⟨_, rfl⟩
  have HS := Lib.hid ((((Mm.SepF.start w).alloc' hga 73 [.slice A0 n0 c0, .int .i64 h.Offset]).alloc' (g := gc) (by rw [Mm.sz1, hga, hgc]) 73 [.slice none 0 0, .int .i64 0]).atW hW0)
  go_enter Tryz.func93, Tryz.ntmps93
  go_upto_region 1 with fail
  clear hW0 hga hgc
  have b0 := HS.out.cell (k := 0) 1 rfl rfl
  have b1 := HS.out.cell (k := 1) 1 rfl rfl
  have hbw0 := HS.out.bel0
  have CC := cloneHead_c h [.slice A0 n0 c0, .int .i64 h.Offset] W0 B (rHead_at_mk (R0.out.keep fun b hb => hbw0.block b (by have := HBW.out; omega)) IO.out) (by have := HBW.out; have := hbw0.size; omega) HW.out
  go_upto_region 2 with (go_at_call 113; (with_reducible refine CC.mono ?_); clear CC; rintro e w5 ⟨cs1, f1, rfl, ho, hnd, hnew, hb5⟩; obtain ⟨A1, n1, c1, -, rfl, -⟩ := rHead_own ho; (have HS5 := Lib.hid (HS.out.add hb5 (t := Mm.tow rHead h [.slice A1 n1 c1, .int .i64 h.Offset] f1) ho hnd hnew)); clear ho hnd hnew hb5)
  clear b0 b1 hbw0
  obtain ⟨gp, hgp⟩ : ∃ g, w5.heap.size = g := ⟨_, rfl⟩
  obtain ⟨W6, hW6⟩ : ∃ W, w5.alloc (.cells #[.slice A1 n1 c1, .int .i64 h.Offset] 73) = W := ⟨_, rfl⟩
  have HS6 := Lib.hid (((HS5.out.alloc' hgp 73 [.slice A1 n1 c1, .int .i64 h.Offset]).atW hW6).headIn)
  rw [hW6, hgp]
  clear hW6 hgp HS HS5
  have KS := Lib.hid (HS6.out.add (Below.refl _ _) (t := Mm.tsl Mm.int 3 [] (.slice none 0 0) []) Mm.SlOwn.nil List.nodup_nil (fun b hb => by cases hb))
  go_upto_region 4 with fail
  clear HS6
  go_loopg [8, 15] n (fun gg s8 i wr => ∃ (k : Nat) (A' : Option Addr) (c' : Nat) (fq fp : List Nat), n - k ≤ gg ∧ k ≤ n ∧ s8 = .slice A' k c' ∧ i = .int .i64 k ∧ Hid (Mm.SepF [] w wr [Mm.tsl Mm.int 3 (Pl.foldC h (l.take k)) (.slice A' k c') fq, Mm.tsl rHead 73 [Pl.foldS h (l.take k)] (.slice (some ⟨gp, 0, none⟩) 1 1) fp, Mm.tblk gc 73 [.slice none 0 0, .int .i64 0]]))
  case atStart => exact ⟨0, none, 0, [], gp :: f1, Nat.le_refl _, Nat.zero_le _, rfl, rfl, KS.out.sel [0, 1, 2] (by decide) rfl⟩
  case round =>
    clear KS
    obtain ⟨k, A', c', fq, fp, hgk, hk', rfl, rfl, HS⟩ := hrel
    obtain ⟨W, rfl⟩ : ∃ W : World, W = wr := ⟨_, rfl⟩
    by_cases hlt : k < n
    · as_aux_lemma =>
      have fc : (k : Int) < (n : Nat) := by omega
      obtain ⟨x, b, off, hx, rfl, hb, hnm, ia, iv, e0, e1, e2⟩ := rSay_get (HL.out.keep (w' := W) fun b hb => HS.out.bel0.block b (by have := HBW.out; omega)) hlt
      have HNX := Lib.hid (Pl.fold_next (h := h) hx)
      have HXK := Lib.hid (HOK.out x (List.mem_of_getElem? hx))
      have HIX := Lib.hid (And.intro hnm (And.intro ia iv))
      clear hx hnm ia iv
      go_upto_region 6 with fail
      obtain ⟨gn, hgn⟩ : ∃ g, W.heap.size = g := ⟨_, rfl⟩
      obtain ⟨W1, hW1⟩ : ∃ V, W.alloc (.cells #[.string x.Name, .int .i64 x.At, .int .i64 x.Value] 55) = V := ⟨_, rfl⟩
      have HS1 := Lib.hid ((HS.out.alloc' hgn 55 [.string x.Name, .int .i64 x.At, .int .i64 x.Value]).atW hW1)
      rw [hW1, hgn]
      clear hW1 e0 e1 e2 HS hgn
      obtain ⟨fk, hfk⟩ : ∃ fk, Pl.foldS h (l.take k) = fk := ⟨_, rfl⟩
      have hof : fk.Offset = h.Offset + k := by rw [← hfk, Pl.foldS_off, List.length_take]; have := HLN.out; congr 1; omega
      have HFW : Hid (Pl.HW fk) := Lib.hid (by rw [← hfk]; exact HW.out.fold _)
      have HFK := Lib.hid hfk
      rw [hfk] at HS1 HNX
      obtain ⟨of, hofe⟩ : ∃ of, fk.Offset = of := ⟨_, rfl⟩
      have hof1 : 0 ≤ of ∧ of < 1000 := by rw [← hofe, hof]; omega
      have HOF := Lib.hid hofe
      have q0 := HS1.out.cell (k := 0) 0 rfl rfl
      have q1 := HS1.out.cell (k := 1) 0 rfl rfl
      have q2 := HS1.out.cell (k := 2) 0 rfl rfl
      have CI := isSay_c x W1 HIX.out.1
      rw [HXK.out] at CI
      have g1 : (of == 1000) = false := by rw [beq_eq_false_iff_ne]; omega
      clear hfk hof hofe
      go_upto_region 8 with (go_at_call 92; (with_reducible refine CI.mono ?_); clear CI; rintro e w2 ⟨rfl, hb2⟩; (have HS2 := Lib.hid (HS1.out.step hb2)); obtain ⟨_, _, _, _, -, o1, -, -, -, -, -, -, -⟩ := HS2.out.headRows 2 rfl (k := 0) rfl; rw [Nat.zero_mul, Nat.zero_add, HOF.out] at o1; clear hb2 q0 q1 q2; (have q0 := HS2.out.cell (k := 0) 0 rfl rfl); (have q1 := HS2.out.cell (k := 1) 0 rfl rfl); (have q2 := HS2.out.cell (k := 2) 0 rfl rfl))
      clear o1 HS1
      have CT := take_c x [fk] gp 1 1 0 fp fk w2 (HS2.out.sl 2 rfl) (HS2.out.ndat (i := 2) rfl) ⟨rfl, HFW.out, by rw [HOF.out]; omega, by omega, HIX.out.1, HIX.out.2.1, HIX.out.2.2⟩
      rw [Nat.zero_mul] at CT
      have HCD := Lib.hid (Pl.takeS_code fk x)
      have HCI : Hid (Mm.I64 (Pl.takeS fk x).2) := Lib.hid (by have := HCD.out; unfold Mm.I64; omega)
      have HCL : Hid ((Pl.foldC h (l.take k)).length = k) := Lib.hid (by rw [Pl.foldC_len, List.length_take]; have := HLN.out; omega)
      obtain ⟨cd, hcd⟩ : ∃ cd, (Pl.takeS fk x).2 = cd := ⟨_, rfl⟩
      unfold TakeAns at CT
      rw [hcd] at CT HCI HNX
      clear hcd
      go_wp2_with first
        | (go_at_call 139; (with_reducible refine CT.mono ?_); clear CT; rintro e w3 ⟨rfl, fp3, hS⟩; (have HS3 := Lib.hid (HS2.out.call 2 rfl hS.left)); clear hS)
        | (at_builtin; refine Mm.app_list (x := cd) HS3.out 1 rfl rfl (.tmp 28) (.tmp 31) 133 rfl iI _ 8 Tryz.underlying133 qI qI0 qI1 qI2 rfl (by decide) rfl rfl (fun W => ⟨rfl, HCI.out, rfl⟩) HCL.out (by unfold maxLen; omega) (by omega) ?_; intro g cap w' fp' hs; (have HS4 := Lib.hid hs); clear hs)
      go_roundg (n - (k + 1))
      case measure => omega
      case rel => exact ⟨k + 1, _, cap, fp', fp3, Nat.le_refl _, by omega, rfl, by go_num, by rw [HNX.out.1, HNX.out.2]; exact HS4.out.sel [1, 2, 3] (by decide) rfl⟩
    · as_aux_lemma =>
      obtain rfl : k = n := by omega
      have HE : Hid (l.take k = l) := Lib.hid (List.take_of_length_le (by have := HLN.out; omega))
      rw [HE.out] at HS
      have fc : ¬ ((k : Nat) : Int) < (k : Nat) := by omega
      have HS1 := Lib.hid (HS.out.sel [1, 0, 2] (by decide) rfl)
      obtain ⟨A2, n2, c2, f2, hS2⟩ := HS1.out.headOut
      have HS2 := Lib.hid hS2
      clear hS2 HS HS1
      have b0 := HS2.out.cell (k := 0) 0 rfl rfl
      have b1 := HS2.out.cell (k := 1) 0 rfl rfl
      have o0 := HS2.out.cell (k := 0) 3 rfl rfl
      have o1 := HS2.out.cell (k := 1) 3 rfl rfl
      have z0 := HS2.out.frz (k := 0) 3 rfl
      have z1 := HS2.out.frz (k := 1) 3 rfl
      obtain ⟨of, hofe⟩ : ∃ of, (Pl.foldS h l).Offset = of := ⟨_, rfl⟩
      have HOF := Lib.hid hofe
      have HSF := Lib.hid ((HS2.out.setBlk (k := 0) 3 rfl (.slice A2 n2 c2)).setBlk (k := 1) 3 rfl (.int .i64 (Pl.foldS h l).Offset))
      rw [hofe] at b1 HSF
      have u0 := HSF.out.cell (k := 0) 3 rfl rfl
      have u1 := HSF.out.cell (k := 1) 3 rfl rfl
      clear hofe
      go_wp2
      exact bodyPost_ret (v := .tuple #[.agg #[.slice A2 n2 c2, .int .i64 of], .slice A' k c', .bool true]) (by simp [results, Tryz.results93, go_sem, u0, u1]) rfl ⟨_, f2, A', k, c', fq, rfl, HSF.out.sel [1, 2] (by decide) rfl⟩
end Go.Proofs.YtbhmdnjammnlnaaGreatDoor

namespace Go.Proofs.YtbhmdnjammnlnaaGreatDoor
open Go.RowKit
attribute [local go_sem] und_cell cha_cell World.cell?_alloc_some
theorem Tryz.infoSayK : (Tryz.prog.info? 55).map (fun i => (i.zero, i.size, i.bytes)) = some (some (.agg #[.string ByteArray.empty, .int .i64 0, .int .i64 0]), 3, 32) := by kernel_rfl
theorem zHead_own {w : World} : rHead.own w ⟨[], 0⟩ [.slice none 0 0, .int .i64 0] [] := by
  have h := rHead_own_mk (w := w) (x := ⟨[], 0⟩) (A := none) (n := 0) (c := 0) (f := []) Mm.SlOwn.nil (by constructor <;> (dsimp only; omega))
  exact h
theorem zHead_at {w : World} {B : Nat} : rHead.at_ w B ⟨[], 0⟩ [.slice none 0 0, .int .i64 0] := by
  have h := rHead_at_mk (w := w) (B := B) (x := ⟨[], 0⟩) (A := none) (n := 0) (c := 0) (Mm.SlAt.nil (Nat.zero_le _) (fun _ => rfl)) (by constructor <;> (dsimp only; omega))
  exact h
set_option maxRecDepth 100000 in
set_option maxHeartbeats 4000000 in
theorem implPlayPlain_c (l : List HouseStep) (A : Option Addr) (n c : Nat) (w : World) (B : Nat) (hl : Mm.SlAt rHouseStep w B l A n c) (hB : B ≤ w.heap.size) :
    Calls Tryz.prog 40 #[.slice A n c] w (Mm.Ret2 rHead w (Pl.playPlain l).1 (Pl.playPlain l).2) := by
  have HL := Lib.hid hl
  have HLN : Hid (l.length = n) := hl.1
  have hnm : n ≤ 9223372036854775807 := by have := hl.2.1; have := hl.2.2.1; unfold maxLen at this; omega
  have HBW := Lib.hid hB
  clear hl hB
  obtain ⟨gr, hgr⟩ : ∃ g, w.heap.size = g := ⟨_, rfl⟩
  obtain ⟨W0, hW0⟩ : ∃ W, w.alloc (.cells #[.slice none 0 0, .int .i64 0] 73) = W := ⟨_, rfl⟩
  have HS := Lib.hid (((Mm.SepF.start w).alloc' hgr 73 [.slice none 0 0, .int .i64 0]).atW hW0)
  by_cases h60 : 60 < n
  · have HF : Hid (Pl.playPlain l = (⟨[], 0⟩, false)) := Lib.hid (if_neg (by have := HLN.out; omega))
    have f1 : (60 : Int) < (n : Nat) := by omega
    rw [HF.out]
    go_enter Tryz.func40, Tryz.ntmps40
    go_upto_region 1 with fail
    clear hW0 hgr
    have b0 := HS.out.cell (k := 0) 0 rfl rfl
    have b1 := HS.out.cell (k := 1) 0 rfl rfl
    have z0 := HS.out.frz (k := 0) 0 rfl
    have z1 := HS.out.frz (k := 1) 0 rfl
    have HSF := Lib.hid ((HS.out.setBlk (k := 0) 0 rfl (.slice none 0 0)).setBlk (k := 1) 0 rfl (.int .i64 0))
    have u0 := HSF.out.cell (k := 0) 0 rfl rfl
    have u1 := HSF.out.cell (k := 1) 0 rfl rfl
    go_wp2
    exact bodyPost_ret (v := .tuple #[.agg #[.slice none 0 0, .int .i64 0], .bool false]) (by simp [results, Tryz.results40, go_sem, u0, u1]) rfl ⟨_, [], rfl, zHead_own, List.nodup_nil, (fun b hb => by cases hb), HSF.out.bel0⟩
  have HF : Hid (Pl.playPlain l = (Pl.foldS ⟨[], 0⟩ (Pl.toldS l), true)) := Lib.hid (if_pos (by have := HLN.out; omega))
  have f1 : ¬ (60 : Int) < (n : Nat) := by omega
  obtain ⟨iP, qP, qP0, qP1, qP2⟩ := info_parts Tryz.infoSayK
  rw [HF.out]
  go_enter Tryz.func40, Tryz.ntmps40
  go_upto_region 1 with fail
  clear hW0 hgr
  have KS := Lib.hid (HS.out.add (Below.refl _ _) (t := Mm.tsl rSay 55 [] (.slice none 0 0) []) Mm.SlOwn.nil List.nodup_nil (fun b hb => by cases hb))
  go_wp2
  clear HS
  go_loopg [4, 16] n (fun gg s4 i wr => ∃ (k m : Nat) (A' : Option Addr) (c' : Nat) (fq : List Nat), n - k ≤ gg ∧ k ≤ n ∧ s4 = .slice A' m c' ∧ i = .int .i64 k ∧ Hid ((Pl.toldS (l.take k)).length = m) ∧ Hid (Mm.SepF [] w wr [Mm.tsl rSay 55 (Pl.toldS (l.take k)) (.slice A' m c') fq, Mm.tblk gr 73 [.slice none 0 0, .int .i64 0]]))
  case atStart => exact ⟨0, 0, none, 0, [], Nat.le_refl _, Nat.zero_le _, rfl, rfl, rfl, KS.out⟩
  case round =>
    clear KS
    obtain ⟨k, m, A', c', fq, hgk, hk', rfl, rfl, HM, HS⟩ := hrel
    obtain ⟨W, rfl⟩ : ∃ W : World, W = wr := ⟨_, rfl⟩
    have hm60 : m ≤ 60 := by have h9 := Pl.toldS_len (l.take k); rw [List.length_take] at h9; have := HM.out; omega
    by_cases hlt : k < n
    · as_aux_lemma =>
      have fc : (k : Int) < (n : Nat) := by omega
      obtain ⟨s, b, off, hs, rfl, hb, ik, ip, hnm2, ia, iv, e0, e1, e2, e3, e4⟩ := rHouseStep_get (HL.out.keep (w' := W) fun b hb => HS.out.bel0.block b (by have := HBW.out; omega)) hlt
      have HNX := Lib.hid (Pl.toldS_next hs)
      have HIX := Lib.hid (And.intro hnm2 (And.intro ia iv))
      clear hs ik ip hnm2 ia iv
      go_upto_region 7 with fail
      obtain ⟨gn, hgn⟩ : ∃ g, W.heap.size = g := ⟨_, rfl⟩
      obtain ⟨W1, hW1⟩ : ∃ V, W.alloc (.cells #[.int .i64 s.Kind, .int .i64 s.Part, .string s.What.Name, .int .i64 s.What.At, .int .i64 s.What.Value] 57) = V := ⟨_, rfl⟩
      have HS1 := Lib.hid ((HS.out.alloc' hgn 57 [.int .i64 s.Kind, .int .i64 s.Part, .string s.What.Name, .int .i64 s.What.At, .int .i64 s.What.Value]).atW hW1)
      rw [hW1, hgn]
      clear hW1 e0 e1 e2 e3 e4 HS hgn
      have q0 := HS1.out.cell (k := 0) 0 rfl rfl
      have q2 := HS1.out.cell (k := 2) 0 rfl rfl
      have q3 := HS1.out.cell (k := 3) 0 rfl rfl
      have q4 := HS1.out.cell (k := 4) 0 rfl rfl
      by_cases hk1 : s.Kind = 1
      · have g1 : (s.Kind == 1) = true := by simp [hk1]
        have CI := isSay_c s.What W1 HIX.out.1
        cases hso : Pl.sayOk s.What with
        | true =>
          have HNY : Hid (Pl.toldS (l.take (k + 1)) = Pl.toldS (l.take k) ++ [s.What]) := Lib.hid (by rw [HNX.out]; exact if_pos (by unfold Pl.tells; rw [hso, decide_eq_true hk1]; rfl))
          rw [hso] at CI
          clear hk1 hso
          go_upto_region 8 with (go_at_call 92; (with_reducible refine CI.mono ?_); clear CI; rintro e w2 ⟨rfl, hb2⟩; (have HS2 := Lib.hid (HS1.out.step hb2)); clear hb2 q0 q2 q3 q4; (have q2 := HS2.out.cell (k := 2) 0 rfl rfl); (have q3 := HS2.out.cell (k := 3) 0 rfl rfl); (have q4 := HS2.out.cell (k := 4) 0 rfl rfl))
          go_wp2_with (at_builtin; refine Mm.app_list (x := s.What) HS2.out 1 rfl rfl (.tmp 28) (.tmp 31) 109 rfl iP _ 32 Tryz.underlying109 qP qP0 qP1 qP2 rfl (by decide) rfl rfl (fun W => (rSay_own_mk (x := s.What) HIX.out)) HM.out (by unfold maxLen; omega) (by omega) ?_; intro g cap w' fp' hs; (have HS4 := Lib.hid hs); clear hs)
          go_roundg (n - (k + 1))
          case measure => omega
          case rel => exact ⟨k + 1, m + 1, _, cap, fp', Nat.le_refl _, by omega, rfl, by go_num, by show _ = _; rw [HNY.out, List.length_append, HM.out]; rfl, by rw [HNY.out]; exact HS4.out.sel [1, 2] (by decide) rfl⟩
        | false =>
          have HNY : Hid (Pl.toldS (l.take (k + 1)) = Pl.toldS (l.take k)) := Lib.hid (by rw [HNX.out]; exact if_neg (by unfold Pl.tells; rw [hso]; simp))
          rw [hso] at CI
          clear hk1 hso
          go_wp2_with (go_at_call 92; (with_reducible refine CI.mono ?_); clear CI; rintro e w2 ⟨rfl, hb2⟩; (have HS2 := Lib.hid (HS1.out.step hb2)); clear hb2)
          go_roundg (n - (k + 1))
          case measure => omega
          case rel => exact ⟨k + 1, m, A', c', fq, Nat.le_refl _, by omega, rfl, by go_num, by show _ = _; rw [HNY.out]; exact HM.out, by rw [HNY.out]; exact HS2.out.sel [1, 2] (by decide) rfl⟩
      · have g1 : (s.Kind == 1) = false := by simp [hk1]
        have HNY : Hid (Pl.toldS (l.take (k + 1)) = Pl.toldS (l.take k)) := Lib.hid (by rw [HNX.out]; exact if_neg (by unfold Pl.tells; rw [decide_eq_false hk1]; simp))
        clear hk1
        go_wp2
        go_roundg (n - (k + 1))
        case measure => omega
        case rel => exact ⟨k + 1, m, A', c', fq, Nat.le_refl _, by omega, rfl, by go_num, by show _ = _; rw [HNY.out]; exact HM.out, by rw [HNY.out]; exact HS1.out.sel [1, 2] (by decide) rfl⟩
    · obtain rfl : k = n := by omega
      have HE : Hid (l.take k = l) := Lib.hid (List.take_of_length_le (by have := HLN.out; omega))
      rw [HE.out] at HS HM
      have fc : ¬ ((k : Nat) : Int) < (k : Nat) := by omega
      have hsz := HS.out.bel0.size
      have CF := foldSays_c ⟨[], 0⟩ [.slice none 0 0, .int .i64 0] (Pl.toldS l) A' m c' W W.heap.size zHead_at ((HS.out.sl 0 rfl).weak (HS.out.sl 0 rfl).olt) (Nat.le_refl _) Pl.HW.zero (fun x hx => Pl.toldS_ok hx) ⟨Int.le_refl _, by show (0 : Int) + m ≤ 1000; omega⟩
      unfold FoldAns at CF
      obtain ⟨of, hof⟩ : ∃ of, (Pl.foldS ⟨[], 0⟩ (Pl.toldS l)).Offset = of := ⟨_, rfl⟩
      have HOF := Lib.hid hof
      clear hof
      go_upto_region 11 with (go_at_call 93; (with_reducible refine CF.mono ?_); clear CF; rintro e w2 ⟨cs, fp, A2, n2, c2, fq2, rfl, hS⟩; obtain ⟨A5, n5, c5, -, rfl, -⟩ := rHead_own (show rHead.own w2 _ cs fp from hS.at_ 0 rfl); (have HS2 := Lib.hid (HS.out.add hS.bel0 (t := Mm.tow rHead (Pl.foldS ⟨[], 0⟩ (Pl.toldS l)) _ fp) (hS.at_ 0 rfl) (hS.ndat (i := 0) rfl) (fun b hb => (hS.new b (Mm.SepF.mem (i := 0) rfl hb)).resolve_left (fun h => by cases h)))); clear hS)
      rw [HOF.out] at HS2 ⊢
      obtain ⟨gx, hgx⟩ : ∃ g, w2.heap.size = g := ⟨_, rfl⟩
      obtain ⟨W3, hW3⟩ : ∃ V, w2.alloc (.cells #[.slice A5 n5 c5, .int .i64 of] 73) = V := ⟨_, rfl⟩
      have HS3 := Lib.hid ((HS2.out.alloc' hgx 73 [.slice A5 n5 c5, .int .i64 of]).atW hW3)
      rw [hW3, hgx]
      clear hW3 hgx HS HS2
      have q0 := HS3.out.cell (k := 0) 0 rfl rfl
      have q1 := HS3.out.cell (k := 1) 0 rfl rfl
      have b0 := HS3.out.cell (k := 0) 3 rfl rfl
      have b1 := HS3.out.cell (k := 1) 3 rfl rfl
      have z0 := HS3.out.frz (k := 0) 3 rfl
      have z1 := HS3.out.frz (k := 1) 3 rfl
      have HSF := Lib.hid ((HS3.out.setBlk (k := 0) 3 rfl (.slice A5 n5 c5)).setBlk (k := 1) 3 rfl (.int .i64 of))
      have u0 := HSF.out.cell (k := 0) 3 rfl rfl
      have u1 := HSF.out.cell (k := 1) 3 rfl rfl
      go_wp2
      exact bodyPost_ret (v := .tuple #[.agg #[.slice A5 n5 c5, .int .i64 of], .bool true]) (by simp [results, Tryz.results40, go_sem, u0, u1]) rfl ⟨_, fp, rfl, HSF.out.at_ 1 rfl, HSF.out.ndat (i := 1) rfl, (fun b hb => (HSF.out.new b (Mm.SepF.mem (i := 1) rfl hb)).resolve_left (fun h => by cases h)), HSF.out.bel0⟩
end Go.Proofs.YtbhmdnjammnlnaaGreatDoor

namespace Go.Proofs.YtbhmdnjammnlnaaGreatDoor
open Go.RowKit
attribute [local go_sem] und_cell cha_cell World.cell?_alloc_some
namespace Pl
def partN (n : Int) (s : ByteArray) : Int := hash s.data.toList % n
theorem partN_bd {n : Int} (h : 1 ≤ n) (s : ByteArray) : 0 ≤ partN n s ∧ partN n s < n := ⟨Int.emod_nonneg _ (by omega), Int.emod_lt_of_pos _ (by omega)⟩
def InPart (n part : Int) (r : List Say) : Prop := ∀ x, x ∈ r → sayOk x = true ∧ partN n x.Name = part
def saysOf (n part : Int) (l : List ByteArray) : Option (List Say) :=
  match readAll l with
  | some r => if ∀ x, x ∈ r → partN n x.Name = part then some r else none
  | none => none
theorem saysOf_iff {n part : Int} {l : List ByteArray} {r : List Say} : saysOf n part l = some r ↔ l = r.map sayTxt ∧ InPart n part r := by
  unfold saysOf InPart
  constructor
  · intro h
    split at h
    · rename_i r' hr
      split at h
      · rename_i hp
        injection h with h
        subst h
        obtain ⟨h1, h2⟩ := readAll_iff.1 hr
        exact ⟨h1, fun x hx => ⟨h2 x hx, hp x hx⟩⟩
      · cases h
    · cases h
  · rintro ⟨h1, h2⟩
    rw [readAll_iff.2 ⟨h1, fun x hx => (h2 x hx).1⟩]
    dsimp only
    rw [if_pos (fun x hx => (h2 x hx).2)]
theorem saysOf_bad {n part : Int} {l : List ByteArray} {k : Nat} {s : ByteArray} (hs : l[k]? = some s) (h : ∀ x, readS s = some x → partN n x.Name ≠ part) : saysOf n part l = none := by
  cases hq : saysOf n part l with
  | none => rfl
  | some r =>
    obtain ⟨h1, h2⟩ := saysOf_iff.1 hq
    rw [h1, List.getElem?_map] at hs
    obtain ⟨x, hx, hxs⟩ := Option.map_eq_some_iff.1 hs
    have := h2 x (List.mem_of_getElem? hx)
    exact absurd this.2 (h x (readS_iff.2 ⟨this.1, hxs⟩))
theorem rec_size {s : ByteArray} {x : ByteArray} (h : x ∈ records s) : x.size ≤ 20 := by
  unfold records at h
  obtain ⟨p, hp, rfl⟩ := List.mem_map.1 h
  rw [recTxt_len hp]
  exact (recs_bound hp).2
theorem lRecs_size {ps : List Piece} {x : ByteArray} (h : x ∈ lRecs ps) : x.size ≤ 20 := by
  unfold lRecs at h
  obtain ⟨p, -, hx⟩ := List.mem_flatMap.1 h
  exact rec_size hx
end Pl
def SaysAns (o : Option (List Say)) (w : World) (e : Ending) (w' : World) : Prop :=
  match o with
  | some r => ∃ A n c fp, e = .returned (.tuple #[.slice A n c, .bool true]) ∧ n = r.length ∧ Mm.SepF [] w w' [Mm.tsl rSay 55 r (.slice A n c) fp]
  | none => e = .returned (.tuple #[.slice none 0 0, .bool false]) ∧ Below w.heap.size w w'
set_option maxRecDepth 100000 in
set_option maxHeartbeats 4000000 in
theorem saysIn_c (g : Log) (part np : Int) (cs : List Value) (w : World) (B Bt : Nat) (hg : rLog.at_ w B g cs) (hB : B ≤ w.heap.size) (hok : Pl.LogOk g) (hnp : 1 ≤ np ∧ np ≤ 3) (ht : Tab Bt w) :
    Calls Tryz.prog 131 #[.agg cs.toArray, .int .i64 part, .int .i64 np] w (SaysAns (Pl.saysOf np part (Pl.lRecs g.Pieces)) w) := by
  obtain ⟨A0, n0, c0, rfl, r0, io⟩ := rLog_at hg
  have hn20 : n0 ≤ 20 := by have := hok.len.2; have := r0.1; omega
  have HSZ := Lib.hid hok.sizes
  have hml : (Pl.lRecs g.Pieces).length ≤ 60 := hok.sum
  have hr20 : ∀ s, s ∈ Pl.lRecs g.Pieces → s.size ≤ 20 := fun s hs => Pl.lRecs_size hs
  have R0 := Lib.hid r0
  have HT := Lib.hid ht
  obtain ⟨RL, hRL⟩ : ∃ l, Pl.lRecs g.Pieces = l := ⟨_, rfl⟩
  rw [hRL] at hml hr20 ⊢
  have HRL := Lib.hid hRL
  clear hg r0 hRL ht
  obtain ⟨bg, hbg⟩ : ∃ b : Int, g.Begin = b := ⟨_, rfl⟩
  rw [hbg] at io ⊢
  clear hbg
  obtain ⟨hnp1, hnp2⟩ := hnp
  obtain ⟨ga, hga⟩ : ∃ g, w.heap.size = g := ⟨_, rfl⟩
  obtain ⟨W0, hW0⟩ : ∃ W, w.alloc (.cells #[.slice A0 n0 c0, .int .i64 bg] 80) = W := ⟨_, rfl⟩
  have KS0 := Lib.hid (((Mm.SepF.start w).alloc' hga 80 [.slice A0 n0 c0, .int .i64 bg]).atW hW0)
  have d0 := KS0.out.cell (k := 0) 0 rfl rfl
  have d1 := KS0.out.cell (k := 1) 0 rfl rfl
  have CL := logAll_c g.Pieces bg A0 n0 c0 W0 B (R0.out.keep fun b hb => KS0.out.bel0.block b (by omega)) (by have := KS0.out.bel0.size; omega) hn20 HSZ.out
  rw [HRL.out] at CL
  go_enter Tryz.func131, Tryz.ntmps131
  go_wp2_with fail
  refine CL.mono ?_
  rintro e w1 ⟨A5, m5, c5, f5, rfl, hm5, hs5⟩
  obtain ⟨W1, rfl⟩ : ∃ W : World, W = w1 := ⟨_, rfl⟩
  have KSL := Lib.hid ((KS0.out.join hs5).sel [0] (by decide) rfl)
  clear CL d0 d1 hs5 KS0 hW0 hga HRL
  rw [← hm5] at hml
  have HQ : Hid (m5 = RL.length) := hm5
  clear hm5
  go_upto_region 3 with fail
  obtain ⟨iP, qP, qP0, qP1, qP2⟩ := info_parts Tryz.infoSayK
  have HR20 : Hid (∀ s, s ∈ RL → s.size ≤ 20) := hr20
  have hm60 : m5 ≤ 60 := hml
  clear hr20 hml
  go_loopg [8, 16] m5 (fun gg o_ i_ wr => ∃ (k : Nat) (A' : Option Addr) (c' : Nat) (fq : List Nat), m5 - k ≤ gg ∧ k ≤ m5 ∧ i_ = .int .i64 (k : Nat) ∧ o_ = .slice A' k c' ∧ Hid (∃ done : List Say, done.length = k ∧ RL.take k = done.map Pl.sayTxt ∧ Pl.InPart np part done ∧ Mm.SepF [] w wr [Mm.tsl rSay 55 done (.slice A' k c') fq, Mm.tsl Mm.str 9 RL (.slice A5 m5 c5) f5]))
  case atStart => exact ⟨0, none, 0, [], by omega, by omega, rfl, rfl, [], rfl, rfl, (fun x hx => by cases hx), KSL.out.add (Below.refl _ _) Mm.SlOwn.nil List.nodup_nil (fun b hb => by cases hb)⟩
  case round =>
    clear KSL
    obtain ⟨k, A', c', fq, hgk, hk, rfl, rfl, HSE⟩ := hrel
    obtain ⟨W, rfl⟩ : ∃ W : World, W = wr := ⟨_, rfl⟩
    obtain ⟨done, hdl, hdt, hdp, hS⟩ := HSE.out
    have HD := Lib.hid (And.intro hdl (And.intro hdt hdp))
    have HS := Lib.hid hS
    clear hdl hdt hdp hS HSE
    by_cases hlt : k < m5
    · have fc : (k : Int) < (m5 : Nat) := by omega
      obtain ⟨s, bb, off, cs0, hs, hA, -, hat, hc⟩ := (HS.out.rdSl 1 rfl).get hlt
      subst hA
      obtain ⟨rfl, -⟩ := hat
      have c0 := hc 0 _ rfl
      rw [show off + k * Mm.str.size + 0 = off + k from by show off + k * 1 + 0 = _; omega] at c0
      have HSX := Lib.hid hs
      have hs20 := HR20.out s (List.mem_of_getElem? hs)
      have CR := (readSay_c s hs20 Bt W (HT.out.on HS.out.bel0))
      clear hc hs
      go_wp2_with fail
      refine CR.mono ?_
      rintro e w1 ⟨x, ok, rfl, hb1, hxi, hrd⟩
      obtain ⟨W1, rfl⟩ : ∃ W : World, W = w1 := ⟨_, rfl⟩
      have KS1 := Lib.hid (HS.out.step hb1)
      have HXI := Lib.hid hxi
      have HRD := Lib.hid hrd
      clear CR c0 hb1 hxi hrd HS
      obtain ⟨gx, hgx⟩ : ∃ g, W1.heap.size = g := ⟨_, rfl⟩
      obtain ⟨W2, hW2⟩ : ∃ W, W1.alloc (.cells #[.string x.Name, .int .i64 x.At, .int .i64 x.Value] 55) = W := ⟨_, rfl⟩
      have KS2 := Lib.hid ((KS1.out.alloc' hgx 55 [.string x.Name, .int .i64 x.At, .int .i64 x.Value]).atW hW2)
      go_upto_region 6 with fail
      clear hW2 hgx KS1
      have q0 := KS2.out.cell (k := 0) 0 rfl rfl
      have q1 := KS2.out.cell (k := 1) 0 rfl rfl
      have q2 := KS2.out.cell (k := 2) 0 rfl rfl
      cases ok with
      | false =>
        have HN : Hid (Pl.saysOf np part RL = none) := Pl.saysOf_bad HSX.out fun y hy => by have := HRD.out; rw [hy] at this; simp at this
        have HBN := Lib.hid KS2.out.bel0
        go_wp2
        go_ret2
        rw [HN.out]
        exact ⟨rfl, HBN.out⟩
      | true =>
        have HRX : Hid (Pl.readS s = some x) := HRD.out.trans (if_pos (by simp))
        have hxn : x.Name.size ≤ maxLen := HXI.out.1
        have CH := hashText_c x.Name W2 hxn
        have hh := Pl.hash_bd x.Name.data.toList
        have HPN : Hid (Pl.partN np x.Name = Pl.hash x.Name.data.toList % np) := rfl
        obtain ⟨hv, hhv⟩ : ∃ v, Pl.hash x.Name.data.toList = v := ⟨_, rfl⟩
        rw [hhv] at CH hh HPN
        obtain ⟨hh1, hh2⟩ := hh
        have htm : hv.tmod np = hv % np := Int.tmod_eq_emod_of_nonneg hh1
        obtain ⟨pv, hpv⟩ : ∃ v, hv % np = v := ⟨_, rfl⟩
        rw [hpv] at htm HPN
        clear hhv hpv hxn
        by_cases hp : pv = part
        · have hp' : (pv != part) = false := by simp [hp]
          have HPP : Hid (Pl.partN np x.Name = part) := HPN.out.trans hp
          clear hp
          go_upto_region 8 with (go_at_call 86; (with_reducible refine CH.mono ?_); clear CH; rintro e w3 ⟨rfl, rfl⟩)
          have hdl := HD.out.1
          go_wp2_with (at_builtin; refine Mm.app_list (x := x) KS2.out 1 rfl rfl (.tmp 36) (.tmp 38) 109 rfl iP _ 32 Tryz.underlying109 qP qP0 qP1 qP2 rfl (by decide) rfl rfl (fun W => (rSay_own_mk (x := x) HXI.out)) hdl (by unfold maxLen; omega) (by omega) ?_; intro g cap w' fp' hs; (have HS4 := Lib.hid hs); clear hs)
          go_roundg (m5 - (k + 1))
          case measure => omega
          case rel => exact ⟨k + 1, _, cap, fp', Nat.le_refl _, by omega, by go_num, rfl, done ++ [x], by rw [List.length_append, HD.out.1]; rfl, by rw [List.take_add_one, HSX.out, HD.out.2.1, List.map_append]; show _ = _ ++ [_]; rw [(Pl.readS_is HRX.out).2]; rfl, fun y hy => by
            rcases List.mem_append.1 hy with hy | hy
            · exact HD.out.2.2 y hy
            · rw [List.mem_singleton] at hy
              subst hy
              exact ⟨(Pl.readS_is HRX.out).1, HPP.out⟩, HS4.out.sel [1, 2] (by decide) rfl⟩
        · have hp' : (pv != part) = true := by simpa using hp
          have HN : Hid (Pl.saysOf np part RL = none) := Pl.saysOf_bad HSX.out fun y hy => by
            have := HRX.out.symm.trans hy
            injection this with this
            subst this
            rw [HPN.out]; exact hp
          have HBN := Lib.hid KS2.out.bel0
          clear hp
          go_wp2_with (go_at_call 86; (with_reducible refine CH.mono ?_); clear CH; rintro e w3 ⟨rfl, rfl⟩)
          go_ret2
          rw [HN.out]
          exact ⟨rfl, HBN.out⟩
    · obtain rfl : k = m5 := by omega
      have fc : ¬ ((k : Nat) : Int) < (k : Nat) := by omega
      have HY : Hid (Pl.saysOf np part RL = some done) := Pl.saysOf_iff.2 ⟨by rw [← HD.out.2.1, List.take_of_length_le (by have := HQ.out; omega)], HD.out.2.2⟩
      go_wp2
      go_ret2
      rw [HY.out]
      exact ⟨A', k, c', fq, rfl, HD.out.1.symm, HS.out.sel [0] (by decide) rfl⟩
end Go.Proofs.YtbhmdnjammnlnaaGreatDoor

namespace Go.Proofs.YtbhmdnjammnlnaaGreatDoor
open Go.RowKit
attribute [local go_sem] und_cell cha_cell World.cell?_alloc_some
namespace Pl
def manyP (p : Piece) : Int := if pieceOk p = true then ((records p.Bytes).length : Int) else -1
theorem starts_len (s : ByteArray) : (starts s).length = (records s).length := by unfold starts records; rw [List.length_map, List.length_map]
theorem recs_records (s : ByteArray) : (recs s).length = (records s).length := by unfold records; rw [List.length_map]
theorem endF_le (s : ByteArray) : ∀ f k, k ≤ s.size → endF s f k ≤ s.size
  | 0, _, h => h
  | f + 1, k, h => by
    unfold endF
    split
    · rename_i n hn
      exact endF_le s f _ (recLen_le hn).1
    · exact h
theorem whole_le (s : ByteArray) : whole s ≤ s.size := endF_le s _ 0 (Nat.zero_le _)
theorem manyP_bd (p : Piece) : -1 ≤ manyP p ∧ manyP p ≤ 60 := by
  unfold manyP
  split
  · rename_i h
    have h1 := pieceOk_size h
    have h2 := records_len p.Bytes
    omega
  · omega
end Pl
set_option maxRecDepth 100000 in
set_option maxHeartbeats 2000000 in
theorem l6Many_c (p : Piece) (cs : List Value) (w : World) (B : Nat) (hp : rPiece.at_ w B p cs) (hB : B ≤ w.heap.size) (hs : p.Bytes.size ≤ 2000000) :
    Calls Tryz.prog 123 #[.agg cs.toArray] w fun e w' => e = .returned (.int .i64 (Pl.manyP p)) ∧ Below w.heap.size w w' := by
  obtain ⟨A, n, c, rfl, g0, g1, hr⟩ := rPiece_at hp
  obtain ⟨fr, s, l⟩ := p
  dsimp only at g0 g1 hr hs ⊢
  have HR := Lib.hid hr
  clear hr hp
  obtain ⟨ga, hga⟩ : ∃ g, w.heap.size = g := ⟨_, rfl⟩
  obtain ⟨W0, hW0⟩ : ∃ W, w.alloc (.cells #[.int .i64 fr, .string s, .slice A n c] 164) = W := ⟨_, rfl⟩
  have KS0 := Lib.hid (((Mm.SepF.start w).alloc' hga 164 [.int .i64 fr, .string s, .slice A n c]).atW hW0)
  have d1 := KS0.out.cell (k := 1) 0 rfl rfl
  have CS := l6Starts_c s hs W0
  go_enter Tryz.func123, Tryz.ntmps123
  go_wp2_with fail
  refine CS.mono ?_
  rintro e w1 ⟨A1, n1, c1, f1, rfl, hn1, hs1⟩
  obtain ⟨W1, rfl⟩ : ∃ W : World, W = w1 := ⟨_, rfl⟩
  have KS1 := Lib.hid (KS0.out.join hs1)
  have HN1 : Hid (n1 = (Pl.records s).length) := hn1.trans (Pl.recs_records s)
  have hn1b : n1 ≤ 2000000 := by have := Pl.recs_len s; omega
  clear CS d1 hs1 hn1 KS0 hW0 hga
  have d1 := KS1.out.cell (k := 1) 1 rfl rfl
  have d2 := KS1.out.cell (k := 2) 1 rfl rfl
  have HBX := Lib.hid KS1.out.bel0
  by_cases h60 : s.size ≤ 60
  · have h60' : decide ((60 : Int) < ((s.size : Nat) : Int)) = false := decide_eq_false (by omega)
    have h60n : decide (60 < s.size) = false := decide_eq_false (by omega)
    by_cases hw : Pl.whole s < s.size
    · have hw' : decide (((Pl.whole s : Nat) : Int) < ((s.size : Nat) : Int)) = true := decide_eq_true (by omega)
      have hwn : decide (Pl.whole s < s.size) = true := decide_eq_true hw
      have HF : Hid (Pl.manyP ⟨fr, s, l⟩ = -1) := by
        show _ = _
        unfold Pl.manyP Pl.pieceOk
        rw [decide_eq_false (show ¬ Pl.whole s = s.size by omega)]
        simp
      clear h60 hw
      go_wp2_with fail
      refine wp_region_und (by kernel_rfl) (by kernel_rfl) ?_
      repeat (go_big_quiet_step ((first | fail)))
      refine wpQuiet_nil ?_
      intro X hX
      have HXX := Lib.hid (below_step HBX.out hX)
      clear hX
      go_wp2
      go_ret
      exact ⟨by rw [HF.out]; rfl, HXX.out⟩
    · have hwl : Pl.whole s ≤ s.size := Pl.whole_le s
      have hw' : decide (((Pl.whole s : Nat) : Int) < ((s.size : Nat) : Int)) = false := decide_eq_false (by omega)
      have hwn : decide (Pl.whole s < s.size) = false := decide_eq_false hw
      have HF : Hid (Pl.manyP ⟨fr, s, l⟩ = if decide (l = Pl.idx3 (Pl.starts s)) = true then ((Pl.records s).length : Int) else -1) := by
        show _ = _
        unfold Pl.manyP Pl.pieceOk
        rw [decide_eq_true (show s.size ≤ 60 from h60), decide_eq_true (show Pl.whole s = s.size by omega)]
        simp
      clear h60 hw hwl
      obtain ⟨bq, hbq⟩ : ∃ b, decide (l = Pl.idx3 (Pl.starts s)) = b := ⟨_, rfl⟩
      rw [hbq] at HF
      have HBQ := Lib.hid hbq
      clear hbq
      go_wp2_with fail
      refine Mm.wp_region_give_all (fun i => match i with | 15 => some (Mm.gSl Mm.int 3 (Pl.idx3 (Pl.starts s))) | 16 => some (Mm.gVal (.bool bq)) | _ => none) (fun i => match i with | 16 => [15] | _ => []) (fun _ => []) (F := []) (D := fun w' => ∃ z : Und W1, w' = und W1 z) (fun X us h => Mm.sep_und h) (by kernel_rfl) (by kernel_rfl) (by kernel_rfl) (Mm.SepF.startDrew _) ?_
      repeat (refine Mm.give_det (by rfl) (by rfl) (by rfl) (fun K hK => ?_); go_big_quiet_op; refine hK _ ?_; clear hK K)
      refine Mm.give_op0 26 (by rfl) rfl (by rfl) (by rfl) (by rfl) (by rfl) Mm.gSl_in (fun others X hX => ?_) ?_
      · go_wp2_with (go_at_call 164; refine (l6Index_c (Pl.starts s) A1 n1 c1 X W1.heap.size ((KS1.out.rdSl 0 rfl).keep fun b hb => hX.bel0.block b hb) hX.chg.size hn1b).mono ?_; rintro e w5 ⟨A5, n5, c5, f5, rfl, hn5, hs5⟩; (have HN5 := Lib.hid hn5); clear hn5)
        exact ⟨rfl, rfl, _, ⟨A5, n5, c5, f5, rfl, rfl, HN5⟩, hX.join hs5⟩
      rintro v ds ⟨A5, n5, c5, f5, rfl, rfl, hn5⟩
      simp only [Act.put, List.setIfInBounds_toArray, List.set_cons_succ, List.set_cons_zero]
      repeat (refine Mm.give_det (by rfl) (by rfl) (by rfl) (fun K hK => ?_); go_big_quiet_op; refine hK _ ?_; clear hK K)
      refine Mm.give_op1 27 15 (by rfl) rfl (by rfl) (by rfl) (by rfl) rfl (by rfl) _ rfl Mm.gVal_in (fun others X hX => ?_) ?_
      · have hl1 := (hX.sl 0 rfl).weak (hX.sl 0 rfl).olt
        have hl2 := (HR.out.keep fun b hb => (hX.bel0.block b (Nat.lt_of_lt_of_le (Nat.lt_of_lt_of_le hb hB) HBX.out.size)).trans (HBX.out.block b (Nat.lt_of_lt_of_le hb hB))).more (B' := X.heap.size) (by have := hX.chg.size; have := HBX.out.size; omega)
        go_wp2_with (go_at_call 163; refine (l1SameJ_c _ _ _ _ _ _ _ _ X X.heap.size hl2 hl1 (Nat.le_refl _)).mono ?_; rintro e w5 ⟨rfl, hb5⟩)
        rw [HBQ.out]
        exact Mm.gvq_val hX.tail hb5 rfl rfl
      rintro v ds ⟨rfl, rfl⟩
      simp only [Act.put, List.setIfInBounds_toArray, List.set_cons_succ, List.set_cons_zero]
      repeat (refine Mm.give_det (by rfl) (by rfl) (by rfl) (fun K hK => ?_); go_big_quiet_op; refine hK _ ?_; clear hK K)
      refine Mm.give_nil ?_
      rintro X hX
      have HXX := Lib.hid (below_step HBX.out hX.bel0)
      clear hX
      cases bq with
      | false =>
        go_wp2
        go_ret
        exact ⟨by rw [HF.out]; simp, HXX.out⟩
      | true =>
        go_wp2
        go_ret
        exact ⟨by rw [HF.out, ← HN1.out]; simp, HXX.out⟩
  · have h60' : decide ((60 : Int) < ((s.size : Nat) : Int)) = true := decide_eq_true (by omega)
    have h60n : decide (60 < s.size) = true := decide_eq_true (by omega)
    have HF : Hid (Pl.manyP ⟨fr, s, l⟩ = -1) := by
      show _ = _
      unfold Pl.manyP Pl.pieceOk
      rw [decide_eq_false h60]
      simp
    clear h60
    go_wp2_with fail
    refine wp_region_und (by kernel_rfl) (by kernel_rfl) ?_
    repeat (go_big_quiet_step ((first | fail)))
    refine wpQuiet_nil ?_
    intro X hX
    have HXX := Lib.hid (below_step HBX.out hX)
    clear hX
    go_wp2
    go_ret
    exact ⟨by rw [HF.out]; rfl, HXX.out⟩
def Pl.LogOkR (g : Log) : Prop := Pl.LogOk g ∧ ∀ p, g.Pieces[0]? = some p → g.Begin ≤ p.From + ((Pl.records p.Bytes).length : Int)
end Go.Proofs.YtbhmdnjammnlnaaGreatDoor

namespace Go.Proofs.YtbhmdnjammnlnaaGreatDoor
open Go.RowKit
attribute [local go_sem] und_cell cha_cell World.cell?_alloc_some
theorem Pl.records_get {s : ByteArray} {k : Nat} {p : Nat × Nat} (h : (Pl.recs s)[k]? = some p) : (Pl.records s)[k]? = some (s.extract (p.1 + 1) (p.1 + 1 + p.2)) := by
  unfold Pl.records
  rw [List.getElem?_map, h]; rfl
theorem Pl.starts_get {s : ByteArray} {k : Nat} {a : Int} (h : (Pl.starts s)[k]? = some a) : ∃ p, (Pl.recs s)[k]? = some p ∧ a = (p.1 : Int) := by
  unfold Pl.starts at h
  rw [List.getElem?_map] at h
  obtain ⟨p, hp, rfl⟩ := Option.map_eq_some_iff.1 h
  exact ⟨p, hp, rfl⟩
theorem Tryz.infoStR : (Tryz.prog.info? 9).map (fun i => (i.zero, i.size, i.bytes)) = some (some (.string ByteArray.empty), 1, 16) := by kernel_rfl
set_option maxRecDepth 100000 in
set_option maxHeartbeats 2000000 in
theorem l6Records_c (p : Piece) (A : Option Addr) (n c : Nat) (w : World) (hs : p.Bytes.size ≤ 1000) :
    Calls Tryz.prog 165 #[.agg #[.int .i64 p.From, .string p.Bytes, .slice A n c]] w (AllAns (Pl.records p.Bytes) w) := by
  obtain ⟨fr, s, l⟩ := p
  dsimp only at hs ⊢
  obtain ⟨iP, qP, qP0, qP1, qP2⟩ := info_parts Tryz.infoStR
  obtain ⟨ga, hga⟩ : ∃ g, w.heap.size = g := ⟨_, rfl⟩
  obtain ⟨W0, hW0⟩ : ∃ W, w.alloc (.cells #[.int .i64 fr, .string s, .slice A n c] 164) = W := ⟨_, rfl⟩
  have KS0 := Lib.hid (((Mm.SepF.start w).alloc' hga 164 [.int .i64 fr, .string s, .slice A n c]).atW hW0)
  have d1 := KS0.out.cell (k := 1) 0 rfl rfl
  have CS := l6Starts_c s (by omega) W0
  go_enter Tryz.func165, Tryz.ntmps165
  go_wp2_with fail
  refine CS.mono ?_
  rintro e w1 ⟨A1, n1, c1, f1, rfl, hn1, hs1⟩
  obtain ⟨W1, rfl⟩ : ∃ W : World, W = w1 := ⟨_, rfl⟩
  have KS1 := Lib.hid (KS0.out.join hs1)
  have HN1 : Hid (n1 = (Pl.recs s).length) := hn1
  have hn1b : n1 ≤ 1000 := by have := Pl.recs_len s; omega
  clear CS d1 hs1 hn1 KS0 hW0 hga
  go_upto_region 4 with fail
  go_loopg [3, 18] n1 (fun gg o_ i_ wr => ∃ (k : Nat) (A' : Option Addr) (c' : Nat) (fq : List Nat), n1 - k ≤ gg ∧ k ≤ n1 ∧ i_ = .int .i64 (k : Nat) ∧ o_ = .slice A' k c' ∧ Hid (Mm.SepF [] w wr [Mm.tsl Mm.str 9 ((Pl.records s).take k) (.slice A' k c') fq, Mm.tsl Mm.int 3 (Pl.starts s) (.slice A1 n1 c1) f1, Mm.tblk ga 164 [.int .i64 fr, .string s, .slice A n c]]))
  case atStart => exact ⟨0, none, 0, [], by omega, by omega, rfl, rfl, KS1.out.add (Below.refl _ _) Mm.SlOwn.nil List.nodup_nil (fun b hb => by cases hb)⟩
  case round =>
    clear KS1
    obtain ⟨k, A', c', fq, hgk, hk, rfl, rfl, HS⟩ := hrel
    obtain ⟨W, rfl⟩ : ∃ W : World, W = wr := ⟨_, rfl⟩
    by_cases hlt : k < n1
    · have fc : (k : Int) < (n1 : Nat) := by omega
      obtain ⟨a, bb, off, cs0, ha, hA, -, hat, hc⟩ := (HS.out.rdSl 1 rfl).get hlt
      subst hA
      obtain ⟨rfl, -⟩ := hat
      have c0 := hc 0 _ rfl
      rw [show off + k * Mm.int.size + 0 = off + k from by show off + k * 1 + 0 = _; omega] at c0
      obtain ⟨p, hp, rfl⟩ := Pl.starts_get ha
      have hrl := Pl.recs_mem (List.mem_of_getElem? hp)
      have hbd := Pl.recs_bound (List.mem_of_getElem? hp)
      have HRG := Lib.hid (Pl.records_get hp)
      obtain ⟨p1, p2⟩ := p
      dsimp only at c0 hrl hbd HRG
      have CG := l1Get_c s p1 (by omega) (by omega) W
      have d1 := HS.out.cell (k := 1) 2 rfl rfl
      clear hc ha hp
      go_wp2_with fail
      refine CG.mono ?_
      rintro e w3 ⟨gn, gx, rfl, hG, hb3⟩
      obtain ⟨W3, rfl⟩ : ∃ W : World, W = w3 := ⟨_, rfl⟩
      have hG2 : gn = (p2 : Int) ∧ gx = ((p1 : Nat) : Int) + 1 := by
        obtain ⟨-, -, -, h4⟩ := hG
        rcases h4 with ⟨m, hm, h5, h6⟩ | ⟨hno, -⟩
        · rw [hrl] at hm
          injection hm with hm
          subst hm
          exact ⟨h5, h6⟩
        · rw [hrl] at hno; cases hno
      obtain ⟨rfl, rfl⟩ := hG2
      have KS3 := Lib.hid (HS.out.step hb3)
      clear CG c0 d1 hb3 hG hrl HS
      have d1 := KS3.out.cell (k := 1) 2 rfl rfl
      obtain ⟨tx, htx⟩ : ∃ t, s.extract (p1 + 1) (p1 + 1 + p2) = t := ⟨_, rfl⟩
      have htl : tx.size ≤ maxLen := by rw [← htx, ByteArray.size_extract]; unfold maxLen; omega
      rw [htx] at HRG
      have hkl : ((Pl.records s).take k).length = k := by rw [List.length_take]; have := HN1.out; have := Pl.recs_records s; omega
      have hbd1 := hbd.1
      clear hbd
      go_wp2_with (at_builtin; refine Mm.app_list (x := tx) KS3.out 0 rfl rfl (.tmp 29) (.tmp 37) 142 rfl iP _ 16 Tryz.underlying142 qP qP0 qP1 qP2 rfl (by decide) rfl rfl (fun W => ⟨rfl, htl, rfl⟩) hkl (by unfold maxLen; omega) (by omega) ?_; intro g cap w' fp' hs4; (have HS4 := Lib.hid hs4); clear hs4)
      go_roundg (n1 - (k + 1))
      case measure => omega
      case rel => exact ⟨k + 1, _, cap, fp', Nat.le_refl _, by omega, by go_num, rfl, by rw [List.take_add_one, HRG.out]; exact HS4.out.sel [0, 1, 2] (by decide) rfl⟩
    · obtain rfl : k = n1 := by omega
      have fc : ¬ ((k : Nat) : Int) < (k : Nat) := by omega
      have HE : Hid ((Pl.records s).take k = Pl.records s) := List.take_of_length_le (by have := HN1.out; have := Pl.recs_records s; omega)
      have HKL : Hid (k = (Pl.records s).length) := HN1.out.trans (Pl.recs_records s)
      go_wp2
      go_ret
      exact ⟨A', k, c', fq, rfl, HKL.out, by rw [HE.out] at HS; exact HS.out.sel [0] (by decide) rfl⟩
set_option maxRecDepth 100000 in
set_option maxHeartbeats 4000000 in
theorem l6All_c (g : Log) (cs : List Value) (w : World) (B : Nat) (hg : rLog.at_ w B g cs) (hB : B ≤ w.heap.size) (hok : Pl.LogOk g) (hb0 : g.Begin = 0) :
    Calls Tryz.prog 125 #[.agg cs.toArray] w (AllAns (Pl.lRecs g.Pieces) w) := by
  obtain ⟨A, n, c, rfl, hr, -⟩ := rLog_at hg
  obtain ⟨ps, bg⟩ := g
  dsimp only at hr hb0 ⊢
  subst hb0
  obtain ⟨iP, qP, qP0, qP1, qP2⟩ := info_parts Tryz.infoStR
  have HR0 := Lib.hid hr
  have HOK := Lib.hid hok
  have HLEN : Hid (ps.length = n) := hr.1
  have hn20 : n ≤ 20 := by have h1 : ps.length ≤ 20 := hok.len.2; have := hr.1; omega
  have hf0 : 0 ≤ Pl.from0 ps := hok.from0.1
  have hf1 : Pl.from0 ps ≤ 100000 := hok.from0.2
  have hml : (Pl.lRecs ps).length ≤ 60 := hok.sum
  have HML := Lib.hid hml
  obtain ⟨f0, hff⟩ : ∃ f, Pl.from0 ps = f := ⟨_, rfl⟩
  rw [hff] at hf0 hf1
  have HF0 := Lib.hid hff
  clear hr hg hok hml hff
  obtain ⟨ga, hga⟩ : ∃ g, w.heap.size = g := ⟨_, rfl⟩
  obtain ⟨W0, hW0⟩ : ∃ W, w.alloc (.cells #[.slice A n c, .int .i64 0] 80) = W := ⟨_, rfl⟩
  have KS0 := Lib.hid (((Mm.SepF.start w).alloc' hga 80 [.slice A n c, .int .i64 0]).atW hW0)
  have d0 := KS0.out.cell (k := 0) 0 rfl rfl
  have HBW := Lib.hid hB
  go_enter Tryz.func125, Tryz.ntmps125
  go_upto_region 3 with fail
  clear d0 hW0 hga hB
  go_loopg [3, 11] n (fun gg o_ i_ wr => ∃ (k m : Nat) (A' : Option Addr) (c' : Nat) (fq : List Nat), n - k ≤ gg ∧ k ≤ n ∧ i_ = .int .i64 (k : Nat) ∧ o_ = .slice A' m c' ∧ Hid (m = (Pl.lRecs (ps.take k)).length) ∧ Hid (Mm.SepF [] w wr [Mm.tsl Mm.str 9 (Pl.lRecs (ps.take k)) (.slice A' m c') fq, Mm.tblk ga 80 [.slice A n c, .int .i64 0]]))
  case atStart => exact ⟨0, 0, none, 0, [], by omega, by omega, rfl, rfl, rfl, KS0.out.add (Below.refl _ _) Mm.SlOwn.nil List.nodup_nil (fun b hb => by cases hb)⟩
  case round =>
    clear KS0
    obtain ⟨k, m, A', c', fq, hgk, hk, rfl, rfl, HM, HS⟩ := hrel
    obtain ⟨W, rfl⟩ : ∃ W : World, W = wr := ⟨_, rfl⟩
    by_cases hlt : k < n
    · have fc : (k : Int) < (n : Nat) := by omega
      have hwk := HR0.out.keep (w' := W) fun b hb => HS.out.bel0.block b (by have := HBW.out; omega)
      obtain ⟨x, bb, off, cs, hx, hA, hb2, hat, hcell⟩ := hwk.get hlt
      subst hA
      obtain ⟨AI, nI, cI, rfl, g0, g1, g2⟩ := rPiece_at hat
      have c0 := hcell 0 _ rfl
      have c1 := hcell 1 _ rfl
      have c2 := hcell 2 _ rfl
      rw [show off + k * rPiece.size + 0 = off + k * 3 from rfl] at c0
      rw [show off + k * rPiece.size + 1 = off + k * 3 + 1 from rfl] at c1
      rw [show off + k * rPiece.size + 2 = off + k * 3 + 2 from rfl] at c2
      have HX := Lib.hid hx
      have hpc := HOK.out.pc k x hx
      have hxs := Pl.pieceOk_size hpc.1
      have hfr : x.From = f0 + ((m : Nat) : Int) := by rw [hpc.2.1, show (⟨ps, 0⟩ : Log).Pieces = ps from rfl, HF0.out, HM.out]
      have hnx := Pl.lRecs_next hx
      have hm60 : m ≤ 60 := by
        rw [HM.out]
        have h5 : (Pl.lRecs (ps.take k)).length ≤ (Pl.lRecs ps).length := by
          conv => rhs; rw [← List.take_append_drop k ps, Pl.lRecs_append]
          rw [List.length_append]; omega
        have := HML.out; omega
      have hrl : (Pl.records x.Bytes).length ≤ 60 := by have := Pl.records_len x.Bytes; omega
      have CR := l6Records_c x AI nI cI
      rw [hfr] at c0 CR
      have HNX := Lib.hid hnx
      obtain ⟨RL, hRL⟩ : ∃ l, Pl.records x.Bytes = l := ⟨_, rfl⟩
      rw [hRL] at CR HNX hrl
      obtain ⟨gp, hgp⟩ : ∃ g, W.heap.size = g := ⟨_, rfl⟩
      obtain ⟨W2, hW2⟩ : ∃ V, W.alloc (.cells #[.int .i64 (f0 + ((m : Nat) : Int)), .string x.Bytes, .slice AI nI cI] 164) = V := ⟨_, rfl⟩
      have KS2 := Lib.hid ((HS.out.alloc' hgp 164 [.int .i64 (f0 + ((m : Nat) : Int)), .string x.Bytes, .slice AI nI cI]).atW hW2)
      have CRW := CR W2 (by omega)
      clear hat hcell g0 g1 g2 hwk hx hnx hRL hpc hfr CR
      go_upto_region 5 with fail
      clear hW2 hgp c0 c1 c2 HS
      have q0 := KS2.out.cell (k := 0) 0 rfl rfl
      have q1 := KS2.out.cell (k := 1) 0 rfl rfl
      have q2 := KS2.out.cell (k := 2) 0 rfl rfl
      go_wp2_with fail
      refine CRW.mono ?_
      rintro e w3 ⟨A5, m5, c5, f5, rfl, hm5, hs5⟩
      obtain ⟨W3, rfl⟩ : ∃ W : World, W = w3 := ⟨_, rfl⟩
      have KS3 := Lib.hid ((KS2.out.join hs5).sel [2, 0, 1, 3] (by decide) rfl)
      have HM5 : Hid (m5 = RL.length) := hm5
      have hm5b : m5 ≤ 60 := by omega
      clear hs5 CRW q0 q1 q2 hm5 hrl KS2
      go_upto_region 6 with fail
      obtain ⟨gw, rfl⟩ : ∃ g : Nat, g = gk := ⟨_, rfl⟩
      go_loopg [3, 18] m5 (fun gg o_ i_ wr => ∃ (j : Nat) (A' : Option Addr) (c' : Nat) (fq : List Nat), m5 - j ≤ gg ∧ j ≤ m5 ∧ i_ = .int .i64 (j : Nat) ∧ o_ = .slice A' (m + j) c' ∧ Hid (Mm.SepF [] w wr [Mm.tsl Mm.str 9 (Pl.lRecs (ps.take k) ++ RL.take j) (.slice A' (m + j) c') fq, Mm.tsl Mm.str 9 RL (.slice A5 m5 c5) f5, Mm.tblk gp 164 [.int .i64 (f0 + ((m : Nat) : Int)), .string x.Bytes, .slice AI nI cI], Mm.tblk ga 80 [.slice (some ⟨bb, off, none⟩) n c, .int .i64 0]]))
      case atStart => exact ⟨0, A', c', fq, by omega, by omega, rfl, rfl, by rw [List.take_zero, List.append_nil, Nat.add_zero]; exact KS3.out⟩
      case round =>
        clear KS3
        obtain ⟨j, A6, c6, fq6, hgj, hj, rfl, rfl, HSJ⟩ := hrel
        obtain ⟨V, rfl⟩ : ∃ W : World, W = wr := ⟨_, rfl⟩
        by_cases hjt : j < m5
        · have fj : (j : Int) < (m5 : Nat) := by omega
          obtain ⟨tx, b7, off7, cs0, hs, hA, -, hat, hc⟩ := (HSJ.out.rdSl 1 rfl).get hjt
          subst hA
          obtain ⟨rfl, htl⟩ := hat
          have e0 := hc 0 _ rfl
          rw [show off7 + j * Mm.str.size + 0 = off7 + j from by show off7 + j * 1 + 0 = _; omega] at e0
          have HTX := Lib.hid hs
          have q0 := HSJ.out.cell (k := 0) 2 rfl rfl
          have d1 := HSJ.out.cell (k := 1) 3 rfl rfl
          have fge : (0 : Int) ≤ f0 + ((m : Nat) : Int) + (j : Int) := by omega
          have hll : (Pl.lRecs (ps.take k) ++ RL.take j).length = m + j := by rw [List.length_append, List.length_take, ← HM.out]; have := HM5.out; omega
          clear hc hs
          go_upto_region 9 with fail
          clear e0 q0 d1 fge
          go_wp2_with (at_builtin; refine Mm.app_list (x := tx) HSJ.out 0 rfl rfl (.tmp 30) (.tmp 32) 142 rfl iP _ 16 Tryz.underlying142 qP qP0 qP1 qP2 rfl (by decide) rfl rfl (fun W => ⟨rfl, htl, rfl⟩) hll (by unfold maxLen; omega) (by omega) ?_; intro g cap w' fp' hs4; (have HS4 := Lib.hid hs4); clear hs4)
          go_roundg (m5 - (j + 1))
          case measure => omega
          case rel => exact ⟨j + 1, _, cap, fp', Nat.le_refl _, by omega, by go_num, by rw [show m + (j + 1) = m + j + 1 by omega], by rw [List.take_add_one, HTX.out, show m + (j + 1) = m + j + 1 by omega, ← List.append_assoc]; exact HS4.out.sel [0, 1, 2, 3] (by decide) rfl⟩
        · obtain rfl : j = m5 := by omega
          have fj : ¬ ((j : Nat) : Int) < (j : Nat) := by omega
          have HE : Hid (Pl.lRecs (ps.take k) ++ RL.take j = Pl.lRecs (ps.take (k + 1))) := by show _ = _; rw [HNX.out, show RL.take j = RL from List.take_of_length_le (by have := HM5.out; omega)]
          have HMN : Hid (m + j = (Pl.lRecs (ps.take (k + 1))).length) := by show _ = _; rw [HNX.out, List.length_append, ← HM.out, ← HM5.out]
          rw [HE.out] at HSJ
          go_wp2
          go_roundg (n - (k + 1))
          case measure => omega
          case rel => exact ⟨k + 1, m + j, A6, c6, fq6, Nat.le_refl _, by omega, by go_num, rfl, HMN.out, HSJ.out.sel [0, 3] (by decide) rfl⟩
    · obtain rfl : k = n := by omega
      have fc : ¬ ((k : Nat) : Int) < (k : Nat) := by omega
      have HE : Hid (ps.take k = ps) := List.take_of_length_le (by have := HLEN.out; omega)
      rw [HE.out] at HS HM
      go_wp2
      go_ret
      exact ⟨A', m, c', fq, rfl, HM.out, HS.out.sel [0] (by decide) rfl⟩
end Go.Proofs.YtbhmdnjammnlnaaGreatDoor

namespace Go.Proofs.YtbhmdnjammnlnaaGreatDoor
open Go.RowKit
namespace Pl
theorem sampleAt_app1 {l t : List Sample} {i : Nat} (h : i < l.length) : sampleAt (l ++ t) i = sampleAt l i := by
  unfold sampleAt
  rw [List.getD_eq_getElem?_getD, List.getD_eq_getElem?_getD, List.getElem?_append_left h]
theorem sampleAt_end (l : List Sample) (x : Sample) : sampleAt (l ++ [x]) l.length = x := by
  unfold sampleAt
  rw [List.getD_eq_getElem?_getD, List.getElem?_append_right (Nat.le_refl _), Nat.sub_self]; rfl
theorem samplesOk_snoc {l : List Sample} {x : Sample} (h : samplesOk l = true) (hx : sampleOk x = true) (hl : l ≠ [] → (sampleAt l (l.length - 1)).At < x.At) (h40 : l.length ≠ 40) : samplesOk (l ++ [x]) = true := by
  have hlen := samplesOk_len h
  unfold samplesOk at h ⊢
  rw [Bool.and_eq_true] at h ⊢
  refine ⟨allB_yes fun i hi => ?_, decide_eq_true (by rw [List.length_append]; show ((l.length + 1 : Nat) : Int) ≤ 40; omega)⟩
  rw [List.length_append] at hi
  have hi' : i < l.length + 1 := hi
  have hg := allB_iff.1 h.1
  by_cases he : i < l.length
  · have h1 := hg i he
    unfold sampleGood at h1 ⊢
    rw [sampleAt_app1 he]
    by_cases h0 : i = 0
    · subst h0; simpa using h1
    · rw [sampleAt_app1 (by omega)]; exact h1
  · obtain rfl : i = l.length := by omega
    unfold sampleGood
    rw [sampleAt_end, hx]
    by_cases h0 : l.length = 0
    · rw [h0]; simp
    · rw [sampleAt_app1 (by omega), decide_eq_true (hl (fun e => h0 (by rw [e]; rfl)))]
      simp
theorem samplesOk_one {x : Sample} (hx : sampleOk x = true) : samplesOk [x] = true :=
  samplesOk_snoc (l := []) rfl hx (fun h => absurd rfl h) (by decide)
theorem sayOk_sample {x : Say} (h : sayOk x = true) : sampleOk ⟨x.At, x.Value⟩ = true := by
  unfold sayOk at h
  rw [Bool.and_eq_true] at h
  exact h.2
theorem HeadOk.take {h : Head} (k : HeadOk h) {x : Say} (hx : sayOk x = true) (ho : h.Offset < 1000) : HeadOk (takeS h x).1 := by
  have hoff : 0 ≤ (takeS h x).1.Offset ∧ (takeS h x).1.Offset ≤ 1000 := by rw [takeS_off]; have := k.off; omega
  have hw := k.hw.take x
  refine ⟨hw.srt, fun r hr => ?_, hw.len, hoff⟩
  by_cases hh : ∃ r0, h.Rows[rpos x.Name h.Rows]? = some r0 ∧ r0.Name = x.Name
  · obtain ⟨r0, hr0, he⟩ := hh
    rw [takeS_hit hr0 he] at hr
    unfold hitS at hr
    split at hr
    · exact k.row r hr
    · split at hr
      · exact k.row r hr
      · split at hr
        · exact k.row r hr
        · rename_i h1 h2 h3
          rcases List.mem_or_eq_of_mem_set hr with h4 | rfl
          · exact k.row r h4
          · have h5 := k.row r0 (List.mem_of_getElem? hr0)
            refine ⟨h5.1, by simp, samplesOk_snoc h5.2.2 (sayOk_sample hx) (fun _ => ?_) h3⟩
            unfold lastAt at h1 h2
            show (sampleAt r0.Samples (r0.Samples.length - 1)).At < x.At
            omega
  · have hm : ∀ o, h.Rows[rpos x.Name h.Rows]? = some o → rnm o ≠ x.Name := fun o ho he => hh ⟨o, ho, he⟩
    rw [takeS_miss hm] at hr
    unfold missS at hr
    split at hr
    · exact k.row r hr
    · rcases List.mem_cons.1 ((Mm.insertAt_perm _ _ _).mem_iff.1 hr) with rfl | h1
      · exact ⟨sayOk_word hx, by simp, samplesOk_one (sayOk_sample hx)⟩
      · exact k.row r h1
theorem HeadOk.fold {l : List Say} : ∀ {h : Head}, HeadOk h → (∀ x, x ∈ l → sayOk x = true) → h.Offset + l.length ≤ 1000 → HeadOk (foldS h l) := by
  induction l with
  | nil => intro h k _ _; exact k
  | cons x l ih =>
    intro h k hx ho
    rw [List.length_cons] at ho
    have h1 := k.take (hx x (List.mem_cons_self ..)) (by omega)
    exact ih h1 (fun y hy => hx y (List.mem_cons_of_mem _ hy)) (by rw [takeS_off]; push_cast at ho; omega)
def FoldOf (h : Head) (l : List Say) : Prop := ∃ m, m ≤ l.length ∧ h = foldS ⟨[], 0⟩ (l.take m)
theorem fold_off0 (l : List Say) (m : Nat) (hm : m ≤ l.length) : (foldS ⟨[], 0⟩ (l.take m)).Offset = (m : Int) := by
  rw [foldS_off, List.length_take]
  show (0 : Int) + _ = _
  omega
theorem fold_ok {l : List Say} (h : ∀ x, x ∈ l → sayOk x = true) (hl : l.length ≤ 1000) (m : Nat) : HeadOk (foldS ⟨[], 0⟩ (l.take m)) :=
  HeadOk.fold HeadOk.zero (fun x hx => h x (List.mem_of_mem_take hx)) (by show (0 : Int) + _ ≤ _; rw [List.length_take]; omega)
theorem FoldOf.ok {h : Head} {l : List Say} (k : FoldOf h l) (hs : ∀ x, x ∈ l → sayOk x = true) (hl : l.length ≤ 1000) : HeadOk h ∧ h.Offset ≤ l.length ∧ foldS ⟨[], 0⟩ (l.take h.Offset.toNat) = h := by
  obtain ⟨m, hm, rfl⟩ := k
  have h1 := fold_off0 l m hm
  refine ⟨fold_ok hs hl m, by rw [h1]; omega, ?_⟩
  rw [h1]; rfl
theorem FoldOf.of {h : Head} {l : List Say} (h1 : HeadOk h) (h2 : h.Offset ≤ l.length) (h3 : foldS ⟨[], 0⟩ (l.take h.Offset.toNat) = h) : FoldOf h l :=
  ⟨h.Offset.toNat, by have := h1.off; omega, h3.symm⟩
structure PartOk (n k : Nat) (g : Log) (hd kp : Head) (l : List Say) : Prop where
  log : LogOk g
  fr : from0 g.Pieces = 0
  bg : g.Begin = 0
  txt : saysOf (n : Int) (k : Int) (lRecs g.Pieces) = some l
  hdf : FoldOf hd l
  kpf : FoldOf kp l
  le : kp.Offset ≤ hd.Offset
theorem PartOk.says {n k : Nat} {g : Log} {hd kp : Head} {l : List Say} (h : PartOk n k g hd kp l) : lRecs g.Pieces = l.map sayTxt ∧ InPart n k l := saysOf_iff.1 h.txt
theorem PartOk.sayOk {n k : Nat} {g : Log} {hd kp : Head} {l : List Say} (h : PartOk n k g hd kp l) : ∀ x, x ∈ l → sayOk x = true := fun x hx => (h.says.2 x hx).1
theorem PartOk.len {n k : Nat} {g : Log} {hd kp : Head} {l : List Say} (h : PartOk n k g hd kp l) : l.length ≤ 60 := by
  have h1 := h.log.sum
  rw [h.says.1, List.length_map] at h1
  exact h1
structure HouseOk (h : House) : Prop where
  n1 : 1 ≤ h.Logs.length
  n3 : h.Logs.length ≤ 3
  hdn : h.Heads.length = h.Logs.length
  kpn : h.Kept.length = h.Logs.length
  part : ∀ k g a b, h.Logs[k]? = some g → h.Heads[k]? = some a → h.Kept[k]? = some b → ∃ l, PartOk h.Logs.length k g a b l
end Pl
end Go.Proofs.YtbhmdnjammnlnaaGreatDoor

namespace Go.Proofs.YtbhmdnjammnlnaaGreatDoor
open Go.RowKit
attribute [local go_sem] und_cell cha_cell World.cell?_alloc_some
theorem headAt_own {w : World} {x : Head} {cs : List Value} {fp : List Nat} (h : rHead.own w x cs fp) {B : Nat} (hB : ∀ b, b ∈ fp → b < B) : rHead.at_ w B x cs := by
  obtain ⟨A, n, c, f, rfl, rfl, h1, h2⟩ := rHead_own h
  exact rHead_at_mk (h1.weak hB) h2
theorem Mm.SepF.rdHead {F : List Nat} {w0 wr : World} {ts : List Mm.Thing} {x : Head} {cs : List Value} {fp : List Nat} (h : Mm.SepF F w0 wr ts) (k : Nat) (hk : ts[k]? = some (Mm.tow rHead x cs fp)) : rHead.at_ wr wr.heap.size x cs :=
  headAt_own (h.at_ k hk) fun b hb => h.lt b (List.mem_flatMap.2 ⟨_, List.mem_of_getElem? hk, hb⟩)
set_option maxRecDepth 100000 in
set_option maxHeartbeats 4000000 in
theorem isFolded_c (h : Head) (l : List Say) (cs : List Value) (A : Option Addr) (n c : Nat) (w : World) (B Bt : Nat) (hh : rHead.at_ w B h cs) (hl : Mm.SlAt rSay w B l A n c) (hB : B ≤ w.heap.size) (hs : ∀ x, x ∈ l → Pl.sayOk x = true) (hln : n ≤ 60) (ht : Tab Bt w) :
    Calls Tryz.prog 132 #[.agg cs.toArray, .slice A n c] w (BoolAns (Pl.FoldOf h l) w) := by
  have HH := Lib.hid hh
  obtain ⟨A0, n0, c0, rfl, -, io⟩ := rHead_at hh
  obtain ⟨o, ho⟩ : ∃ o : Int, h.Offset = o := ⟨_, rfl⟩
  rw [ho] at HH io ⊢
  have HO := Lib.hid ho
  have HL := Lib.hid hl
  have HLN : Hid (n = l.length) := hl.1.symm
  have HSY := Lib.hid hs
  have HT := Lib.hid ht
  unfold Mm.I64 at io
  clear hh hl ho hs ht
  obtain ⟨ga, hga⟩ : ∃ g, w.heap.size = g := ⟨_, rfl⟩
  obtain ⟨W0, hW0⟩ : ∃ W, w.alloc (.cells #[.slice A0 n0 c0, .int .i64 o] 73) = W := ⟨_, rfl⟩
  have KS0 := Lib.hid (((Mm.SepF.start w).alloc' hga 73 [.slice A0 n0 c0, .int .i64 o]).atW hW0)
  have d0 := KS0.out.cell (k := 0) 0 rfl rfl
  have d1 := KS0.out.cell (k := 1) 0 rfl rfl
  have HH0 : Hid (rHead.at_ W0 B h [.slice A0 n0 c0, .int .i64 o]) := rHead.keep HH.out fun b hb => KS0.out.bel0.block b (by omega)
  have CI := isHead_c h [.slice A0 n0 c0, .int .i64 o] W0 B HH0.out (by have := KS0.out.bel0.size; omega)
  go_enter Tryz.func132, Tryz.ntmps132
  go_wp2_with fail
  refine CI.mono ?_
  rintro e w1 ⟨ok, rfl, hok, hb1⟩
  obtain ⟨W1, rfl⟩ : ∃ W : World, W = w1 := ⟨_, rfl⟩
  have KS1 := Lib.hid (KS0.out.step hb1)
  have HOK := Lib.hid hok
  clear CI d0 d1 hok hb1 HH0 hW0 hga KS0
  have d0 := KS1.out.cell (k := 0) 0 rfl rfl
  have d1 := KS1.out.cell (k := 1) 0 rfl rfl
  have HB1 := Lib.hid KS1.out.bel0
  cases ok with
  | false =>
    have HNF : Hid (¬ Pl.FoldOf h l) := fun hf => by have := HOK.out.2 (hf.ok HSY.out (by have := HLN.out; omega)).1; cases this
    go_wp2
    go_ret
    exact BoolAns.no HNF.out HB1.out
  | true =>
    have HHK : Hid (Pl.HeadOk h) := HOK.out.1 rfl
    have hoff := HHK.out.off
    rw [HO.out] at hoff
    obtain ⟨m, rfl⟩ : ∃ m : Nat, o = (m : Int) := ⟨o.toNat, by omega⟩
    by_cases hle : m ≤ n
    · have hle' : decide ((n : Int) < (m : Nat)) = false := decide_eq_false (by omega)
      have hle3 : decide (n < m) = false := decide_eq_false (by omega)
      have hm0 : (0 : Int) ≤ (m : Nat) := by omega
      have hmt : ((m : Nat) : Int).toNat = m := by omega
      have hnc : n ≤ c := HL.out.2.1
      have hmc : m ≤ c := by omega
      have hcm : c ≤ maxLen := HL.out.2.2.1
      have hsz1 : B ≤ W1.heap.size := by have := HB1.out.size; omega
      have HLT : Hid (Mm.SlAt rSay W1 B (l.take m) A m c) := (HL.out.keep fun b hb => HB1.out.block b (by omega)).take hle
      have CF := foldSays_c ⟨[], 0⟩ [.slice none 0 0, .int .i64 0] (l.take m) A m c W1 B zHead_at HLT.out hsz1 Pl.HW.zero (fun x hx => HSY.out x (List.mem_of_mem_take hx)) ⟨by show (0 : Int) ≤ 0; omega, by show (0 : Int) + _ ≤ _; omega⟩
      have HLE : Hid (m ≤ l.length) := by have := HLN.out; show m ≤ _; omega
      clear hle
      go_wp2_with fail
      refine CF.mono ?_
      rintro e w2 ⟨cs2, fp2, A9, n9, c9, fq9, rfl, hs2⟩
      obtain ⟨W2, rfl⟩ : ∃ W : World, W = w2 := ⟨_, rfl⟩
      have KS2 := Lib.hid (KS1.out.join hs2)
      obtain ⟨FH, hFH⟩ : ∃ F, Pl.foldS ⟨[], 0⟩ (l.take m) = F := ⟨_, rfl⟩
      rw [hFH] at KS2
      have HFK : Hid (Pl.HeadOk FH) := by rw [← hFH]; exact Pl.fold_ok HSY.out (by have := HLN.out; omega) m
      have hown := KS2.out.at_ 0 rfl
      obtain ⟨A2, n2, c2, f2, rfl, rfl, -, -⟩ := rHead_own hown
      have HFO : Hid (FH.Offset = (m : Int)) := by rw [← hFH]; exact Pl.fold_off0 l m HLE.out
      have HFH := Lib.hid hFH
      clear hown hFH CF hs2 d0 d1 KS1
      rw [HFO.out] at KS2 ⊢
      obtain ⟨go, hgo⟩ : ∃ g, W2.heap.size = g := ⟨_, rfl⟩
      obtain ⟨W3, hW3⟩ : ∃ W, W2.alloc (.cells #[.slice A2 n2 c2, .int .i64 (m : Nat)] 73) = W := ⟨_, rfl⟩
      have KS3 := Lib.hid ((KS2.out.alloc' hgo 73 [.slice A2 n2 c2, .int .i64 (m : Nat)]).atW hW3)
      go_upto_region 4 with fail
      clear hW3 hgo KS2
      have o0 := KS3.out.cell (k := 0) 0 rfl rfl
      have o1 := KS3.out.cell (k := 1) 0 rfl rfl
      have d0 := KS3.out.cell (k := 0) 3 rfl rfl
      have d1 := KS3.out.cell (k := 1) 3 rfl rfl
      have HB3 := Lib.hid KS3.out.bel0
      have hsz3 := HB3.out.size
      have HA1 : Hid (rHead.at_ W3 W3.heap.size FH [.slice A2 n2 c2, .int .i64 (m : Nat)]) := KS3.out.rdHead 1 rfl
      have HA2 : Hid (rHead.at_ W3 B h [.slice A0 n0 c0, .int .i64 (m : Nat)]) := rHead.keep HH.out fun b hb => HB3.out.block b (by omega)
      have HT3 : Hid (Tab Bt W3) := HT.out.on HB3.out
      have CA := fun z : Und W3 => und_call z (headText_c FH [.slice A2 n2 c2, .int .i64 (m : Nat)] (und W3 z) W3.heap.size Bt (rHead.keep HA1.out fun b hb => z.h.block b hb) (und_size z) HFK.out (HT3.out.on z.h))
      have CB := fun z : Und W3 => und_call z (headText_c h [.slice A0 n0 c0, .int .i64 (m : Nat)] (und W3 z) B Bt (rHead.keep HA2.out fun b hb => z.h.block b (by omega)) (Nat.le_trans (by omega) (und_size z)) HHK.out (HT3.out.on z.h))
      change ∀ z : Und W3, Calls Tryz.prog 170 #[.agg #[.slice A2 n2 c2, .int .i64 (m : Nat)]] (und W3 z) _ at CA
      change ∀ z : Und W3, Calls Tryz.prog 170 #[.agg #[.slice A0 n0 c0, .int .i64 (m : Nat)]] (und W3 z) _ at CB
      obtain ⟨TA, hTA⟩ : ∃ T, Pl.headTxt FH = T := ⟨_, rfl⟩
      obtain ⟨TB, hTB⟩ : ∃ T, Pl.headTxt h = T := ⟨_, rfl⟩
      rw [hTA] at CA
      rw [hTB] at CB
      have HTA := Lib.hid hTA
      have HTB := Lib.hid hTB
      clear hTA hTB
      refine wp_region_und (by kernel_rfl) (by kernel_rfl) ?_
      repeat (go_big_quiet_step ((first | (first | (go_at_call 170; with_reducible exact CA _) | (go_at_call 170; with_reducible exact CB _)))))
      refine wpQuiet_nil ?_
      intro X hX
      have HXX := Lib.hid (below_step HB3.out hX)
      clear hX
      by_cases he : TA = TB
      · subst he
        have HY : Hid (Pl.FoldOf h l) := Pl.FoldOf.of HHK.out (by rw [HO.out]; have := HLE.out; omega) (by rw [HO.out]; exact HFH.out.trans (Pl.headTxt_inj HFK.out HHK.out (HTA.out.trans HTB.out.symm)))
        go_wp2
        go_ret
        exact ⟨true, by simp, ⟨fun _ => HY.out, fun _ => rfl⟩, HXX.out⟩
      · have he' : ¬ (TA.toList = TB.toList) := fun e => he (Pl.ba_inj e)
        have HNF : Hid (¬ Pl.FoldOf h l) := fun hf => he (by
          have h3 := (hf.ok HSY.out (by have := HLN.out; omega)).2.2
          rw [HO.out] at h3
          rw [← HTA.out, ← HTB.out, ← h3, ← HFH.out]; rfl)
        go_wp2
        go_ret
        exact ⟨false, by simp [he'], ⟨(fun h => by cases h), fun h => absurd h HNF.out⟩, HXX.out⟩
    · have hle' : decide ((n : Int) < (m : Nat)) = true := decide_eq_true (by omega)
      have hle3 : decide (n < m) = true := decide_eq_true (by omega)
      have HNF : Hid (¬ Pl.FoldOf h l) := fun hf => by
        have := (hf.ok HSY.out (by have := HLN.out; omega)).2.1
        rw [HO.out] at this
        have := HLN.out; omega
      clear hle
      go_wp2
      go_ret
      exact BoolAns.no HNF.out HB1.out
end Go.Proofs.YtbhmdnjammnlnaaGreatDoor

namespace Go.Proofs.YtbhmdnjammnlnaaGreatDoor
open Go.RowKit
attribute [local go_sem] und_cell cha_cell World.cell?_alloc_some
theorem exists_bool (P : Prop) : ∃ b : Bool, b = true ↔ P := by
  by_cases h : P
  · exact ⟨true, fun _ => h, fun _ => rfl⟩
  · exact ⟨false, (fun h => by cases h), fun hh => absurd hh h⟩
theorem BoolAns.fix {P : Prop} {Q : Program} {f : FuncId} {args : Array Value} {w : World} {b : Bool} (hb : b = true ↔ P) (h : Calls Q f args w (BoolAns P w)) : Calls Q f args w fun e w' => e = .returned (.bool b) ∧ Below w.heap.size w w' :=
  h.mono fun e w' ⟨b', he, h1, h2⟩ => ⟨by
    have : b' = b := by
      cases b' <;> cases b
      · rfl
      · exact absurd (h1.2 (hb.1 rfl)) (by simp)
      · exact absurd (hb.2 (h1.1 rfl)) (by simp)
      · rfl
    rw [he, this], h2⟩
set_option maxRecDepth 100000 in
set_option maxHeartbeats 8000000 in
theorem isHouse_c (h : House) (cs : List Value) (w : World) (B Bt : Nat) (hh : rHouse.at_ w B h cs) (hB : B ≤ w.heap.size) (ht : Tab Bt w) :
    Calls Tryz.prog 76 #[.agg cs.toArray] w (BoolAns (Pl.HouseOk h) w) := by
  obtain ⟨A0, n0, c0, A1, n1, c1, A2, n2, c2, rfl, r0, r1, r2⟩ := rHouse_at hh
  have R0 := Lib.hid r0
  have R1 := Lib.hid r1
  have R2 := Lib.hid r2
  have HN0 : Hid (h.Logs.length = n0) := r0.1
  have HN1 : Hid (h.Heads.length = n1) := r1.1
  have HN2 : Hid (h.Kept.length = n2) := r2.1
  have HT := Lib.hid ht
  have HBW := Lib.hid hB
  have hnm0 : n0 ≤ maxLen := Nat.le_trans r0.2.1 r0.2.2.1
  have hnm1 : n1 ≤ maxLen := Nat.le_trans r1.2.1 r1.2.2.1
  have hnm2 : n2 ≤ maxLen := Nat.le_trans r2.2.1 r2.2.2.1
  unfold maxLen at hnm0 hnm1 hnm2
  clear hh r0 r1 r2 ht hB
  obtain ⟨ga, hga⟩ : ∃ g, w.heap.size = g := ⟨_, rfl⟩
  obtain ⟨W0, hW0⟩ : ∃ W, w.alloc (.cells #[.slice A0 n0 c0, .slice A1 n1 c1, .slice A2 n2 c2] 27) = W := ⟨_, rfl⟩
  have KS0 := Lib.hid (((Mm.SepF.start w).alloc' hga 27 [.slice A0 n0 c0, .slice A1 n1 c1, .slice A2 n2 c2]).atW hW0)
  have d0 := KS0.out.cell (k := 0) 0 rfl rfl
  have d1 := KS0.out.cell (k := 1) 0 rfl rfl
  have d2 := KS0.out.cell (k := 2) 0 rfl rfl
  have HBL := Lib.hid KS0.out.bel0
  go_enter Tryz.func76, Tryz.ntmps76
  by_cases hn : 1 ≤ n0 ∧ n0 ≤ 3
  · obtain ⟨hn1, hn3⟩ := hn
    have hin : Pl.isIn (n0 : Int) 1 3 = true := by unfold Pl.isIn; simp; omega
    by_cases h1 : n1 = n0
    · by_cases h2 : n2 = n0
      · subst h1
        subst h2
        have hz : ((n2 : Int) != (n2 : Int)) = false := by simp
        go_upto_region 5 with (go_at_call 55; (with_reducible refine (within_isJ hin _).mono ?_); rintro e w' ⟨rfl, rfl⟩)
        clear d0 d1 d2 hin HBL hW0 hga hnm0 hnm1 hnm2
        obtain ⟨n0, rfl⟩ : ∃ n, n = n2 := ⟨_, rfl⟩
        go_loopg [31] n0 (fun gg i_ wr => ∃ (k : Nat), n0 - k ≤ gg ∧ k ≤ n0 ∧ i_ = .int .i64 (k : Nat) ∧ Hid (∀ i g a b, i < k → h.Logs[i]? = some g → h.Heads[i]? = some a → h.Kept[i]? = some b → ∃ l, Pl.PartOk n0 i g a b l) ∧ Hid (Mm.SepF [] w wr [Mm.tblk ga 27 [.slice A0 n0 c0, .slice A1 n0 c1, .slice A2 n0 c2]]))
        case atStart => exact ⟨0, by omega, by omega, rfl, (fun i g a b hi => absurd hi (by omega)), KS0.out⟩
        case round =>
          clear KS0
          obtain ⟨k, hgk, hk', rfl, HU, HS⟩ := hrel
          obtain ⟨W, rfl⟩ : ∃ W : World, W = wr := ⟨_, rfl⟩
          by_cases hlt : k < n0
          · have fc : (k : Int) < (n0 : Nat) := by omega
            have hBW : B ≤ W.heap.size := by have := HBW.out; have := HS.out.bel0.size; omega
            have hbw := Lib.hid (fun b (hb : b < B) => HS.out.bel0.block b (by have := HBW.out; omega))
            obtain ⟨x, b0, o0, AP, mP, dP, hx, rfl, hb0, hrp, hbg, e0, e1⟩ := rLog_get (R0.out.keep (w' := W) hbw.out) hlt
            have HX := Lib.hid hx
            have HRP := Lib.hid hrp
            obtain ⟨bg, hbe⟩ : ∃ b : Int, x.Begin = b := ⟨_, rfl⟩
            rw [hbe] at e1 hbg
            have HBE := Lib.hid hbe
            clear hx hrp hbe
            obtain ⟨gl, hgl⟩ : ∃ g, W.heap.size = g := ⟨_, rfl⟩
            obtain ⟨W2, hW2⟩ : ∃ V, W.alloc (.cells #[.slice AP mP dP, .int .i64 bg] 80) = V := ⟨_, rfl⟩
            have KS2 := Lib.hid ((HS.out.alloc' hgl 80 [.slice AP mP dP, .int .i64 bg]).atW hW2)
            have hb2 : Below W.heap.size W W2 := by rw [← hW2]; exact below_new (Below.refl _ _) _
            have HB2 := Lib.hid hb2
            have CL := isLog_c x.Pieces bg AP mP dP W2 B (HRP.out.keep fun b hb => hb2.block b (by omega)) (by have := hb2.size; omega) hbg
            go_upto_region 7 with fail
            clear hW2 hgl e0 e1 hb2 HS
            have q0 := KS2.out.cell (k := 0) 0 rfl rfl
            have q1 := KS2.out.cell (k := 1) 0 rfl rfl
            go_wp2_with fail
            refine CL.mono ?_
            rintro e w3 ⟨lok, rfl, hlok, hb3⟩
            obtain ⟨W3, rfl⟩ : ∃ W : World, W = w3 := ⟨_, rfl⟩
            have KS3 := Lib.hid (KS2.out.step hb3)
            have HLOK := Lib.hid hlok
            have HB3 : Hid (Below W.heap.size W W3) := HB2.out.trans (below_le hb3 HB2.out.size)
            clear CL q0 q1 hb3 hlok KS2
            have q0 := KS3.out.cell (k := 0) 0 rfl rfl
            have q1 := KS3.out.cell (k := 1) 0 rfl rfl
            have HBL := Lib.hid KS3.out.bel0
            cases lok with
            | false =>
              have HNL : Hid (¬ Pl.HouseOk h) := fun hk => by
                have hlt1 : k < h.Heads.length := by have := HN1.out; omega
                have hlt2 : k < h.Kept.length := by have := HN2.out; omega
                obtain ⟨l, hl⟩ := hk.part k x _ _ HX.out (List.getElem?_eq_getElem hlt1) (List.getElem?_eq_getElem hlt2)
                have h1 := hl.log
                have := HLOK.out.2 (by rw [← HBE.out]; exact h1)
                cases this
              go_wp2
              go_ret
              exact BoolAns.no HNL.out HBL.out
            | true =>
              have HLG : Hid (Pl.LogOk x) := by have := HLOK.out.1 rfl; rw [← HBE.out] at this; exact this
              have hmP : 1 ≤ mP := by have h1 := HLG.out.len.1; have := HRP.out.1; omega
              obtain ⟨p0, b3, o3, cs3, hp0, hA3, -, hat3, hc3⟩ := (HRP.out.keep (w' := W3) fun b hb => HB3.out.block b (by omega)).get (k := 0) (by omega)
              obtain ⟨A', n', c', rfl, -, -, -⟩ := rPiece_at hat3
              have f0 := hc3 0 _ rfl
              rw [show o3 + 0 * rPiece.size + 0 = o3 by omega] at f0
              subst hA3
              have HFZ : Hid (Pl.from0 x.Pieces = p0.From) := Pl.from0_get hp0
              obtain ⟨pf, hpf⟩ : ∃ f, p0.From = f := ⟨_, rfl⟩
              rw [hpf] at f0 HFZ
              clear hc3 hat3 hp0 hpf
              by_cases hpf0 : pf = 0
              · have z1 : (pf != 0) = false := by simp [hpf0]
                have HFR : Hid (Pl.from0 x.Pieces = 0) := HFZ.out.trans hpf0
                clear hpf0
                by_cases hbg0 : bg = 0
                · have z2 : (bg != 0) = false := by simp [hbg0]
                  have HBG : Hid (x.Begin = 0) := HBE.out.trans hbg0
                  have HAT : Hid (rLog.at_ W3 B x [.slice (some ⟨b3, o3, none⟩) mP dP, .int .i64 bg]) := by rw [← HBE.out]; exact rLog_at_mk (HRP.out.keep (w' := W3) fun b hb => HB3.out.block b (by omega)) (by rw [HBE.out]; exact hbg)
                  have CS := saysIn_c x (k : Int) (n0 : Int) [.slice (some ⟨b3, o3, none⟩) mP dP, .int .i64 bg] W3 B Bt HAT.out (by have := HB3.out.size; omega) HLG.out ⟨by omega, by omega⟩ (HT.out.on HBL.out)
                  clear hbg0
                  go_wp2_with fail
                  refine CS.mono ?_
                  rintro e w4 hans
                  clear CS f0 q0 q1 HBL
                  cases hso : Pl.saysOf (n0 : Int) (k : Int) (Pl.lRecs x.Pieces) with
                  | none =>
                    rw [hso] at hans
                    obtain ⟨rfl, hb4⟩ := hans
                    have HNL : Hid (¬ Pl.HouseOk h) := fun hk => by
                      have hlt1 : k < h.Heads.length := by have := HN1.out; omega
                      have hlt2 : k < h.Kept.length := by have := HN2.out; omega
                      obtain ⟨l, hl⟩ := hk.part k x _ _ HX.out (List.getElem?_eq_getElem hlt1) (List.getElem?_eq_getElem hlt2)
                      have h1 := hl.txt
                      rw [HN0.out, hso] at h1
                      cases h1
                    obtain ⟨W4, rfl⟩ : ∃ W : World, W = w4 := ⟨_, rfl⟩
                    have KS4 := Lib.hid (KS3.out.step hb4)
                    clear hb4 hso KS3
                    go_upto_region 10 with fail
                    refine wp_region_und (by kernel_rfl) (by kernel_rfl) ?_
                    repeat (go_big_quiet_step ((first | fail)))
                    refine wpQuiet_nil ?_
                    intro X hX
                    have HBL := Lib.hid (below_step KS4.out.bel0 hX)
                    clear hX
                    go_wp2
                    go_ret
                    exact BoolAns.no HNL.out HBL.out
                  | some r =>
                    rw [hso] at hans
                    obtain ⟨A9, n9, c9, f9, rfl, hn9, hs9⟩ := hans
                    obtain ⟨W4, rfl⟩ : ∃ W : World, W = w4 := ⟨_, rfl⟩
                    have KS4 := Lib.hid (KS3.out.join hs9)
                    have HSA := Lib.hid hso
                    have hsi := Pl.saysOf_iff.1 hso
                    have HSY : Hid (∀ y, y ∈ r → Pl.sayOk y = true) := fun y hy => (hsi.2 y hy).1
                    have hr60 : n9 ≤ 60 := by have h1 := HLG.out.sum; rw [hsi.1, List.length_map] at h1; omega
                    have HSR := Lib.hid (KS4.out.rdSl 0 rfl)
                    have HT4 : Hid (Tab Bt W4) := HT.out.on KS4.out.bel0
                    have hbw4 := Lib.hid (fun b (hb : b < B) => KS4.out.bel0.block b (by have := HBW.out; omega))
                    have hBW4 : B ≤ W4.heap.size := by have := HBW.out; have := KS4.out.bel0.size; omega
                    clear hs9 hso hsi hn9 KS3
                    obtain ⟨hd, b1, o1, AH, mH, dH, hxh, hA1, -, hrh, hoi, h0, h1⟩ := rHead_get (R1.out.keep (w' := W4) hbw4.out) hlt
                    subst hA1
                    obtain ⟨kp, b2, o2, AK, mK, dK, hxk, hA2, -, hrk, hoj, k0, k1⟩ := rHead_get (R2.out.keep (w' := W4) hbw4.out) hlt
                    subst hA2
                    have HXH := Lib.hid hxh
                    have HXK := Lib.hid hxk
                    have HHD : Hid (rHead.at_ W4 W4.heap.size hd [.slice AH mH dH, .int .i64 hd.Offset]) := rHead_at_mk (hrh.more hBW4) hoi
                    have HKP : Hid (rHead.at_ W4 W4.heap.size kp [.slice AK mK dK, .int .i64 kp.Offset]) := rHead_at_mk (hrk.more hBW4) hoj
                    clear hxh hxk hrh hrk
                    obtain ⟨fb1, HQ1⟩ := exists_bool (Pl.FoldOf hd r)
                    obtain ⟨fb2, HQ2⟩ := exists_bool (Pl.FoldOf kp r)
                    have HB1 := Lib.hid HQ1
                    have HB2 := Lib.hid HQ2
                    clear HQ1 HQ2
                    go_upto_region 10 with fail
                    have d1 := KS4.out.cell (k := 1) 2 rfl rfl
                    have d2 := KS4.out.cell (k := 2) 2 rfl rfl
                    have CF1 := fun z : Und W4 => und_call z (BoolAns.fix HB1.out (isFolded_c hd r [.slice AH mH dH, .int .i64 hd.Offset] A9 n9 c9 (und W4 z) W4.heap.size Bt (rHead.keep HHD.out fun b hb => z.h.block b hb) (HSR.out.und (Nat.le_refl _) z) (und_size z) HSY.out hr60 (HT4.out.on z.h)))
                    have CF2 := fun z : Und W4 => und_call z (BoolAns.fix HB2.out (isFolded_c kp r [.slice AK mK dK, .int .i64 kp.Offset] A9 n9 c9 (und W4 z) W4.heap.size Bt (rHead.keep HKP.out fun b hb => z.h.block b hb) (HSR.out.und (Nat.le_refl _) z) (und_size z) HSY.out hr60 (HT4.out.on z.h)))
                    change ∀ z : Und W4, Calls Tryz.prog 132 #[.agg #[.slice AH mH dH, .int .i64 hd.Offset], .slice A9 n9 c9] (und W4 z) _ at CF1
                    change ∀ z : Und W4, Calls Tryz.prog 132 #[.agg #[.slice AK mK dK, .int .i64 kp.Offset], .slice A9 n9 c9] (und W4 z) _ at CF2
                    obtain ⟨oh, hoh⟩ : ∃ o : Int, hd.Offset = o := ⟨_, rfl⟩
                    obtain ⟨ok, hok⟩ : ∃ o : Int, kp.Offset = o := ⟨_, rfl⟩
                    rw [hoh] at CF1 h1
                    rw [hok] at CF2 k1
                    have HOH := Lib.hid hoh
                    have HOK2 := Lib.hid hok
                    clear hoh hok
                    obtain ⟨bl, hbl⟩ : ∃ b, decide (oh < ok) = b := ⟨_, rfl⟩
                    have HBLE := Lib.hid hbl
                    cases fb1
                    all_goals cases fb2
                    all_goals cases bl
                    case true.true.false =>
                      have HPK : Hid (Pl.PartOk n0 k x hd kp r) := ⟨HLG.out, HFR.out, HBG.out, HSA.out, HB1.out.1 rfl, HB2.out.1 rfl, by rw [HOH.out, HOK2.out]; have := of_decide_eq_false HBLE.out; omega⟩
                      have HUN : Hid (∀ i g a b, i < k + 1 → h.Logs[i]? = some g → h.Heads[i]? = some a → h.Kept[i]? = some b → ∃ l, Pl.PartOk n0 i g a b l) := fun i g a b hi hg ha hb => by
                        rcases Nat.lt_succ_iff_lt_or_eq.1 hi with h1 | rfl
                        · exact HU.out i g a b h1 hg ha hb
                        · rw [HX.out] at hg; rw [HXH.out] at ha; rw [HXK.out] at hb
                          injection hg with hg; injection ha with ha; injection hb with hb
                          subst hg; subst ha; subst hb
                          exact ⟨r, HPK.out⟩
                      refine wp_region_und (by kernel_rfl) (by kernel_rfl) ?_
                      repeat (go_big_quiet_step ((first | (first | (go_at_call 132; with_reducible exact CF1 _) | (go_at_call 132; with_reducible exact CF2 _)))))
                      refine wpQuiet_nil ?_
                      intro X hX
                      have HSX := Lib.hid ((KS4.out.step hX).sel [2] (by decide) rfl)
                      clear hX
                      go_wp2
                      go_roundg (n0 - (k + 1))
                      case measure => omega
                      case rel => exact ⟨k + 1, Nat.le_refl _, by omega, by go_num, HUN.out, HSX.out⟩
                    all_goals
                      have HNL : Hid (¬ Pl.HouseOk h) := fun hk => by
                        obtain ⟨l, hl⟩ := hk.part k x hd kp HX.out HXH.out HXK.out
                        have hlr : l = r := by
                          have h1 := hl.txt
                          rw [HN0.out] at h1
                          exact Option.some.inj (h1.symm.trans HSA.out)
                        subst hlr
                        have h2 := HB1.out.2 hl.hdf
                        have h3 := HB2.out.2 hl.kpf
                        have h4 := hl.le
                        rw [HOH.out, HOK2.out] at h4
                        have h5 := HBLE.out
                        first | (cases h2; done) | (cases h3; done) | (have := of_decide_eq_true h5; omega)
                      refine wp_region_und (by kernel_rfl) (by kernel_rfl) ?_
                      repeat (go_big_quiet_step ((first | (first | (go_at_call 132; with_reducible exact CF1 _) | (go_at_call 132; with_reducible exact CF2 _)))))
                      refine wpQuiet_nil ?_
                      intro X hX
                      have HBL := Lib.hid (below_step KS4.out.bel0 hX)
                      clear hX
                      go_wp2
                      go_ret
                      exact BoolAns.no HNL.out HBL.out
                · have z2 : (bg != 0) = true := by simpa using hbg0
                  have HNL : Hid (¬ Pl.HouseOk h) := fun hk => by
                    have hlt1 : k < h.Heads.length := by have := HN1.out; omega
                    have hlt2 : k < h.Kept.length := by have := HN2.out; omega
                    obtain ⟨l, hl⟩ := hk.part k x _ _ HX.out (List.getElem?_eq_getElem hlt1) (List.getElem?_eq_getElem hlt2)
                    exact hbg0 (HBE.out.symm.trans hl.bg)
                  clear hbg0
                  go_wp2
                  go_ret
                  exact BoolAns.no HNL.out HBL.out
              · have z1 : (pf != 0) = true := by simpa using hpf0
                have HNL : Hid (¬ Pl.HouseOk h) := fun hk => by
                  have hlt1 : k < h.Heads.length := by have := HN1.out; omega
                  have hlt2 : k < h.Kept.length := by have := HN2.out; omega
                  obtain ⟨l, hl⟩ := hk.part k x _ _ HX.out (List.getElem?_eq_getElem hlt1) (List.getElem?_eq_getElem hlt2)
                  exact hpf0 (HFZ.out.symm.trans hl.fr)
                clear hpf0
                go_wp2
                go_ret
                exact BoolAns.no HNL.out HBL.out
          · obtain rfl : k = n0 := by omega
            have fc : ¬ ((k : Nat) : Int) < (k : Nat) := by omega
            have HY : Hid (Pl.HouseOk h) := ⟨by have := HN0.out; omega, by have := HN0.out; omega, by rw [HN1.out, HN0.out], by rw [HN2.out, HN0.out], fun i g a b hg ha hb => by rw [HN0.out]; exact HU.out i g a b (by have := (List.getElem?_eq_some_iff.1 hg).1; have := HN0.out; omega) hg ha hb⟩
            have HBL := Lib.hid HS.out.bel0
            go_wp2
            go_ret
            exact BoolAns.yes HY.out HBL.out
      · have hz : ((n2 : Int) != (n0 : Int)) = true := by simp; omega
        have HNL : Hid (¬ Pl.HouseOk h) := fun hk => h2 (by rw [← HN2.out, ← HN0.out]; exact hk.kpn)
        subst h1
        clear h2
        go_wp2_with (go_at_call 55; (with_reducible refine (within_isJ hin _).mono ?_); rintro e w' ⟨rfl, rfl⟩)
        go_ret
        exact BoolAns.no HNL.out HBL.out
    · have hz : ((n1 : Int) != (n0 : Int)) = true := by simp; omega
      have HNL : Hid (¬ Pl.HouseOk h) := fun hk => h1 (by rw [← HN1.out, ← HN0.out]; exact hk.hdn)
      clear h1
      go_wp2_with (go_at_call 55; (with_reducible refine (within_isJ hin _).mono ?_); rintro e w' ⟨rfl, rfl⟩)
      go_ret
      exact BoolAns.no HNL.out HBL.out
  · have hin : Pl.isIn (n0 : Int) 1 3 = false := by unfold Pl.isIn; simp; omega
    have HNL : Hid (¬ Pl.HouseOk h) := fun hk => hn ⟨by rw [← HN0.out]; exact hk.n1, by rw [← HN0.out]; exact hk.n3⟩
    clear hn
    go_wp2_with (go_at_call 55; (with_reducible refine (within_isJ hin _).mono ?_); rintro e w' ⟨rfl, rfl⟩)
    go_ret
    exact BoolAns.no HNL.out HBL.out
end Go.Proofs.YtbhmdnjammnlnaaGreatDoor

namespace Go.Proofs.YtbhmdnjammnlnaaGreatDoor
open Go.RowKit
namespace Mm
structure Css {α : Type} (E : Rep α) (w : World) (B : Nat) (xs : List α) (css : List (List Value)) : Prop where
  len : css.length = xs.length
  at_ : ∀ (i : Nat) (x : α) (y : List Value), xs[i]? = some x → css[i]? = some y → E.at_ w B x y
section
variable {α : Type} {E : Rep α} {e : TypeId} {w w' : World} {B B' : Nat} {xs ys : List α} {A : Option Addr} {n c : Nat} {css dss : List (List Value)}
theorem Css.size (h : Css E w B xs css) : ∀ y ∈ css, y.length = E.size := fun y hy => by
  obtain ⟨i, hi, rfl⟩ := List.mem_iff_getElem.1 hy
  have hx := List.getElem?_eq_getElem (show i < xs.length by rw [← h.len]; exact hi)
  exact E.len (h.at_ i _ _ hx (List.getElem?_eq_getElem hi))
theorem Css.keep (h : Css E w B xs css) (k : ∀ b, b < B → w'.heap[b]? = w.heap[b]?) : Css E w' B xs css := ⟨h.len, fun i x y hx hy => E.keep (h.at_ i x y hx hy) k⟩
theorem Css.more (h : Css E w B xs css) (k : B ≤ B') : Css E w B' xs css := ⟨h.len, fun i x y hx hy => E.more (h.at_ i x y hx hy) k⟩
theorem Css.flat_len (h : Css E w B xs css) : (css.flatMap id).length = xs.length * E.size := by
  have hs := h.size
  rw [← h.len]
  clear h
  induction css with
  | nil => simp
  | cons z t ih => rw [List.flatMap_cons, List.length_append, ih (fun y hy => hs y (by simp [hy])), id, hs z (by simp), List.length_cons, Nat.add_mul]; omega
theorem SlAt.cellsOf (h : SlAt E w B xs A n c) : ∃ css, Css E w B xs css ∧ ∀ a, A = some a → ∀ j u, (css.flatMap id)[j]? = some u → w.cell? (a.add j) = some u := by
  have step : ∀ k, k ≤ n → ∃ css : List (List Value), css.length = k ∧ ∀ i x y, xs[i]? = some x → css[i]? = some y → E.at_ w B x y ∧ ∃ b off, A = some ⟨b, off, none⟩ ∧ ∀ j u, y[j]? = some u → w.cell? ⟨b, off + i * E.size + j, none⟩ = some u := by
    intro k
    induction k with
    | zero => intro _; exact ⟨[], rfl, fun i x y _ hy => by simp at hy⟩
    | succ k ih =>
      intro hk
      obtain ⟨css, h1, h2⟩ := ih (by omega)
      obtain ⟨x0, b, off, cs, hx0, hA, hb, ha, hc⟩ := h.get (k := k) (by omega)
      refine ⟨css ++ [cs], by rw [List.length_append, h1]; rfl, fun i x y hx hy => ?_⟩
      by_cases hi : i < k
      · rw [List.getElem?_append_left (by omega)] at hy
        exact h2 i x y hx hy
      · rw [List.getElem?_append_right (by omega), h1] at hy
        obtain rfl : i = k := by
          have := (List.getElem?_eq_some_iff.1 hy).1
          simp at this; omega
        simp at hy
        subst hy
        rw [hx0] at hx
        injection hx with hx
        subst hx
        exact ⟨ha, b, off, hA, hc⟩
  obtain ⟨css, h1, h2⟩ := step n (Nat.le_refl _)
  have hC : Css E w B xs css := ⟨by rw [h1, h.1], fun i x y hx hy => (h2 i x y hx hy).1⟩
  refine ⟨css, hC, fun a hA j u hu => ?_⟩
  obtain ⟨i, r, y, rfl, h3, h4⟩ := flatMap_inv id E.size css hC.size j u hu
  have hx := List.getElem?_eq_getElem (show i < xs.length by rw [← hC.len]; exact (List.getElem?_eq_some_iff.1 h3).1)
  obtain ⟨_, b, off, hA', hc⟩ := h2 i _ y hx h3
  rw [hA] at hA'
  injection hA' with hA'
  subst hA'
  rw [Addr.add_lit, ← Nat.add_assoc]
  exact hc r u h4
end
section
variable {P : Program} {w : World} {e : TypeId} {v : Value} {xs news : List Value} {n m c : Nat} {A : Option Addr}
theorem run_append_row (t ty : TypeId) (i : TypeInfo) (z : Value) (size bytes : Nat) (ht : P.underlying t = some (.slice e)) (hi : P.info? e = some i) (hz : i.zero = some z) (hsize : i.size = size) (hby : i.bytes = bytes) (hzs : z.cells.size = size) (hsz : 0 < size)
    (hown : w.ownsRow 0 e size v n xs) (hA : A = none → m = 0 ∧ c = 0) (hl : news.length = m * size) (hnews : ∀ a, A = some a → ∀ j u, news[j]? = some u → w.cell? (a.add j) = some u) (h1 : ∀ u ∈ news, u.oneCell' = true) (h63 : n + m ≤ maxLen) (hbytes : (n + m) * bytes ≤ 140737488355328) :
    ∃ v' w', (Builtin.append_ #[t, t] ty #[v, .slice A m c]).run P w = .ok v' w' ∧ w'.ownsRow 0 e size v' (n + m) (xs ++ news) ∧ w.grownBy w' v.ownBlock ∧ (v'.ownBlock = v.ownBlock ∨ v'.ownBlock = some w.heap.size) := by
  cases A with
  | none =>
    obtain ⟨rfl, rfl⟩ := hA rfl
    have hn0 : news = [] := List.length_eq_zero_iff.1 (by omega)
    subst hn0
    refine ⟨v, w, run_append_owned_none (P := P) w 0 t ty e i size ht hi v n xs hown, ?_, ⟨rfl, rfl, rfl, Nat.le_refl _, fun _ _ _ => rfl⟩, .inl rfl⟩
    rw [List.append_nil]
    exact hown
  | some a =>
    obtain ⟨v', w', hr, h2, h3, _, h5⟩ := run_append_own_at (P := P) w 0 t ty e i z size bytes ht hi hz hsize hby hzs hsz v n xs hown a m c news hl (hnews a rfl) h1 h63 hbytes (Nat.zero_le _)
    exact ⟨v', w', hr, h2, h3, h5⟩
end
end Mm
end Go.Proofs.YtbhmdnjammnlnaaGreatDoor

namespace Go.Proofs.YtbhmdnjammnlnaaGreatDoor
open Go.RowKit
namespace Mm
section
variable {α : Type} {E : Rep α} {e : TypeId} {w : World} {xs : List α} {v : Value} {fp : List Nat}
theorem SlOwn.insLate (h : SlOwn E e w xs v fp) {k : Nat} (hk : k ≤ xs.length) (hnd : fp.Nodup) :
    ∃ l, w.ownsRow 0 e E.size v xs.length l ∧ (∀ u ∈ l, u.oneCell' = true) ∧ ∀ w' v' x cx fx, Below w.heap.size w w' → E.own w' x cx fx → fx.Nodup → (∀ b, b ∈ fx → w.heap.size ≤ b) → w'.ownsRow 0 e E.size v' (xs.length + 1) (l.take (k * E.size) ++ cx ++ l.drop (k * E.size)) → (∀ g, v'.ownBlock = some g → w.heap.size ≤ g ∧ g ∉ fx) →
      ∃ fp', SlOwn E e w' (insertAt xs k x) v' fp' ∧ fp'.Nodup ∧ ∀ b, b ∈ fp' → b ∈ fp ∨ w.heap.size ≤ b := by
  have hlt := h.olt
  obtain ⟨es, he, ho, rfl⟩ := h
  refine ⟨_, ho, fun u hu => ?_, fun w' v' x cx fx hb hx hxd hxf ho' hat => ?_⟩
  · obtain ⟨y, hy, hu⟩ := List.mem_flatMap.1 hu
    obtain ⟨z, _, hz⟩ := he.mem hy
    exact E.one hz u hu
  have hkeep : ∀ b, b ∈ es.flatMap (·.2) → w'.heap[b]? = w.heap[b]? := fun b hb' => hb.block b (hlt b (List.mem_append_right _ hb'))
  have hke : k ≤ es.length := by rw [he.1]; exact hk
  have hp : ((insertAt es k (cx, fx)).flatMap (·.2)).Perm (fx ++ es.flatMap (·.2)) := by
    have := (insertAt_perm es k (cx, fx)).flatMap_right (fun y => y.2)
    rwa [List.flatMap_cons] at this
  refine ⟨_, ⟨insertAt es k (cx, fx), ⟨by rw [insertAt_len, insertAt_len, he.1], fun i y z hy hz => ?_⟩, ?_, rfl⟩, ?_, ?_⟩
  · rcases insertAt_get hk hy with ⟨h1, h2⟩ | ⟨h1, h2⟩ | ⟨h1, h2⟩
    · rcases insertAt_get hke hz with ⟨g1, g2⟩ | ⟨g1, g2⟩ | ⟨g1, g2⟩
      · exact E.okeep (he.2 i y z h2 g2) fun b hb => hkeep b (List.mem_flatMap.2 ⟨z, List.mem_of_getElem? g2, hb⟩)
      · omega
      · omega
    · rcases insertAt_get hke hz with ⟨g1, g2⟩ | ⟨g1, g2⟩ | ⟨g1, g2⟩
      · omega
      · subst h2; subst g2
        exact hx
      · omega
    · rcases insertAt_get hke hz with ⟨g1, g2⟩ | ⟨g1, g2⟩ | ⟨g1, g2⟩
      · omega
      · omega
      · exact E.okeep (he.2 _ y z h2 g2) fun b hb => hkeep b (List.mem_flatMap.2 ⟨z, List.mem_of_getElem? g2, hb⟩)
  · rw [insertAt_len, insertAt_flat (·.1) E.size es k (cx, fx) he.len]
    exact ho'
  · have h1 : v'.ownBlock.toList.Nodup := by cases v'.ownBlock <;> simp
    rw [List.nodup_append] at hnd ⊢
    refine ⟨h1, ?_, fun a ha b hb hab => ?_⟩
    · rw [hp.nodup_iff, List.nodup_append]
      exact ⟨hxd, hnd.2.1, fun a ha b hb hab => by
        subst hab
        have := hxf a ha
        have := hlt a (List.mem_append_right _ hb)
        omega⟩
    · subst hab
      have h2 := hat a (by simpa using ha)
      rcases List.mem_append.1 (hp.mem_iff.1 hb) with hb | hb
      · exact h2.2 hb
      · have := hlt a (List.mem_append_right _ hb); omega
  · intro b hb
    rcases List.mem_append.1 hb with hb | hb
    · exact .inr (hat b (by simpa using hb)).1
    · rcases List.mem_append.1 (hp.mem_iff.1 hb) with hb | hb
      · exact .inr (hxf b hb)
      · exact .inl (List.mem_append_right _ hb)
theorem SepF.insLate {F : List Nat} {w0 wr : World} {ts : List Thing} (h : SepF F w0 wr ts) (i : Nat) {k : Nat} (hi : ts[i]? = some (tsl E e xs v fp)) (hk : k ≤ xs.length) :
    ∃ l, wr.ownsRow 0 e E.size v xs.length l ∧ (∀ u ∈ l, u.oneCell' = true) ∧ ∀ w' v' x cx fx, Below wr.heap.size wr w' → E.own w' x cx fx → fx.Nodup → (∀ b, b ∈ fx → wr.heap.size ≤ b) → w'.ownsRow 0 e E.size v' (xs.length + 1) (l.take (k * E.size) ++ cx ++ l.drop (k * E.size)) → (∀ g, v'.ownBlock = some g → wr.heap.size ≤ g ∧ g ∉ fx) →
      ∃ fp', SepF F w0 w' (ts.set i (tsl E e (insertAt xs k x) v' fp')) := by
  obtain ⟨l, k1, k2, k3⟩ := (h.sl i hi).insLate hk (h.ndat hi)
  refine ⟨l, k1, k2, fun w' v' x cx fx hb hx hxd hxf ho' hat => ?_⟩
  obtain ⟨fp', m1, m2, m3⟩ := k3 w' v' x cx fx hb hx hxd hxf ho' hat
  exact ⟨fp', h.upd hi (Chg.of_below hb) m1 m2 m3⟩
end
theorem rowKeepK {w w' : World} {base S : Nat} {e : TypeId} {v : Value} {n : Nat} {xs : List Value} (h : w.ownsRow base e S v n xs) (hk : ∀ g, v.ownBlock = some g → w'.heap[g]? = w.heap[g]?) : w'.ownsRow base e S v n xs := by
  refine ⟨h.1, h.2.imp id ?_⟩
  rintro ⟨g, cap, cur, rfl, h1, h2, h3⟩
  exact ⟨g, cap, cur, rfl, h1, (hk g rfl).trans h2, h3⟩
theorem rowFormK {w : World} {S : Nat} {e : TypeId} {v : Value} {n : Nat} {xs : List Value} (h : w.ownsRow 0 e S v n xs) : ∃ A c, v = .slice A n c := by
  rcases h.2 with ⟨h1, h2⟩ | ⟨g', cap, cur, h1, _⟩
  · exact ⟨none, 0, by rw [h1, h2]⟩
  · exact ⟨_, cap, h1⟩
end Mm
set_option maxRecDepth 100000 in
theorem put3R (W : World) (A1 A3 : Option Addr) (n p m3 c1 c3 : Nat) (lc : List Value) (ho : W.ownsRow 0 139 2 (.slice A1 n c1) n lc) (h1c : ∀ u ∈ lc, u.oneCell' = true) (hp : p ≤ n) (hn : n ≤ 100) (hA1 : A1 = none → p = 0 ∧ c1 = 0) (hm : m3 = n - p) (hA3 : A3 = none → m3 = 0 ∧ c3 = 0) (hs1 : ∀ a, A1 = some a → ∀ j u, (lc.take (p * 2))[j]? = some u → W.cell? (a.add j) = some u) (hs3 : ∀ a, A3 = some a → ∀ j u, (lc.drop (p * 2))[j]? = some u → W.cell? (a.add j) = some u) :
    ∃ A8 c8 w8, (∀ ty, (Builtin.append_ #[71, 71] ty #[.slice (some ⟨W.heap.size, 0, none⟩) 0 0, .slice A1 p c1]).run Tryz.prog (W.alloc (.cells #[] 139)) = .ok (.slice A8 p c8) w8) ∧ Below W.heap.size W w8 ∧ (∀ g, (Value.slice A8 p c8).ownBlock = some g → W.heap.size ≤ g ∧ g < w8.heap.size) ∧
    ∀ V (ct : List Value), Below w8.heap.size w8 V → ct.length = 2 → (∀ u ∈ ct, u.oneCell' = true) →
    ∃ A10 c10 w10, (∀ ty, (Builtin.append_ #[71, 71] ty #[.slice A8 p c8, .slice (some ⟨V.heap.size, 0, none⟩) 1 1]).run Tryz.prog (V.alloc (.cells ct.toArray 139)) = .ok (.slice A10 (p + 1) c10) w10) ∧
    (∀ k, k < V.heap.size → (Value.slice A8 p c8).ownBlock ≠ some k → w10.heap[k]? = V.heap[k]?) ∧
    ∃ A11 c11 w11, (∀ ty, (Builtin.append_ #[71, 71] ty #[.slice A10 (p + 1) c10, .slice A3 m3 c3]).run Tryz.prog w10 = .ok (.slice A11 (n + 1) c11) w11) ∧
      w11.ownsRow 0 139 2 (.slice A11 (n + 1) c11) (n + 1) (lc.take (p * 2) ++ ct ++ lc.drop (p * 2)) ∧ Below W.heap.size W w11 ∧ (∀ k, k < V.heap.size → (Value.slice A8 p c8).ownBlock ≠ some k → w11.heap[k]? = V.heap[k]?) ∧ (∀ g, (Value.slice A11 (n + 1) c11).ownBlock = some g → (Value.slice A8 p c8).ownBlock = some g ∨ V.heap.size ≤ g) := by
  obtain ⟨i0, hi, hz0, hzs, hzb⟩ := info_parts Tryz.infoRowI
  have hcl := ho.1
  have hU := Tryz.underlying71
  have k0 : Below W.heap.size W (W.alloc (.cells #[] 139)) := below_new (Below.refl _ _) _
  have hblk : ∀ {V : World}, Below W.heap.size W V → ∀ (a : Addr) j u, W.cell? (a.add j) = some u → V.cell? (a.add j) = some u := fun hb a j u h => below_some hb h
  have r0 : (W.alloc (.cells #[] 139)).ownsRow 0 139 2 (.slice (some ⟨W.heap.size, 0, none⟩) 0 0) 0 [] := ⟨rfl, .inr ⟨W.heap.size, 0, #[], rfl, Nat.zero_le _, heap_alloc_new W _, Nat.le_refl _, Nat.zero_le _, rfl, rfl⟩⟩
  have ap : ∀ {V : World} {v : Value} {nn : Nat} {xs news : List Value} {A : Option Addr} {mm cc : Nat}, V.ownsRow 0 139 2 v nn xs → (A = none → mm = 0 ∧ cc = 0) → news.length = mm * 2 → (∀ a, A = some a → ∀ j u, news[j]? = some u → V.cell? (a.add j) = some u) → (∀ u ∈ news, u.oneCell' = true) → nn + mm ≤ 1000 →
      ∃ v' w', (∀ ty, (Builtin.append_ #[71, 71] ty #[v, .slice A mm cc]).run Tryz.prog V = .ok v' w') ∧ w'.ownsRow 0 139 2 v' (nn + mm) (xs ++ news) ∧ V.grownBy w' v.ownBlock ∧ (v'.ownBlock = v.ownBlock ∨ v'.ownBlock = some V.heap.size) := by
    intro V v nn xs news A mm cc q1 q2 q3 q4 q5 q6
    obtain ⟨v', w', hr, h2, h3, h4⟩ := Mm.run_append_row (P := Tryz.prog) (w := V) 71 0 i0 _ 2 40 hU hi hz0 hzs hzb rfl (by omega) q1 q2 q3 q4 q5 (by unfold maxLen; omega) (by omega)
    exact ⟨v', w', fun ty => hr, h2, h3, h4⟩
  obtain ⟨v8, w8, e1, r1, g1, o1⟩ := ap r0 hA1 (by rw [List.length_take, hcl]; omega) (fun a ha j u hj => hblk k0 a j u (hs1 a ha j u hj)) (fun u hu => h1c u (List.mem_of_mem_take hu)) (by omega)
  rw [Nat.zero_add, List.nil_append] at r1
  obtain ⟨A8, c8, rfl⟩ := Mm.rowFormK r1
  have k1 : Below W.heap.size W w8 := k0.grown g1 k0.size (fun k hk => by simp [Value.ownBlock] at hk; omega)
  have n1 : ∀ g, (Value.slice A8 p c8).ownBlock = some g → W.heap.size ≤ g ∧ g < w8.heap.size := fun g hg => ⟨by
    rcases o1 with h | h
    · rw [hg] at h; simp [Value.ownBlock] at h; omega
    · rw [hg] at h; injection h with h; have := k0.size; omega, (r1.lt g hg).2⟩
  refine ⟨A8, c8, w8, e1, k1, n1, fun V ct hV hct h1 => ?_⟩
  have kV : Below W.heap.size W V := below_step k1 hV
  have k2 : Below W.heap.size W (V.alloc (.cells ct.toArray 139)) := below_new kV _
  have hsz : w8.heap.size ≤ V.heap.size := hV.size
  have r2 : (V.alloc (.cells ct.toArray 139)).ownsRow 0 139 2 (.slice A8 p c8) p (lc.take (p * 2)) := Mm.rowKeepK r1 (fun g hg => (heap_alloc_old V _ (Nat.lt_of_lt_of_le (n1 g hg).2 hsz)).trans (hV.block g (n1 g hg).2))
  have nb := Mm.Blk.new V 139 ct
  obtain ⟨v10, w10, e2, r3, g2, o2⟩ := ap (A := some ⟨V.heap.size, 0, none⟩) (mm := 1) (cc := 1) (news := ct) r2 (fun h => by cases h) (by omega) (fun a ha j u hj => by injection ha with ha; subst ha; rw [Mm.add0]; exact nb.cell hj) h1 (by omega)
  obtain ⟨A10, c10, rfl⟩ := Mm.rowFormK r3
  have k3 : Below W.heap.size W w10 := k2.grown g2 k2.size (fun k hk => (n1 k hk).1)
  have hs2 : (V.alloc (.cells ct.toArray 139)).heap.size = V.heap.size + 1 := Mm.sz1 _ _
  have hK1 : ∀ k, k < V.heap.size → (Value.slice A8 p c8).ownBlock ≠ some k → w10.heap[k]? = V.heap[k]? := fun k hk hn => (g2.block k (by omega) (fun hh => hn hh.symm)).trans (heap_alloc_old V _ hk)
  have n2 : ∀ g, (Value.slice A10 (p + 1) c10).ownBlock = some g → (Value.slice A8 p c8).ownBlock = some g ∨ V.heap.size ≤ g := fun g hg => by
    rcases o2 with h | h
    · rw [hg] at h; exact .inl h.symm
    · rw [hg] at h; injection h with h; exact .inr (by omega)
  have n2' : ∀ g, (Value.slice A10 (p + 1) c10).ownBlock = some g → W.heap.size ≤ g := fun g hg => by
    rcases n2 g hg with h | h
    · exact (n1 g h).1
    · have := kV.size; omega
  refine ⟨A10, c10, w10, e2, hK1, ?_⟩
  obtain ⟨v11, w11, e3, r4, g3, o3⟩ := ap r3 hA3 (by rw [List.length_drop, hcl, hm]; omega) (fun a ha j u hj => hblk k3 a j u (hs3 a ha j u hj)) (fun u hu => h1c u (List.mem_of_mem_drop hu)) (by omega)
  rw [show p + 1 + m3 = n + 1 by omega] at r4
  obtain ⟨A11, c11, rfl⟩ := Mm.rowFormK r4
  have hs10 : V.heap.size < w10.heap.size := by have := g2.size; omega
  refine ⟨A11, c11, w11, e3, r4, k3.grown g3 k3.size (fun k hk => n2' k hk), fun k hk hn => ?_, fun g hg => ?_⟩
  · refine (g3.block k (by omega) (fun hh => ?_)).trans (hK1 k hk hn)
    rcases n2 k hh.symm with h | h
    · exact hn h
    · omega
  · rcases o3 with h | h
    · rw [hg] at h; exact n2 g h.symm
    · rw [hg] at h; injection h with h; exact .inr (by omega)
end Go.Proofs.YtbhmdnjammnlnaaGreatDoor

