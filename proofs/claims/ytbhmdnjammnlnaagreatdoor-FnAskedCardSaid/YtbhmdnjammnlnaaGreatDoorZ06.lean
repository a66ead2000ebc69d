/-
  Joined texts, in build order: Jm, Jn, Jo, K7, K8, Jp, Jq. Each part says what it proves; no conditions beyond those that a part names.
-/
import Derived.Test.YtbhmdnjammnlnaaGreatDoorZ04
import Derived.Test.YtbhmdnjammnlnaaGreatDoorZ05
import Derived.Deep.LoopGhost
set_option linter.unusedVariables false
set_option linter.unusedSimpArgs false
namespace Go.Proofs.YtbhmdnjammnlnaaGreatDoor
open Go.RowKit
attribute [local go_sem] und_cell cha_cell World.cell?_alloc_some
def RdAns (s : ByteArray) (w : World) (e : Ending) (w' : World) : Prop :=
  ∃ (x : Say) (b : Bool), e = .returned (.tuple #[.agg #[.string x.Name, .int .i64 x.At, .int .i64 x.Value], .bool b]) ∧ Below w.heap.size w w' ∧ (x.Name.size ≤ maxLen ∧ Mm.I64 x.At ∧ Mm.I64 x.Value) ∧ Pl.readS s = if b = true then some x else none
theorem RdAns.some_ {s : ByteArray} {w w' : World} {x : Say} (h : Pl.readS s = some x) (hb : Below w.heap.size w w') : RdAns s w (.returned (.tuple #[.agg #[.string x.Name, .int .i64 x.At, .int .i64 x.Value], .bool true])) w' := by
  have h1 := (Pl.readS_is h).1
  have h2 := Pl.sayOk_bounds h1
  have h3 := Pl.sayOk_name h1
  exact ⟨x, true, rfl, hb, ⟨by unfold maxLen; omega, by unfold Mm.I64; omega, by unfold Mm.I64; omega⟩, h⟩
theorem RdAns.zero {s : ByteArray} {w w' : World} (h : Pl.readS s = none) (hb : Below w.heap.size w w') : RdAns s w (.returned (.tuple #[.agg #[.string ⟨#[]⟩, .int .i64 0, .int .i64 0], .bool false])) w' :=
  ⟨⟨⟨#[]⟩, 0, 0⟩, false, rfl, hb, ⟨by show 0 ≤ maxLen; exact Nat.zero_le _, by show Mm.I64 0; unfold Mm.I64; omega, by show Mm.I64 0; unfold Mm.I64; omega⟩, h⟩
theorem RdAns.no {s : ByteArray} {w w' : World} {x : Say} (h : Pl.readS s = none) (hb : Below w.heap.size w w') (hx : x.Name.size ≤ maxLen ∧ Mm.I64 x.At ∧ Mm.I64 x.Value) : RdAns s w (.returned (.tuple #[.agg #[.string x.Name, .int .i64 x.At, .int .i64 x.Value], .bool false])) w' :=
  ⟨x, false, rfl, hb, hx, h⟩
def Atoi18 (s : ByteArray) (w : World) (e : Ending) (w' : World) : Prop :=
  ∃ n ev, e = .returned (.tuple #[.int .i64 n, ev]) ∧ Below w.heap.size w w' ∧ Mm.I64 n ∧ ((Lib.atoi s.data.toList = some n ∧ ev = .nilIface) ∨ (Lib.atoi s.data.toList = none ∧ ∃ tp p, ev = .iface tp p))
theorem atoi18_c (s : ByteArray) (hs : s.size ≤ 18) (B : Nat) (w : World) (ht : Tab B w) : Calls Tryz.prog 180 #[.string s] w (Atoi18 s w) := by
  refine (atoi_c s (by omega) B w ht).mono ?_
  rintro e w' ⟨n, ev, rfl, hb, hn, h⟩
  have hl : s.data.toList.length ≤ 18 := by rw [Array.length_toList]; exact hs
  have ha := Lib.atoiAll_short s.data.toList hl
  refine ⟨n, ev, rfl, hb, hn, ?_⟩
  rcases h with ⟨h1, h2⟩ | ⟨h1, h2⟩
  · left
    refine ⟨?_, h2⟩
    rw [ha] at h1
    cases hq : Lib.atoi s.data.toList with
    | some v => rw [hq] at h1; injection h1 with h1; rw [h1]
    | none => rw [hq] at h1; cases h1
  · right
    refine ⟨?_, h2⟩
    cases hq : Lib.atoi s.data.toList with
    | some v => rw [hq] at ha; exact absurd ha (h1 v)
    | none => rfl
namespace Pl
theorem three_words {s : ByteArray} (h : (splitS 32 s).length = 3) : ∃ a b c : ByteArray, splitS 32 s = [a, b, c] ∧ splitL 32 s.data.toList = [a.data.toList, b.data.toList, c.data.toList] := by
  unfold splitS at h ⊢
  rw [List.length_map] at h
  match hs : splitL 32 s.data.toList, h with
  | [a, b, c], _ => exact ⟨⟨a.toArray⟩, ⟨b.toArray⟩, ⟨c.toArray⟩, rfl, by simp⟩
theorem bmk (a : ByteArray) : (⟨a.data.toList.toArray⟩ : ByteArray) = a := sba_ext (by simp)
end Pl
set_option maxRecDepth 100000 in
set_option maxHeartbeats 2000000 in
theorem readSay_c (s : ByteArray) (hs : s.size ≤ 20) (B : Nat) (w : World) (ht : Tab B w) : Calls Tryz.prog 155 #[.string s] w (RdAns s w) := by
  obtain ⟨g0, hg0⟩ : ∃ g, w.heap.size = g := ⟨_, rfl⟩
  obtain ⟨W0, hW0⟩ : ∃ W, w.alloc (.cells #[.string ⟨#[]⟩, .int .i64 0, .int .i64 0] 55) = W := ⟨_, rfl⟩
  have KS0 := Lib.hid (((Mm.SepF.start w).alloc' hg0 55 [.string ⟨#[]⟩, .int .i64 0, .int .i64 0]).atW hW0)
  have HT0 : Hid (Tab B W0) := ht.on KS0.out.bel0
  have CS := split_c s 32 (by omega) B W0 HT0.out
  obtain ⟨g1, hg1⟩ : ∃ g, W0.heap.size = g := ⟨_, rfl⟩
  have HTT : Hid (Tab B w) := ht
  clear ht
  by_cases hn : (Pl.splitS 32 s).length = 3
  · obtain ⟨a, b, c, hp, hpl⟩ := Pl.three_words hn
    have HPL := Lib.hid hpl
    have hsz := Pl.three_size hpl
    rw [Array.length_toList, Array.length_toList, Array.length_toList] at hsz
    have hsz' : a.size + b.size + c.size + 2 = s.size := hsz
    rw [hp, hg1] at CS
    clear hpl hsz hn hp
    obtain ⟨W1, hW1⟩ : ∃ W, W0.alloc (.cells #[.string a, .string b, .string c] 9) = W := ⟨_, rfl⟩
    have KS1 := Lib.hid ((KS0.out.alloc' hg1 9 [.string a, .string b, .string c]).atW hW1)
    have CS' : Calls Tryz.prog 179 #[.string s, .string ⟨#[32]⟩] W0 fun e w' => e = .returned (.slice (some ⟨g1, 0, none⟩) 3 3) ∧ w' = W1 := CS.mono fun e w' ⟨h1, h2⟩ => ⟨h1, h2.trans hW1⟩
    clear CS hW1 hg1
    have c0 := KS1.out.cell (k := 0) 0 rfl rfl
    have c1 := KS1.out.cell (k := 1) 0 rfl rfl
    have c2 := KS1.out.cell (k := 2) 0 rfl rfl
    have HT1 : Hid (Tab B W1) := HTT.out.on KS1.out.bel0
    go_enter Tryz.func155, Tryz.ntmps155
    go_wp2_with fail
    refine CS'.mono ?_
    rintro e w' ⟨rfl, hw'⟩
    obtain rfl : W1 = w' := hw'.symm
    clear CS' hW0 hg0
    have CA := atoi18_c b (by omega) B W1 HT1.out
    go_wp2_with fail
    refine CA.mono ?_
    rintro e w' ⟨n1, ev1, rfl, hb2, hI1, h1⟩
    obtain ⟨W2, rfl⟩ : ∃ W : World, W = w' := ⟨_, rfl⟩
    have KS2 := Lib.hid (KS1.out.step hb2)
    have HT2 : Hid (Tab B W2) := HTT.out.on KS2.out.bel0
    clear CA c0 c1 c2 KS1 HT1 hb2
    have c0 := KS2.out.cell (k := 0) 0 rfl rfl
    have c2 := KS2.out.cell (k := 2) 0 rfl rfl
    have CB := atoi18_c c (by omega) B W2 HT2.out
    go_wp2_with fail
    refine CB.mono ?_
    rintro e w' ⟨n2, ev2, rfl, hb3, hI2, h2⟩
    obtain ⟨W3, rfl⟩ : ∃ W : World, W = w' := ⟨_, rfl⟩
    have KS3 := Lib.hid (KS2.out.step hb3)
    clear CB c0 c2 KS2 HT2 hb3
    have c0 := KS3.out.cell (k := 0) 0 rfl rfl
    obtain ⟨g3, hg3⟩ : ∃ g, W3.heap.size = g := ⟨_, rfl⟩
    obtain ⟨W4, hW4⟩ : ∃ W, W3.alloc (.cells #[.string a, .int .i64 n1, .int .i64 n2] 55) = W := ⟨_, rfl⟩
    have KS4 := Lib.hid ((KS3.out.alloc' hg3 55 [.string a, .int .i64 n1, .int .i64 n2]).atW hW4)
    have H1 := Lib.hid h1
    have H2 := Lib.hid h2
    clear h1 h2
    go_upto_region 7 with fail
    clear hW4 hg3 c0
    have d0 := KS4.out.cell (k := 0) 0 rfl rfl
    have d1 := KS4.out.cell (k := 1) 0 rfl rfl
    have d2 := KS4.out.cell (k := 2) 0 rfl rfl
    rcases H1.out with ⟨h1, rfl⟩ | ⟨h1, tp, pp, rfl⟩
    · rcases H2.out with ⟨h2, rfl⟩ | ⟨h2, tp, pp, rfl⟩
      · have HR : Hid (Pl.readS s = if Pl.sayOk ⟨a, n1, n2⟩ = true ∧ Pl.sayTxt ⟨a, n1, n2⟩ = s then some ⟨a, n1, n2⟩ else none) := by
          show _ = _
          rw [Pl.readS_three HPL.out, h1, h2]
        have CI := isSay_c ⟨a, n1, n2⟩ W4 (by show a.size ≤ maxLen; unfold maxLen; omega)
        clear h1 h2
        obtain ⟨so, hso⟩ : ∃ so, Pl.sayOk ⟨a, n1, n2⟩ = so := ⟨_, rfl⟩
        rw [hso] at CI HR
        cases so with
        | false =>
          have HN : Hid (Pl.readS s = none) := HR.out.trans (if_neg (by simp))
          go_upto_region 8 with (go_at_call 92; (with_reducible refine CI.mono ?_); rintro e w5 ⟨rfl, hb5⟩)
          obtain ⟨W9, rfl⟩ : ∃ W : World, W = w5 := ⟨_, rfl⟩
          have KS9 := Lib.hid (KS4.out.step hb5)
          clear CI KS4 d0 d1 d2
          have HBL := Lib.hid KS9.out.bel0
          have y0 := KS9.out.frz (k := 0) 2 rfl
          have y1 := KS9.out.frz (k := 1) 2 rfl
          have y2 := KS9.out.frz (k := 2) 2 rfl
          have z0 := KS9.out.cell (k := 0) 2 rfl rfl
          have z1 := KS9.out.cell (k := 1) 2 rfl rfl
          have z2 := KS9.out.cell (k := 2) 2 rfl rfl
          obtain ⟨WR, hWR⟩ : ∃ W, ((W9.setCell ⟨g0, 0, none⟩ (.string ⟨#[]⟩)).setCell ⟨g0, 1, none⟩ (.int .i64 0)).setCell ⟨g0, 2, none⟩ (.int .i64 0) = W := ⟨_, rfl⟩
          have KSR := Lib.hid ((((KS9.out.setBlk (k := 0) 2 rfl (.string ⟨#[]⟩)).setBlk (k := 1) 2 rfl (.int .i64 0)).setBlk (k := 2) 2 rfl (.int .i64 0)).atW hWR)
          have u0 := KSR.out.cell (k := 0) 2 rfl rfl
          have u1 := KSR.out.cell (k := 1) 2 rfl rfl
          have u2 := KSR.out.cell (k := 2) 2 rfl rfl
          go_wp2
          exact bodyPost_ret (v := .tuple #[.agg #[.string ⟨#[]⟩, .int .i64 0, .int .i64 0], .bool false]) (by simp [results, Tryz.results155, go_sem, u0, u1, u2]) rfl (RdAns.zero HN.out KSR.out.bel0)
        | true =>
          have hq := Pl.sayOk_bounds hso
          have hqn := Pl.sayOk_name hso
          go_wp2_with fail
          refine CI.mono ?_
          rintro e w5 ⟨rfl, hb5⟩
          obtain ⟨W5, rfl⟩ : ∃ W : World, W = w5 := ⟨_, rfl⟩
          have KS5 := Lib.hid (KS4.out.step hb5)
          have HT5 : Hid (Tab B W5) := HTT.out.on KS5.out.bel0
          clear CI KS4 d0 d1 d2
          have d0 := KS5.out.cell (k := 0) 0 rfl rfl
          have d1 := KS5.out.cell (k := 1) 0 rfl rfl
          have d2 := KS5.out.cell (k := 2) 0 rfl rfl
          have CT := sayText_c ⟨a, n1, n2⟩ (by show a.size ≤ 1000; omega) ⟨by show _ < n1; omega, by show n1 < _; omega⟩ ⟨by show _ < n2; omega, by show n2 < _; omega⟩ B W5 HT5.out
          obtain ⟨TX, hTX⟩ : ∃ T, Pl.sayTxt ⟨a, n1, n2⟩ = T := ⟨_, rfl⟩
          rw [hTX] at CT HR
          go_wp2_with fail
          refine CT.mono ?_
          rintro e w6 ⟨rfl, hb6⟩
          obtain ⟨W9, rfl⟩ : ∃ W : World, W = w6 := ⟨_, rfl⟩
          have KS9 := Lib.hid (KS5.out.step hb6)
          clear CT KS5 HT5 d0 d1 d2 hq hqn hso hTX hb5 hb6
          by_cases he : TX = s
          · subst he
            have HY : Hid (Pl.readS TX = some ⟨a, n1, n2⟩) := HR.out.trans (if_pos (by simp))
            have d0 := KS9.out.cell (k := 0) 0 rfl rfl
            have d1 := KS9.out.cell (k := 1) 0 rfl rfl
            have d2 := KS9.out.cell (k := 2) 0 rfl rfl
            have HBL := Lib.hid KS9.out.bel0
            have y0 := KS9.out.frz (k := 0) 2 rfl
            have y1 := KS9.out.frz (k := 1) 2 rfl
            have y2 := KS9.out.frz (k := 2) 2 rfl
            have z0 := KS9.out.cell (k := 0) 2 rfl rfl
            have z1 := KS9.out.cell (k := 1) 2 rfl rfl
            have z2 := KS9.out.cell (k := 2) 2 rfl rfl
            obtain ⟨WR, hWR⟩ : ∃ W, ((W9.setCell ⟨g0, 0, none⟩ (.string a)).setCell ⟨g0, 1, none⟩ (.int .i64 n1)).setCell ⟨g0, 2, none⟩ (.int .i64 n2) = W := ⟨_, rfl⟩
            have KSR := Lib.hid ((((KS9.out.setBlk (k := 0) 2 rfl (.string a)).setBlk (k := 1) 2 rfl (.int .i64 n1)).setBlk (k := 2) 2 rfl (.int .i64 n2)).atW hWR)
            have u0 := KSR.out.cell (k := 0) 2 rfl rfl
            have u1 := KSR.out.cell (k := 1) 2 rfl rfl
            have u2 := KSR.out.cell (k := 2) 2 rfl rfl
            go_wp2
            exact bodyPost_ret (v := .tuple #[.agg #[.string a, .int .i64 n1, .int .i64 n2], .bool true]) (by simp [results, Tryz.results155, go_sem, u0, u1, u2]) rfl (RdAns.some_ HY.out KSR.out.bel0)
          · have HN : Hid (Pl.readS s = none) := HR.out.trans (if_neg (fun h => he h.2))
            have he' : (!(TX.toList == s.toList)) = true := by simpa using fun e => he (Pl.ba_inj e)
            have HBL := Lib.hid KS9.out.bel0
            have y0 := KS9.out.frz (k := 0) 2 rfl
            have y1 := KS9.out.frz (k := 1) 2 rfl
            have y2 := KS9.out.frz (k := 2) 2 rfl
            have z0 := KS9.out.cell (k := 0) 2 rfl rfl
            have z1 := KS9.out.cell (k := 1) 2 rfl rfl
            have z2 := KS9.out.cell (k := 2) 2 rfl rfl
            obtain ⟨WR, hWR⟩ : ∃ W, ((W9.setCell ⟨g0, 0, none⟩ (.string ⟨#[]⟩)).setCell ⟨g0, 1, none⟩ (.int .i64 0)).setCell ⟨g0, 2, none⟩ (.int .i64 0) = W := ⟨_, rfl⟩
            have KSR := Lib.hid ((((KS9.out.setBlk (k := 0) 2 rfl (.string ⟨#[]⟩)).setBlk (k := 1) 2 rfl (.int .i64 0)).setBlk (k := 2) 2 rfl (.int .i64 0)).atW hWR)
            have u0 := KSR.out.cell (k := 0) 2 rfl rfl
            have u1 := KSR.out.cell (k := 1) 2 rfl rfl
            have u2 := KSR.out.cell (k := 2) 2 rfl rfl
            go_wp2
            exact bodyPost_ret (v := .tuple #[.agg #[.string ⟨#[]⟩, .int .i64 0, .int .i64 0], .bool false]) (by simp [results, Tryz.results155, go_sem, u0, u1, u2]) rfl (RdAns.zero HN.out KSR.out.bel0)
      · have HN : Hid (Pl.readS s = none) := by
          show _ = _
          rw [Pl.readS_three HPL.out, h2]
          cases Lib.atoi b.data.toList <;> rfl
        clear h1 h2
        clear d0 d1 d2
        have KS9 := KS4
        have HBL := Lib.hid KS9.out.bel0
        have y0 := KS9.out.frz (k := 0) 2 rfl
        have y1 := KS9.out.frz (k := 1) 2 rfl
        have y2 := KS9.out.frz (k := 2) 2 rfl
        have z0 := KS9.out.cell (k := 0) 2 rfl rfl
        have z1 := KS9.out.cell (k := 1) 2 rfl rfl
        have z2 := KS9.out.cell (k := 2) 2 rfl rfl
        obtain ⟨WR, hWR⟩ : ∃ W, ((W4.setCell ⟨g0, 0, none⟩ (.string ⟨#[]⟩)).setCell ⟨g0, 1, none⟩ (.int .i64 0)).setCell ⟨g0, 2, none⟩ (.int .i64 0) = W := ⟨_, rfl⟩
        have KSR := Lib.hid ((((KS9.out.setBlk (k := 0) 2 rfl (.string ⟨#[]⟩)).setBlk (k := 1) 2 rfl (.int .i64 0)).setBlk (k := 2) 2 rfl (.int .i64 0)).atW hWR)
        have u0 := KSR.out.cell (k := 0) 2 rfl rfl
        have u1 := KSR.out.cell (k := 1) 2 rfl rfl
        have u2 := KSR.out.cell (k := 2) 2 rfl rfl
        go_wp2
        exact bodyPost_ret (v := .tuple #[.agg #[.string ⟨#[]⟩, .int .i64 0, .int .i64 0], .bool false]) (by simp [results, Tryz.results155, go_sem, u0, u1, u2]) rfl (RdAns.zero HN.out KSR.out.bel0)
    · have HN : Hid (Pl.readS s = none) := by
        show _ = _
        rw [Pl.readS_three HPL.out, h1]
      clear h1
      clear d0 d1 d2
      have KS9 := KS4
      have HBL := Lib.hid KS9.out.bel0
      have y0 := KS9.out.frz (k := 0) 2 rfl
      have y1 := KS9.out.frz (k := 1) 2 rfl
      have y2 := KS9.out.frz (k := 2) 2 rfl
      have z0 := KS9.out.cell (k := 0) 2 rfl rfl
      have z1 := KS9.out.cell (k := 1) 2 rfl rfl
      have z2 := KS9.out.cell (k := 2) 2 rfl rfl
      obtain ⟨WR, hWR⟩ : ∃ W, ((W4.setCell ⟨g0, 0, none⟩ (.string ⟨#[]⟩)).setCell ⟨g0, 1, none⟩ (.int .i64 0)).setCell ⟨g0, 2, none⟩ (.int .i64 0) = W := ⟨_, rfl⟩
      have KSR := Lib.hid ((((KS9.out.setBlk (k := 0) 2 rfl (.string ⟨#[]⟩)).setBlk (k := 1) 2 rfl (.int .i64 0)).setBlk (k := 2) 2 rfl (.int .i64 0)).atW hWR)
      have u0 := KSR.out.cell (k := 0) 2 rfl rfl
      have u1 := KSR.out.cell (k := 1) 2 rfl rfl
      have u2 := KSR.out.cell (k := 2) 2 rfl rfl
      go_wp2
      exact bodyPost_ret (v := .tuple #[.agg #[.string ⟨#[]⟩, .int .i64 0, .int .i64 0], .bool false]) (by simp [results, Tryz.results155, go_sem, u0, u1, u2]) rfl (RdAns.zero HN.out KSR.out.bel0)
  · have HN : Hid (Pl.readS s = none) := Pl.readS_words (by unfold Pl.splitS at hn; rwa [List.length_map] at hn)
    obtain ⟨l, hl⟩ : ∃ l, Pl.splitS 32 s = l := ⟨_, rfl⟩
    have hll : l.length ≤ 30 := by
      rw [← hl]
      unfold Pl.splitS
      rw [List.length_map, Pl.splitL_len]
      have h1 := List.count_le_length (a := (32 : UInt8)) (l := s.data.toList)
      have h2 : s.data.toList.length = s.size := by rw [Array.length_toList]; rfl
      omega
    rw [hl] at CS hn
    clear hl
    have hn' : ((l.length : Int) != 3) = true := by simp; omega
    rw [hg1] at CS
    go_enter Tryz.func155, Tryz.ntmps155
    go_wp2_with fail
    refine CS.mono ?_
    rintro e w' ⟨rfl, rfl⟩
    obtain ⟨W9, hW9⟩ : ∃ W, W0.alloc (.cells (l.map Value.string).toArray 9) = W := ⟨_, rfl⟩
    have KS9 := Lib.hid ((KS0.out.alloc' hg1 9 (l.map Value.string)).atW hW9)
    rw [hW9]
    clear hW9 hW0 hg0 hg1 KS0 CS
    have HBL := Lib.hid KS9.out.bel0
    have y0 := KS9.out.frz (k := 0) 1 rfl
    have y1 := KS9.out.frz (k := 1) 1 rfl
    have y2 := KS9.out.frz (k := 2) 1 rfl
    have z0 := KS9.out.cell (k := 0) 1 rfl rfl
    have z1 := KS9.out.cell (k := 1) 1 rfl rfl
    have z2 := KS9.out.cell (k := 2) 1 rfl rfl
    obtain ⟨WR, hWR⟩ : ∃ W, ((W9.setCell ⟨g0, 0, none⟩ (.string ⟨#[]⟩)).setCell ⟨g0, 1, none⟩ (.int .i64 0)).setCell ⟨g0, 2, none⟩ (.int .i64 0) = W := ⟨_, rfl⟩
    have KSR := Lib.hid ((((KS9.out.setBlk (k := 0) 1 rfl (.string ⟨#[]⟩)).setBlk (k := 1) 1 rfl (.int .i64 0)).setBlk (k := 2) 1 rfl (.int .i64 0)).atW hWR)
    have u0 := KSR.out.cell (k := 0) 1 rfl rfl
    have u1 := KSR.out.cell (k := 1) 1 rfl rfl
    have u2 := KSR.out.cell (k := 2) 1 rfl rfl
    go_wp2
    exact bodyPost_ret (v := .tuple #[.agg #[.string ⟨#[]⟩, .int .i64 0, .int .i64 0], .bool false]) (by simp [results, Tryz.results155, go_sem, u0, u1, u2]) rfl (RdAns.zero HN.out KSR.out.bel0)
set_option maxRecDepth 100000 in
set_option maxHeartbeats 2000000 in
theorem l13Read_c (s : ByteArray) (hs : s.size ≤ 20) (w : World) : Calls Tryz.prog 126 #[.string s] w (RdAns s w) := by
  obtain ⟨g0, hg0⟩ : ∃ g, w.heap.size = g := ⟨_, rfl⟩
  obtain ⟨W0, hW0⟩ : ∃ W, w.alloc (.cells #[.string ⟨#[]⟩, .int .i64 0, .int .i64 0] 55) = W := ⟨_, rfl⟩
  have KS0 := Lib.hid (((Mm.SepF.start w).alloc' hg0 55 [.string ⟨#[]⟩, .int .i64 0, .int .i64 0]).atW hW0)
  have CS := l3Split_c s 32 (by omega) W0
  rw [show (((32 : UInt8).toNat : Nat) : Int) = 32 from rfl] at CS
  by_cases hn : (Pl.splitS 32 s).length = 3
  · obtain ⟨a, b, c, hp, hpl⟩ := Pl.three_words hn
    have HPL := Lib.hid hpl
    have hsz := Pl.three_size hpl
    rw [Array.length_toList, Array.length_toList, Array.length_toList] at hsz
    have hsz' : a.size + b.size + c.size + 2 = s.size := hsz
    rw [hp] at CS
    clear hpl hsz hn hp
    go_enter Tryz.func126, Tryz.ntmps126
    go_wp2_with fail
    refine CS.mono ?_
    rintro e w1 ⟨A1, n1, c1, rfl, hn1, hac⟩
    obtain rfl : n1 = 3 := hn1
    obtain ⟨fp1, hsp⟩ := hac.sep
    have KS1 := Lib.hid (KS0.out.join hsp)
    obtain ⟨W1, rfl⟩ : ∃ W : World, W = w1 := ⟨_, rfl⟩
    clear CS hW0 hg0 hsp hac KS0
    obtain ⟨x0, bb, off, cs0, hx0, hA, -, hat0, hc0⟩ := (KS1.out.rdSl 0 rfl).get (k := 0) (by decide)
    subst hA
    obtain ⟨x1, cs1, hx1, -, hat1, hc1⟩ := (KS1.out.rdSl 0 rfl).get' (k := 1) (by decide)
    obtain ⟨x2, cs2, hx2, -, hat2, hc2⟩ := (KS1.out.rdSl 0 rfl).get' (k := 2) (by decide)
    obtain rfl : a = x0 := Option.some.inj hx0
    obtain rfl : b = x1 := Option.some.inj hx1
    obtain rfl : c = x2 := Option.some.inj hx2
    obtain ⟨rfl, -⟩ := hat0
    obtain ⟨rfl, -⟩ := hat1
    obtain ⟨rfl, -⟩ := hat2
    have c0 := hc0 0 _ rfl
    have c1 := hc1 0 _ rfl
    have c2 := hc2 0 _ rfl
    clear hc0 hc1 hc2 hx0 hx1 hx2
    rw [show off + 0 * Mm.str.size + 0 = off by omega] at c0
    rw [show off + 1 * Mm.str.size + 0 = off + 1 from rfl] at c1
    rw [show off + 2 * Mm.str.size + 0 = off + 2 from rfl] at c2
    have CA := l13Int_c b (by omega) W1
    go_wp2_with fail
    refine CA.mono ?_
    rintro e w2 ⟨n1, ok1, rfl, hb2, hI1, hy1, hn1⟩
    obtain ⟨W2, rfl⟩ : ∃ W : World, W = w2 := ⟨_, rfl⟩
    have KS2 := Lib.hid (KS1.out.step hb2)
    replace c0 := below_some hb2 c0
    replace c2 := below_some hb2 c2
    have HA := Lib.hid (And.intro hy1 hn1)
    clear CA c1 KS1 hb2 hy1 hn1
    have CB := l13Int_c c (by omega) W2
    go_wp2_with fail
    refine CB.mono ?_
    rintro e w3 ⟨n2, ok2, rfl, hb3, hI2, hy2, hn2⟩
    obtain ⟨W3, rfl⟩ : ∃ W : World, W = w3 := ⟨_, rfl⟩
    have KS3 := Lib.hid (KS2.out.step hb3)
    replace c0 := below_some hb3 c0
    have HB := Lib.hid (And.intro hy2 hn2)
    clear CB c2 KS2 hb3 hy2 hn2
    obtain ⟨g3, hg3⟩ : ∃ g, W3.heap.size = g := ⟨_, rfl⟩
    obtain ⟨W5, hW5⟩ : ∃ W, W3.alloc (.cells #[.string a, .int .i64 n1, .int .i64 n2] 55) = W := ⟨_, rfl⟩
    have KS5 := Lib.hid ((KS3.out.alloc' hg3 55 [.string a, .int .i64 n1, .int .i64 n2]).atW hW5)
    have HX : Hid (a.size ≤ maxLen ∧ Mm.I64 n1 ∧ Mm.I64 n2) := ⟨by unfold maxLen; omega, hI1, hI2⟩
    clear hI1 hI2
    go_upto_region 7 with fail
    clear hW5 hg3 c0 KS3
    have d0 := KS5.out.cell (k := 0) 0 rfl rfl
    have d1 := KS5.out.cell (k := 1) 0 rfl rfl
    have d2 := KS5.out.cell (k := 2) 0 rfl rfl
    have nG : g3 ∉ [g0] := fun hh => KS5.out.apart (i := 0) (j := 2) rfl rfl (by decide) g3 (by simp [Mm.tblk]) (by simpa [Mm.tblk] using hh)
    cases ok1 with
    | false =>
      have HN : Hid (Pl.readS s = none) := Pl.readS_not HPL.out fun n m hb hc hso => HA.out.2 (by simp) n hb
      refine Mm.wp_region_give 10 (fun i => match i with | 7 => none | 9 => some (Mm.gSto 55) | _ => none) (fun i => match i with | 9 => [11] | _ => []) (fun i => match i with | 11 => [Mm.tblk g0 55 [.string ⟨#[]⟩, .int .i64 0, .int .i64 0]] | _ => []) (F := [g0]) (D := fun w' => ∃ z : Cha [g0] W5, w' = cha [g0] W5 z) (fun X us h => Mm.sep_cha h) (by kernel_rfl) (by kernel_rfl) (by kernel_rfl) (Mm.sep_eq ((Mm.SepF.one (Mm.tblk g0 55 [.string ⟨#[]⟩, .int .i64 0, .int .i64 0]) W5 (KS5.out.at_ 2 rfl) (by simp [Mm.tblk])).step (Below.refl _ _).drew) rfl) ?_
      repeat (refine Mm.give_det (by rfl) (by rfl) (by rfl) (fun K hK => ?_); go_big_quiet_op; refine hK _ ?_; clear hK K)
      repeat (refine Mm.give_skip (by rfl) ?_; simp only [Act.put, List.setIfInBounds_toArray, List.set_cons_succ, List.set_cons_zero])
      repeat (refine Mm.give_det (by rfl) (by rfl) (by rfl) (fun K hK => ?_); go_big_quiet_op; refine hK _ ?_; clear hK K)
      repeat (refine Mm.give_skip (by rfl) ?_; simp only [Act.put, List.setIfInBounds_toArray, List.set_cons_succ, List.set_cons_zero])
      repeat (refine Mm.give_det (by rfl) (by rfl) (by rfl) (fun K hK => ?_); go_big_quiet_op; refine hK _ ?_; clear hK K)
      refine Mm.give_store 55 g0 [.string ⟨#[]⟩, .int .i64 0, .int .i64 0] [.string a, .int .i64 n1, .int .i64 n2] 11 (by rfl) rfl rfl (by rfl) rfl (by rfl) rfl rfl (fun others X hX => ?_) ?_
      · have y0 := hX.frz (k := 0) 0 rfl
        have y1 := hX.frz (k := 1) 0 rfl
        have y2 := hX.frz (k := 2) 0 rfl
        have z0 := hX.cell (k := 0) 0 rfl rfl
        have z1 := hX.cell (k := 1) 0 rfl rfl
        have z2 := hX.cell (k := 2) 0 rfl rfl
        have HSF := Lib.hid (((hX.setBlk (k := 0) 0 rfl (.string a)).setBlk (k := 1) 0 rfl (.int .i64 n1)).setBlk (k := 2) 0 rfl (.int .i64 n2))
        go_wp2
        exact ⟨rfl, rfl, _, rfl, HSF.out⟩
      refine Mm.give_nil ?_
      rintro X hX
      have hx : Mm.SepF [g0] W5 X [Mm.tblk g0 55 [.string a, .int .i64 n1, .int .i64 n2]] := Mm.sep_eq hX rfl
      have KSR := Lib.hid ((KS5.out.sel [2, 0, 1] (by decide) rfl).callSome (us := [Mm.tblk g0 55 [.string ⟨#[]⟩, .int .i64 0, .int .i64 0]]) (rest := _) (by simpa [Mm.tblk] using hx))
      have u0 := KSR.out.cell (k := 0) 0 rfl rfl
      have u1 := KSR.out.cell (k := 1) 0 rfl rfl
      have u2 := KSR.out.cell (k := 2) 0 rfl rfl
      clear d0 d1 d2 hX hx KS5
      go_wp2
      exact bodyPost_ret (v := .tuple #[.agg #[.string a, .int .i64 n1, .int .i64 n2], .bool false]) (by simp [results, Tryz.results126, go_sem, u0, u1, u2]) rfl (RdAns.no (x := ⟨a, n1, n2⟩) HN.out KSR.out.bel0 HX.out)
    | true =>
      cases ok2 with
      | false =>
        have HN : Hid (Pl.readS s = none) := Pl.readS_not HPL.out fun n m hb hc hso => HB.out.2 (by simp) m hc
        refine Mm.wp_region_give 10 (fun i => match i with | 7 => none | 9 => some (Mm.gSto 55) | _ => none) (fun i => match i with | 9 => [11] | _ => []) (fun i => match i with | 11 => [Mm.tblk g0 55 [.string ⟨#[]⟩, .int .i64 0, .int .i64 0]] | _ => []) (F := [g0]) (D := fun w' => ∃ z : Cha [g0] W5, w' = cha [g0] W5 z) (fun X us h => Mm.sep_cha h) (by kernel_rfl) (by kernel_rfl) (by kernel_rfl) (Mm.sep_eq ((Mm.SepF.one (Mm.tblk g0 55 [.string ⟨#[]⟩, .int .i64 0, .int .i64 0]) W5 (KS5.out.at_ 2 rfl) (by simp [Mm.tblk])).step (Below.refl _ _).drew) rfl) ?_
        repeat (refine Mm.give_det (by rfl) (by rfl) (by rfl) (fun K hK => ?_); go_big_quiet_op; refine hK _ ?_; clear hK K)
        repeat (refine Mm.give_skip (by rfl) ?_; simp only [Act.put, List.setIfInBounds_toArray, List.set_cons_succ, List.set_cons_zero])
        repeat (refine Mm.give_det (by rfl) (by rfl) (by rfl) (fun K hK => ?_); go_big_quiet_op; refine hK _ ?_; clear hK K)
        repeat (refine Mm.give_skip (by rfl) ?_; simp only [Act.put, List.setIfInBounds_toArray, List.set_cons_succ, List.set_cons_zero])
        repeat (refine Mm.give_det (by rfl) (by rfl) (by rfl) (fun K hK => ?_); go_big_quiet_op; refine hK _ ?_; clear hK K)
        refine Mm.give_store 55 g0 [.string ⟨#[]⟩, .int .i64 0, .int .i64 0] [.string a, .int .i64 n1, .int .i64 n2] 11 (by rfl) rfl rfl (by rfl) rfl (by rfl) rfl rfl (fun others X hX => ?_) ?_
        · have y0 := hX.frz (k := 0) 0 rfl
          have y1 := hX.frz (k := 1) 0 rfl
          have y2 := hX.frz (k := 2) 0 rfl
          have z0 := hX.cell (k := 0) 0 rfl rfl
          have z1 := hX.cell (k := 1) 0 rfl rfl
          have z2 := hX.cell (k := 2) 0 rfl rfl
          have HSF := Lib.hid (((hX.setBlk (k := 0) 0 rfl (.string a)).setBlk (k := 1) 0 rfl (.int .i64 n1)).setBlk (k := 2) 0 rfl (.int .i64 n2))
          go_wp2
          exact ⟨rfl, rfl, _, rfl, HSF.out⟩
        refine Mm.give_nil ?_
        rintro X hX
        have hx : Mm.SepF [g0] W5 X [Mm.tblk g0 55 [.string a, .int .i64 n1, .int .i64 n2]] := Mm.sep_eq hX rfl
        have KSR := Lib.hid ((KS5.out.sel [2, 0, 1] (by decide) rfl).callSome (us := [Mm.tblk g0 55 [.string ⟨#[]⟩, .int .i64 0, .int .i64 0]]) (rest := _) (by simpa [Mm.tblk] using hx))
        have u0 := KSR.out.cell (k := 0) 0 rfl rfl
        have u1 := KSR.out.cell (k := 1) 0 rfl rfl
        have u2 := KSR.out.cell (k := 2) 0 rfl rfl
        clear d0 d1 d2 hX hx KS5
        go_wp2
        exact bodyPost_ret (v := .tuple #[.agg #[.string a, .int .i64 n1, .int .i64 n2], .bool false]) (by simp [results, Tryz.results126, go_sem, u0, u1, u2]) rfl (RdAns.no (x := ⟨a, n1, n2⟩) HN.out KSR.out.bel0 HX.out)
      | true =>
        have CI := fun X => l13Say_c ⟨a, n1, n2⟩ X HX.out.1
        obtain ⟨so, hso⟩ : ∃ so, Pl.sayOk ⟨a, n1, n2⟩ = so := ⟨_, rfl⟩
        rw [hso] at CI
        have HSO := Lib.hid hso
        clear hso
        refine Mm.wp_region_give 10 (fun i => match i with | 7 => (some (Mm.gVal (.bool so))) | 9 => some (Mm.gSto 55) | _ => none) (fun i => match i with | 9 => [11] | _ => []) (fun i => match i with | 11 => [Mm.tblk g0 55 [.string ⟨#[]⟩, .int .i64 0, .int .i64 0]] | _ => []) (F := [g0]) (D := fun w' => ∃ z : Cha [g0] W5, w' = cha [g0] W5 z) (fun X us h => Mm.sep_cha h) (by kernel_rfl) (by kernel_rfl) (by kernel_rfl) (Mm.sep_eq ((Mm.SepF.one (Mm.tblk g0 55 [.string ⟨#[]⟩, .int .i64 0, .int .i64 0]) W5 (KS5.out.at_ 2 rfl) (by simp [Mm.tblk])).step (Below.refl _ _).drew) rfl) ?_
        repeat (refine Mm.give_det (by rfl) (by rfl) (by rfl) (fun K hK => ?_); go_big_quiet_op; refine hK _ ?_; clear hK K)
        refine Mm.give_op0 43 (by rfl) rfl (by rfl) (by rfl) (by rfl) (by rfl) Mm.gVal_in (fun others X hX => ?_) ?_
        · go_wp2_with (go_at_call 104; refine (CI _).mono ?_; rintro e w7 ⟨rfl, hb7⟩)
          exact Mm.gvq_val hX hb7 rfl rfl
        rintro v ds ⟨rfl, rfl⟩
        simp only [Act.put, List.setIfInBounds_toArray, List.set_cons_succ, List.set_cons_zero]
        repeat (refine Mm.give_det (by rfl) (by rfl) (by rfl) (fun K hK => ?_); go_big_quiet_op; refine hK _ ?_; clear hK K)
        refine Mm.give_store 55 g0 [.string ⟨#[]⟩, .int .i64 0, .int .i64 0] [.string a, .int .i64 n1, .int .i64 n2] 11 (by rfl) rfl rfl (by rfl) rfl (by rfl) rfl rfl (fun others X hX => ?_) ?_
        · have y0 := hX.frz (k := 0) 0 rfl
          have y1 := hX.frz (k := 1) 0 rfl
          have y2 := hX.frz (k := 2) 0 rfl
          have z0 := hX.cell (k := 0) 0 rfl rfl
          have z1 := hX.cell (k := 1) 0 rfl rfl
          have z2 := hX.cell (k := 2) 0 rfl rfl
          have HSF := Lib.hid (((hX.setBlk (k := 0) 0 rfl (.string a)).setBlk (k := 1) 0 rfl (.int .i64 n1)).setBlk (k := 2) 0 rfl (.int .i64 n2))
          go_wp2
          exact ⟨rfl, rfl, _, rfl, HSF.out⟩
        refine Mm.give_nil ?_
        rintro X hX
        have hx : Mm.SepF [g0] W5 X [Mm.tblk g0 55 [.string a, .int .i64 n1, .int .i64 n2]] := Mm.sep_eq hX rfl
        have KSR := Lib.hid ((KS5.out.sel [2, 0, 1] (by decide) rfl).callSome (us := [Mm.tblk g0 55 [.string ⟨#[]⟩, .int .i64 0, .int .i64 0]]) (rest := _) (by simpa [Mm.tblk] using hx))
        have u0 := KSR.out.cell (k := 0) 0 rfl rfl
        have u1 := KSR.out.cell (k := 1) 0 rfl rfl
        have u2 := KSR.out.cell (k := 2) 0 rfl rfl
        clear d0 d1 d2 hX hx KS5
        go_wp2
        cases so with
        | false =>
          have HN : Hid (Pl.readS s = none) := Pl.readS_not HPL.out fun n m hb hc hso => by
            have e1 : n = n1 := Pl.itoa_inj (hb.2.2.trans (HA.out.1 (by simp)).2.2.symm)
            have e2 : m = n2 := Pl.itoa_inj (hc.2.2.trans (HB.out.1 (by simp)).2.2.symm)
            rw [e1, e2, Pl.bmk, HSO.out] at hso
            cases hso
          exact bodyPost_ret (v := .tuple #[.agg #[.string a, .int .i64 n1, .int .i64 n2], .bool false]) (by simp [results, Tryz.results126, go_sem, u0, u1, u2]) rfl (RdAns.no (x := ⟨a, n1, n2⟩) HN.out KSR.out.bel0 HX.out)
        | true =>
          have HY : Hid (Pl.readS s = some ⟨a, n1, n2⟩) := by
            have h := Pl.readS_ints HPL.out (HA.out.1 (by simp)) (HB.out.1 (by simp)) (by rw [Pl.bmk]; exact HSO.out)
            rwa [Pl.bmk] at h
          exact bodyPost_ret (v := .tuple #[.agg #[.string a, .int .i64 n1, .int .i64 n2], .bool true]) (by simp [results, Tryz.results126, go_sem, u0, u1, u2]) rfl (RdAns.some_ HY.out KSR.out.bel0)
  · have HN : Hid (Pl.readS s = none) := Pl.readS_words (by unfold Pl.splitS at hn; rwa [List.length_map] at hn)
    obtain ⟨l, hl⟩ : ∃ l, Pl.splitS 32 s = l := ⟨_, rfl⟩
    have hll : l.length ≤ 30 := by
      rw [← hl]
      unfold Pl.splitS
      rw [List.length_map, Pl.splitL_len]
      have h1 := List.count_le_length (a := (32 : UInt8)) (l := s.data.toList)
      have h2 : s.data.toList.length = s.size := by rw [Array.length_toList]; rfl
      omega
    rw [hl] at CS hn
    clear hl
    go_enter Tryz.func126, Tryz.ntmps126
    go_wp2_with fail
    refine CS.mono ?_
    rintro e w1 ⟨A1, m1, c1, rfl, hm1, hac⟩
    have hn' : ((m1 : Int) != 3) = true := by simp; omega
    obtain ⟨fp1, hsp⟩ := hac.sep
    have KS9 := Lib.hid (KS0.out.join hsp)
    obtain ⟨W9, rfl⟩ : ∃ W : World, W = w1 := ⟨_, rfl⟩
    clear hW0 hg0 KS0 CS hsp hac hm1 hn
    have HBL := Lib.hid KS9.out.bel0
    have y0 := KS9.out.frz (k := 0) 1 rfl
    have y1 := KS9.out.frz (k := 1) 1 rfl
    have y2 := KS9.out.frz (k := 2) 1 rfl
    have z0 := KS9.out.cell (k := 0) 1 rfl rfl
    have z1 := KS9.out.cell (k := 1) 1 rfl rfl
    have z2 := KS9.out.cell (k := 2) 1 rfl rfl
    obtain ⟨WR, hWR⟩ : ∃ W, ((W9.setCell ⟨g0, 0, none⟩ (.string ⟨#[]⟩)).setCell ⟨g0, 1, none⟩ (.int .i64 0)).setCell ⟨g0, 2, none⟩ (.int .i64 0) = W := ⟨_, rfl⟩
    have KSR := Lib.hid ((((KS9.out.setBlk (k := 0) 1 rfl (.string ⟨#[]⟩)).setBlk (k := 1) 1 rfl (.int .i64 0)).setBlk (k := 2) 1 rfl (.int .i64 0)).atW hWR)
    have u0 := KSR.out.cell (k := 0) 1 rfl rfl
    have u1 := KSR.out.cell (k := 1) 1 rfl rfl
    have u2 := KSR.out.cell (k := 2) 1 rfl rfl
    go_wp2
    exact bodyPost_ret (v := .tuple #[.agg #[.string ⟨#[]⟩, .int .i64 0, .int .i64 0], .bool false]) (by simp [results, Tryz.results126, go_sem, u0, u1, u2]) rfl (RdAns.zero HN.out KSR.out.bel0)
end Go.Proofs.YtbhmdnjammnlnaaGreatDoor

namespace Go.Proofs.YtbhmdnjammnlnaaGreatDoor
open Go.RowKit
attribute [local go_sem] und_cell cha_cell World.cell?_alloc_some
abbrev isBld (B b : Nat) (L : List UInt8) (w : World) : Prop := Lib.IsBuilderF 228 5 B b (Lib.byteCells L) w
theorem bat_old {T e : TypeId} {B b : Nat} {p : Value} {bs : List Value} {w w' : World} (h : Lib.BuilderAtF T e B b p bs w) (hb : Below w.heap.size w w') : Lib.BuilderAtF T e B b p bs w' := by
  have hlt := h.lt
  obtain ⟨hB, v, hk, hown, hne⟩ := h
  refine ⟨hB, v, (hb.block b hlt).trans hk, ⟨hown.1, ?_⟩, hne⟩
  rcases hown.2 with h1 | ⟨g, cap, cur, fz, hv, hbg, hg, rest⟩
  · exact .inl h1
  · refine .inr ⟨g, cap, cur, fz, hv, hbg, (hb.block g ?_).trans hg, rest⟩
    rcases Nat.lt_or_ge g w.heap.size with h' | h'
    · exact h'
    · rw [Array.getElem?_eq_none h'] at hg; cases hg
theorem isBld.old {B b : Nat} {L : List UInt8} {w w' : World} (h : isBld B b L w) (hb : Below w.heap.size w w') : isBld B b L w' := h.imp (bat_old · hb) (bat_old · hb)
theorem blk_kept {e : TypeId} {b : Nat} {w w' : World} (h : Lib.OthersKept e (some b) w w') {g : Nat} {t : TypeId} {cs : List Value} (hk : Mm.Blk w g t cs) (hg : g ≠ b) (ht : t ≠ e) : Mm.Blk w' g t cs :=
  h g _ hk (by simpa using hg) (fun c fz hh => ht (by injection hh))
theorem bldWS_c (B b : Nat) (L : List UInt8) (s : ByteArray) (w : World) (h : isBld B b L w) (hlen : L.length + s.size ≤ 1000000) (hBw : B ≤ w.heap.size) :
    Calls Tryz.prog 188 #[.pointer (some ⟨b, 0, none⟩), .string s] w fun e w' => e = .returned (.tuple #[.int .i64 s.size, .nilIface]) ∧ isBld B b (L ++ s.data.toList) w' ∧ Below B w w' ∧ Lib.OthersKept 5 (some b) w w' := by
  refine (Any.Builder_WriteString_k lsWS lsX B b (Lib.byteCells L) s w h (by simp [Lib.byteCells]; omega) hBw).mono ?_
  rintro e w' ⟨rfl, h1, h2, h3⟩
  refine ⟨rfl, .inr ?_, h2, h3⟩
  have : Lib.byteCells L ++ Lib.strCells s = Lib.byteCells (L ++ s.data.toList) := by simp [Lib.byteCells, Lib.strCells]
  rw [← this]
  exact h1
theorem bldStr_c (B b : Nat) (L : List UInt8) (w : World) (h : isBld B b L w) (h0 : L ≠ []) (hBw : B ≤ w.heap.size) :
    Calls Tryz.prog 189 #[.pointer (some ⟨b, 0, none⟩)] w fun e w' => e = .returned (.string ⟨L.toArray⟩) ∧ isBld B b L w' ∧ Below B w w' ∧ Lib.OthersKept 5 (some b) w w' :=
  Any.Builder_String_k lsStr lsX B b L w h h0
namespace Pl
def rowL (r : Row) : List UInt8 := (rowSays r).flatMap lineL
theorem headL_rows (h : Head) : headL h = Lib.itoa h.Offset ++ 10 :: h.Rows.flatMap rowL := by
  unfold headL headSays rowL
  rw [List.flatMap_assoc]
def preL (h : Head) (i j : Nat) (r : Row) : List UInt8 := Lib.itoa h.Offset ++ 10 :: ((h.Rows.take i).flatMap rowL ++ ((rowSays r).take j).flatMap lineL)
def preH (h : Head) (i : Nat) : List UInt8 := Lib.itoa h.Offset ++ 10 :: (h.Rows.take i).flatMap rowL
theorem preH_zero (h : Head) : preH h 0 = Lib.itoa h.Offset ++ [10] := by unfold preH; simp
theorem preL_zero (h : Head) (i : Nat) (r : Row) : preL h i 0 r = preH h i := by unfold preL preH; simp
theorem preL_next {h : Head} {i j : Nat} {r : Row} {x : Sample} (hx : r.Samples[j]? = some x) : preL h i (j + 1) r = preL h i j r ++ lineL ⟨r.Name, x.At, x.Value⟩ := by
  have hs : (rowSays r)[j]? = some ⟨r.Name, x.At, x.Value⟩ := by unfold rowSays; rw [List.getElem?_map, hx]; rfl
  unfold preL
  rw [List.take_add_one, hs, List.flatMap_append]
  simp
theorem preL_end {h : Head} {i : Nat} {r : Row} (hr : h.Rows[i]? = some r) : preL h i r.Samples.length r = preH h (i + 1) := by
  have e : (rowSays r).take r.Samples.length = rowSays r := List.take_of_length_le (by unfold rowSays; rw [List.length_map]; exact Nat.le_refl _)
  unfold preL preH
  rw [List.take_add_one, hr, List.flatMap_append, e]
  simp [rowL]
theorem preH_end (h : Head) : preH h h.Rows.length = headL h := by
  unfold preH
  rw [List.take_of_length_le (Nat.le_refl _), headL_rows]
theorem lineL_len {x : Say} (h : sayOk x = true) : (lineL x).length ≤ 60 := by
  have h1 := sayOk_bounds h
  have h2 := sayOk_name h
  have h3 := Lib.itoa_length_le x.At (by omega) (by omega)
  have h4 := Lib.itoa_length_le x.Value (by omega) (by omega)
  have h5 : x.Name.data.toList.length = x.Name.size := by rw [Array.length_toList]; rfl
  unfold lineL sayL
  simp only [List.length_append, List.length_cons, List.length_nil]
  omega
theorem HeadOk.sayAt {h : Head} (k : HeadOk h) {r : Row} {i j : Nat} {x : Sample} (hr : h.Rows[i]? = some r) (hx : r.Samples[j]? = some x) : sayOk ⟨r.Name, x.At, x.Value⟩ = true := by
  have := k.row r (List.mem_of_getElem? hr)
  unfold sayOk
  rw [this.1]
  exact samplesOk_mem this.2.2 (List.mem_of_getElem? hx)
theorem line_txt (x : Say) : (sayTxt x ++ nlB).data.toList = lineL x := by
  unfold lineL nlB
  rw [ByteArray.data_append, Array.toList_append, sayTxt_data]
theorem pre_bound {h : Head} (k : HeadOk h) : ∀ i, i ≤ h.Rows.length → (preH h i).length ≤ 30 + 2400 * i
  | 0, _ => by
    rw [preH_zero]
    have := Lib.itoa_length_le h.Offset (by have := k.off; omega) (by have := k.off; omega)
    simp; omega
  | i + 1, hi => by
    have ih := pre_bound k i (by omega)
    obtain ⟨r, hr⟩ : ∃ r, h.Rows[i]? = some r := ⟨_, List.getElem?_eq_getElem (by omega)⟩
    have hb : ∀ j, j ≤ r.Samples.length → (preL h i j r).length ≤ (preH h i).length + 60 * j := by
      intro j
      induction j with
      | zero => intro _; rw [preL_zero]; omega
      | succ j ihj =>
        intro hj
        have := ihj (by omega)
        obtain ⟨x, hx⟩ : ∃ x, r.Samples[j]? = some x := ⟨_, List.getElem?_eq_getElem (by omega)⟩
        rw [preL_next hx, List.length_append]
        have := lineL_len (k.sayAt hr hx)
        omega
    have := hb _ (Nat.le_refl _)
    rw [preL_end hr] at this
    have h40 := samplesOk_len (k.row r (List.mem_of_getElem? hr)).2.2
    omega
theorem preL_bound {h : Head} (k : HeadOk h) {i j : Nat} {r : Row} (hr : h.Rows[i]? = some r) (hj : j ≤ r.Samples.length) : (preL h i j r).length ≤ 30000 := by
  have hi := (List.getElem?_eq_some_iff.1 hr).1
  have h8 := k.len
  have h0 := pre_bound k i (by omega)
  have h40 := samplesOk_len (k.row r (List.mem_of_getElem? hr)).2.2
  have hb : ∀ j, j ≤ r.Samples.length → (preL h i j r).length ≤ (preH h i).length + 60 * j := by
    intro j
    induction j with
    | zero => intro _; rw [preL_zero]; omega
    | succ j ihj =>
      intro hj
      have := ihj (by omega)
      obtain ⟨x, hx⟩ : ∃ x, r.Samples[j]? = some x := ⟨_, List.getElem?_eq_getElem (by omega)⟩
      rw [preL_next hx, List.length_append]
      have := lineL_len (k.sayAt hr hx)
      omega
  have := hb j hj
  omega
end Pl
theorem Pl.mkb_app (a b : List UInt8) : (⟨a.toArray⟩ : ByteArray) ++ ⟨b.toArray⟩ = ⟨(a ++ b).toArray⟩ := by
  apply ByteArray.ext
  simp
theorem Pl.preL_txt {h : Head} (k : Pl.HeadOk h) {i j : Nat} {r : Row} {x : Sample} (hr : h.Rows[i]? = some r) (hx : r.Samples[j]? = some x) :
    (⟨(Pl.preL h i j r).toArray⟩ : ByteArray) ++ (Pl.sayTxt ⟨r.Name, x.At, x.Value⟩ ++ ⟨#[10]⟩) = ⟨(Pl.preL h i (j + 1) r).toArray⟩ ∧ (Pl.sayTxt ⟨r.Name, x.At, x.Value⟩).size ≤ 60 ∧ (⟨(Pl.preL h i j r).toArray⟩ : ByteArray).size ≤ 30000 := by
  have hs := k.sayAt hr hx
  have h1 := Pl.lineL_len hs
  have h2 : (Pl.sayTxt ⟨r.Name, x.At, x.Value⟩ ++ ⟨#[10]⟩).data.toList = Pl.lineL ⟨r.Name, x.At, x.Value⟩ := Pl.line_txt _
  refine ⟨?_, ?_, ?_⟩
  · apply Pl.sba_ext
    rw [ByteArray.data_append, Array.toList_append, h2, Pl.preL_next hx]
  · have h3 : (Pl.sayTxt ⟨r.Name, x.At, x.Value⟩).data.toList.length = (Pl.sayTxt ⟨r.Name, x.At, x.Value⟩).size := by rw [Array.length_toList]; rfl
    rw [Pl.sayTxt_data] at h3
    unfold Pl.lineL at h1
    rw [List.length_append] at h1
    omega
  · show (Pl.preL h i j r).toArray.size ≤ 30000
    rw [List.size_toArray]
    exact Pl.preL_bound k hr (by have := (List.getElem?_eq_some_iff.1 hx).1; omega)
set_option maxRecDepth 100000 in
set_option maxHeartbeats 2000000 in
theorem l13HeadText_c (h : Head) (cs : List Value) (w : World) (B : Nat) (hh : rHead.at_ w B h cs) (hB : B ≤ w.heap.size) (hk : Pl.HeadOk h) :
    Calls Tryz.prog 127 #[.agg cs.toArray] w fun e w' => e = .returned (.string (Pl.headTxt h)) ∧ Below w.heap.size w w' := by
  obtain ⟨A0, n0, c0, rfl, r0, io⟩ := rHead_at hh
  have hn0 : n0 = h.Rows.length := r0.1.symm
  have h8 := hk.len
  have HN0 := Lib.hid hn0
  have HK := Lib.hid hk
  have R0 := Lib.hid r0
  have hoff := hk.off
  have HBW := Lib.hid hB
  clear hh r0 io hk
  have hn8 : n0 ≤ 8 := by omega
  clear hn0 h8
  obtain ⟨ga, hga⟩ : ∃ g, w.heap.size = g := ⟨_, rfl⟩
  obtain ⟨W0, hW0⟩ : ∃ W, w.alloc (.cells #[.slice A0 n0 c0, .int .i64 h.Offset] 73) = W := ⟨_, rfl⟩
  have KS0 := Lib.hid (((Mm.SepF.start w).alloc' hga 73 [.slice A0 n0 c0, .int .i64 h.Offset]).atW hW0)
  obtain ⟨m, hm⟩ : ∃ m : Nat, h.Offset = m := ⟨h.Offset.toNat, by omega⟩
  have HM := Lib.hid hm
  rw [hm] at KS0 hW0 hoff ⊢
  have d0 := KS0.out.cell (k := 0) 0 rfl rfl
  have d1 := KS0.out.cell (k := 1) 0 rfl rfl
  have CN := l1Num_c m (by omega) W0
  have hds := Pl.decB_size (n := m) (by omega)
  have h10 : (⟨#[10]⟩ : ByteArray).size = 1 := rfl
  have HP0 : Hid (Pl.decB m ++ ⟨#[10]⟩ = ⟨(Pl.preH h 0).toArray⟩) := by
    show _ = _
    rw [Pl.preH_zero, hm, Lib.itoa_nonneg]
    unfold Pl.decB
    exact Pl.mkb_app _ [10]
  obtain ⟨TM, hTM⟩ : ∃ T, Pl.decB m = T := ⟨_, rfl⟩
  rw [hTM] at CN hds HP0
  clear hm hoff hTM
  go_enter Tryz.func127, Tryz.ntmps127
  go_wp2_with fail
  refine CN.mono ?_
  rintro e w1 ⟨rfl, hb1⟩
  obtain ⟨W1, rfl⟩ : ∃ W : World, W = w1 := ⟨_, rfl⟩
  have KS1 := Lib.hid (KS0.out.step hb1)
  clear d0 d1 hb1 CN KS0
  have d0 := KS1.out.cell (k := 0) 0 rfl rfl
  have d1 := KS1.out.cell (k := 1) 0 rfl rfl
  go_upto_region 3 with fail
  rw [HP0.out]
  clear d0 d1 hds hW0 hga
  go_loopg [3, 15] n0 (fun gg s_ i_ wr => ∃ (k : Nat), n0 - k ≤ gg ∧ k ≤ n0 ∧ i_ = .int .i64 (k : Nat) ∧ s_ = .string ⟨(Pl.preH h k).toArray⟩ ∧ Hid (Below w.heap.size w wr))
  case atStart => exact ⟨0, by omega, by omega, rfl, rfl, KS1.out.bel0⟩
  case round =>
    obtain ⟨k, hgk, hk', rfl, rfl, HW⟩ := hrel
    obtain ⟨W, rfl⟩ : ∃ W : World, W = wr := ⟨_, rfl⟩
    by_cases hlt : k < n0
    · have fc : (k : Int) < (n0 : Nat) := by omega
      obtain ⟨x, b, off, AH, mH, dH, hx, rfl, hb, hnm, hrd, e0, e1⟩ := rRow_get (R0.out.keep (w' := W) fun b hb => HW.out.block b (by have := HBW.out; omega)) hlt
      have HX := Lib.hid hx
      have HRD := Lib.hid hrd
      have hm40 : mH ≤ 40 := by have := Pl.samplesOk_len (HK.out.row x (List.mem_of_getElem? hx)).2.2; have := hrd.1; omega
      have HML : Hid (mH = x.Samples.length) := hrd.1.symm
      obtain ⟨gr, hgr⟩ : ∃ g, W.heap.size = g := ⟨_, rfl⟩
      obtain ⟨W2, hW2⟩ : ∃ V, W.alloc (.cells #[.string x.Name, .slice AH mH dH] 139) = V := ⟨_, rfl⟩
      have KS2 := Lib.hid (((Mm.SepF.start W).alloc' hgr 139 [.string x.Name, .slice AH mH dH]).atW hW2)
      have q0 := KS2.out.cell (k := 0) 0 rfl rfl
      have q1 := KS2.out.cell (k := 1) 0 rfl rfl
      clear hx hrd hnm
      go_upto_region 6 with fail
      clear hW2 hgr e0 e1 q0 q1
      obtain ⟨gw, rfl⟩ : ∃ g : Nat, g = gk := ⟨_, rfl⟩
      go_loopg [3, 22] mH (fun gg s_ i_ wr => ∃ (j : Nat), mH - j ≤ gg ∧ j ≤ mH ∧ i_ = .int .i64 (j : Nat) ∧ s_ = .string ⟨(Pl.preL h k j x).toArray⟩ ∧ Hid (Mm.SepF [] W wr [Mm.tblk gr 139 [.string x.Name, .slice AH mH dH]]))
      case atStart => exact ⟨0, by omega, by omega, rfl, by rw [Pl.preL_zero], KS2.out⟩
      case round =>
        clear KS2
        obtain ⟨j, hgj, hj, rfl, rfl, KS3⟩ := hrel
        obtain ⟨V, rfl⟩ : ∃ W : World, W = wr := ⟨_, rfl⟩
        by_cases hjt : j < mH
        · have fj : (j : Int) < (mH : Nat) := by omega
          obtain ⟨y, b2, off2, hy, hA, hb2, ia, iv, f0, f1⟩ := smp_get (HRD.out.keep (w' := V) fun b hb => KS3.out.bel0.block b (by have := HBW.out; have := HW.out.size; omega)) hjt
          subst hA
          obtain ⟨gx, hgx⟩ : ∃ g, V.heap.size = g := ⟨_, rfl⟩
          obtain ⟨V1, hV1⟩ : ∃ U, V.alloc (.cells #[.int .i64 y.At, .int .i64 y.Value] 124) = U := ⟨_, rfl⟩
          have KS4 := Lib.hid ((KS3.out.alloc' hgx 124 [.int .i64 y.At, .int .i64 y.Value]).atW hV1)
          have hso := HK.out.sayAt HX.out hy
          have hbd : 0 ≤ y.At ∧ y.At ≤ 1000000000 ∧ -1000000000 ≤ y.Value ∧ y.Value ≤ 1000000000 := Pl.sayOk_bounds hso
          have hnm : x.Name.size ≤ 8 := Pl.sayOk_name hso
          have CT := l13Text_c ⟨x.Name, y.At, y.Value⟩ (by show x.Name.size ≤ 1000; omega) ⟨hbd.1, by show y.At < _; omega⟩ ⟨by show _ < y.Value; omega, by show y.Value < _; omega⟩ V1
          obtain ⟨e1, e2, e3⟩ := Pl.preL_txt HK.out HX.out hy
          obtain ⟨TX, hTX⟩ : ∃ T, Pl.sayTxt ⟨x.Name, y.At, y.Value⟩ = T := ⟨_, rfl⟩
          obtain ⟨SP, hSP⟩ : ∃ S, (⟨(Pl.preL h k j x).toArray⟩ : ByteArray) = S := ⟨_, rfl⟩
          rw [hTX] at CT e1 e2
          rw [hSP] at e1 e3 ⊢
          have HE1 := Lib.hid e1
          have q0 := KS4.out.cell (k := 0) 1 rfl rfl
          have x0 := KS4.out.cell (k := 0) 0 rfl rfl
          have x1 := KS4.out.cell (k := 1) 0 rfl rfl
          clear e1 hTX hSP hy hso hbd hnm KS3
          go_wp2_with fail
          refine CT.mono ?_
          rintro e w3 ⟨rfl, hb3⟩
          have KS5 := Lib.hid ((KS4.out.step hb3).sel [1] (by decide) rfl)
          clear CT KS4 q0 x0 x1 hV1 hgx f0 f1
          go_wp2
          go_roundg (mH - (j + 1))
          case measure => omega
          case rel => exact ⟨j + 1, Nat.le_refl _, by omega, by go_num, by rw [HE1.out], KS5.out⟩
        · obtain rfl : j = mH := by omega
          have fj : ¬ ((j : Nat) : Int) < (j : Nat) := by omega
          have HE : Hid (Pl.preL h k j x = Pl.preH h (k + 1)) := by show _ = _; rw [HML.out]; exact Pl.preL_end HX.out
          have HWN := Lib.hid (below_step HW.out KS3.out.bel0)
          go_wp2
          go_roundg (n0 - (k + 1))
          case measure => omega
          case rel => exact ⟨k + 1, Nat.le_refl _, by omega, by go_num, by rw [HE.out], HWN.out⟩
    · obtain rfl : k = n0 := by omega
      have fc : ¬ ((k : Nat) : Int) < (k : Nat) := by omega
      have HE : Hid (Pl.preH h k = Pl.headL h) := by show _ = _; rw [HN0.out]; exact Pl.preH_end h
      go_wp2
      go_ret
      exact ⟨by rw [HE.out]; rfl, HW.out⟩
set_option maxRecDepth 100000 in
set_option maxHeartbeats 2000000 in
theorem headText_c (h : Head) (cs : List Value) (w : World) (B Bt : Nat) (hh : rHead.at_ w B h cs) (hB : B ≤ w.heap.size) (hk : Pl.HeadOk h) (ht : Tab Bt w) :
    Calls Tryz.prog 170 #[.agg cs.toArray] w fun e w' => e = .returned (.string (Pl.headTxt h)) ∧ Below w.heap.size w w' := by
  obtain ⟨A0, n0, c0, rfl, r0, io⟩ := rHead_at hh
  have hn0 : n0 = h.Rows.length := r0.1.symm
  have h8 := hk.len
  have HN0 := Lib.hid hn0
  have HK := Lib.hid hk
  have R0 := Lib.hid r0
  have hoff := hk.off
  have HBW := Lib.hid hB
  clear hh r0 io hk
  have hn8 : n0 ≤ 8 := by omega
  clear hn0 h8
  obtain ⟨ga, hga⟩ : ∃ g, w.heap.size = g := ⟨_, rfl⟩
  obtain ⟨W0, hW0⟩ : ∃ W, w.alloc (.cells #[.slice A0 n0 c0, .int .i64 h.Offset] 73) = W := ⟨_, rfl⟩
  have KS0 := Lib.hid (((Mm.SepF.start w).alloc' hga 73 [.slice A0 n0 c0, .int .i64 h.Offset]).atW hW0)
  obtain ⟨o, ho⟩ : ∃ o : Int, h.Offset = o := ⟨_, rfl⟩
  rw [ho] at KS0 hW0 hoff ⊢
  have HT := Lib.hid ht
  clear ht
  obtain ⟨gb, hgb⟩ : ∃ g, W0.heap.size = g := ⟨_, rfl⟩
  obtain ⟨W1, hW1⟩ : ∃ W, W0.alloc (.cells #[.pointer none, .slice none 0 0] 228) = W := ⟨_, rfl⟩
  have hbld : isBld gb gb [] W1 := by rw [← hW1, ← hgb]; exact Lib.IsBuilderF.of (Lib.fresh_isBuilder _ _ W0)
  have KS1 := Lib.hid ((KS0.out.alloc' hgb 228 [.pointer none, .slice none 0 0]).atW hW1)
  have hgw : w.heap.size < gb ∧ gb < W1.heap.size := by
    have h1 := (KS1.out.blk 0 rfl).1
    have h2 := KS0.out.bel0.size
    have h3 := (KS0.out.blk 0 rfl).1
    omega
  have HGW := Lib.hid hgw
  have d0 := KS1.out.cell (k := 0) 1 rfl rfl
  have d1 := KS1.out.cell (k := 1) 1 rfl rfl
  have HT1 : Hid (Tab Bt W1) := HT.out.on KS1.out.bel0
  have CN := itoa_c o (by omega) (by omega) Bt W1 HT1.out
  have hos := Pl.itoaB_size (n := o) (by omega) (by omega)
  have h10 : (⟨#[10]⟩ : ByteArray).size = 1 := rfl
  have HP0 : Hid ([] ++ (Pl.itoaB o ++ ⟨#[10]⟩).data.toList = Pl.preH h 0) := by
    show _ = _
    rw [Pl.preH_zero, ho]
    simp [Pl.itoaB]
  obtain ⟨TM, hTM⟩ : ∃ T, Pl.itoaB o = T := ⟨_, rfl⟩
  rw [hTM] at CN hos HP0
  have HBL := Lib.hid hbld
  clear hoff hTM ho hbld hgw
  go_enter Tryz.func170, Tryz.ntmps170
  go_wp2_with fail
  refine CN.mono ?_
  rintro e w2 ⟨rfl, hb2⟩
  obtain ⟨W2, rfl⟩ : ∃ W : World, W = w2 := ⟨_, rfl⟩
  have KS2 := Lib.hid ((KS1.out.step hb2).sel [1] (by decide) rfl)
  have hB2 := isBld.old HBL.out hb2
  have hb12 := Lib.hid (below_le hb2 (Nat.le_of_lt HGW.out.2))
  have CW := bldWS_c gb gb [] (TM ++ ⟨#[10]⟩) W2 hB2 (by rw [ByteArray.size_append]; show 0 + _ ≤ _; omega) (by have := HGW.out.2; have := hb2.size; omega)
  rw [HP0.out] at CW
  clear hgb hga hW0 hW1 d0 d1 CN KS0 hb2 hB2
  go_wp2_with fail
  refine CW.mono ?_
  rintro e w3 ⟨rfl, hB3, hb3, hoth⟩
  obtain ⟨W3, rfl⟩ : ∃ W : World, W = w3 := ⟨_, rfl⟩
  have hk3 := blk_kept hoth (KS2.out.at_ 0 rfl) (by have h1 := KS1.out.apart (i := 0) (j := 1) rfl rfl (by decide) gb (by simp [Mm.tblk]); intro e; exact h1 (by simp [Mm.tblk, e])) (by decide)
  have d0 := Mm.Blk.cell hk3 (i := 0) rfl
  have HS3 : Hid (Below gb W1 W3 ∧ isBld gb gb (Pl.preH h 0) W3) := ⟨hb12.out.trans hb3, hB3⟩
  have HB1 : Hid (Below w.heap.size w W1) := KS1.out.bel0
  clear CW hB3 hb3 hoth hk3 KS2 hb12 HP0 HBL KS1
  go_upto_region 4 with fail
  clear d0
  go_loopg [16] n0 (fun gg i_ wr => ∃ (k : Nat), n0 - k ≤ gg ∧ k ≤ n0 ∧ i_ = .int .i64 (k : Nat) ∧ Hid (Below gb W1 wr ∧ isBld gb gb (Pl.preH h k) wr))
  case atStart => exact ⟨0, by omega, by omega, rfl, HS3.out⟩
  case round =>
    clear HS3
    obtain ⟨k, hgk, hk', rfl, HW⟩ := hrel
    obtain ⟨W, rfl⟩ : ∃ W : World, W = wr := ⟨_, rfl⟩
    by_cases hlt : k < n0
    · have fc : (k : Int) < (n0 : Nat) := by omega
      have hbw : Below w.heap.size w W := HB1.out.trans (below_le HW.out.1 (Nat.le_of_lt HGW.out.1))
      have HBW2 := Lib.hid hbw
      obtain ⟨x, b, off, AH, mH, dH, hx, rfl, hb, hnm, hrd, e0, e1⟩ := rRow_get (R0.out.keep (w' := W) fun b hb => hbw.block b (by have := HBW.out; omega)) hlt
      have HX := Lib.hid hx
      have HRD := Lib.hid hrd
      have hm40 : mH ≤ 40 := by have := Pl.samplesOk_len (HK.out.row x (List.mem_of_getElem? hx)).2.2; have := hrd.1; omega
      have HML : Hid (mH = x.Samples.length) := hrd.1.symm
      obtain ⟨gr, hgr⟩ : ∃ g, W.heap.size = g := ⟨_, rfl⟩
      obtain ⟨W2, hW2⟩ : ∃ V, W.alloc (.cells #[.string x.Name, .slice AH mH dH] 139) = V := ⟨_, rfl⟩
      have KS2 := Lib.hid (((Mm.SepF.start W).alloc' hgr 139 [.string x.Name, .slice AH mH dH]).atW hW2)
      have q0 := KS2.out.cell (k := 0) 0 rfl rfl
      have q1 := KS2.out.cell (k := 1) 0 rfl rfl
      have hgbW : gb < W.heap.size := by have := HGW.out.2; have := HW.out.1.size; omega
      have HSI : Hid (Below gb W W2 ∧ isBld gb gb (Pl.preL h k 0 x) W2 ∧ Mm.Blk W2 gr 139 [.string x.Name, .slice AH mH dH]) := ⟨below_le KS2.out.bel0 (Nat.le_of_lt hgbW), by rw [Pl.preL_zero]; exact isBld.old HW.out.2 KS2.out.bel0, KS2.out.at_ 0 rfl⟩
      have hgrb : gb < gr := by omega
      clear hx hrd hnm hbw KS2
      go_upto_region 7 with fail
      clear hW2 hgr e0 e1 q0 q1
      obtain ⟨gw, rfl⟩ : ∃ g : Nat, g = gk := ⟨_, rfl⟩
      go_loopg [23] mH (fun gg i_ wr => ∃ (j : Nat), mH - j ≤ gg ∧ j ≤ mH ∧ i_ = .int .i64 (j : Nat) ∧ Hid (Below gb W wr ∧ isBld gb gb (Pl.preL h k j x) wr ∧ Mm.Blk wr gr 139 [.string x.Name, .slice AH mH dH]))
      case atStart => exact ⟨0, by omega, by omega, rfl, HSI.out⟩
      case round =>
        clear HSI
        obtain ⟨j, hgj, hj, rfl, HV⟩ := hrel
        obtain ⟨V, rfl⟩ : ∃ W : World, W = wr := ⟨_, rfl⟩
        by_cases hjt : j < mH
        · have fj : (j : Int) < (mH : Nat) := by omega
          have hbV : Below w.heap.size w V := HBW2.out.trans (below_le HV.out.1 (Nat.le_of_lt HGW.out.1))
          obtain ⟨y, b2, off2, hy, hA, hb2, ia, iv, f0, f1⟩ := smp_get (HRD.out.keep (w' := V) fun b hb => HV.out.1.block b (by have := HBW.out; have := HGW.out.1; omega)) hjt
          subst hA
          have HTV : Hid (Tab Bt V) := HT.out.on hbV
          obtain ⟨gx, hgx⟩ : ∃ g, V.heap.size = g := ⟨_, rfl⟩
          obtain ⟨V1, hV1⟩ : ∃ U, V.alloc (.cells #[.int .i64 y.At, .int .i64 y.Value] 124) = U := ⟨_, rfl⟩
          have KS4 := Lib.hid (((Mm.SepF.start V).alloc' hgx 124 [.int .i64 y.At, .int .i64 y.Value]).atW hV1)
          have hso := HK.out.sayAt HX.out hy
          have hbd : 0 ≤ y.At ∧ y.At ≤ 1000000000 ∧ -1000000000 ≤ y.Value ∧ y.Value ≤ 1000000000 := Pl.sayOk_bounds hso
          have hnm : x.Name.size ≤ 8 := Pl.sayOk_name hso
          have HT4 : Hid (Tab Bt V1) := HTV.out.on KS4.out.bel0
          have CT := sayText_c ⟨x.Name, y.At, y.Value⟩ (by show x.Name.size ≤ 1000; omega) ⟨by show _ < y.At; omega, by show y.At < _; omega⟩ ⟨by show _ < y.Value; omega, by show y.Value < _; omega⟩ Bt V1 HT4.out
          obtain ⟨-, e2, e3⟩ := Pl.preL_txt HK.out HX.out hy
          have hnx := Pl.preL_next (h := h) (i := k) hy
          have htx : (Pl.sayTxt ⟨x.Name, y.At, y.Value⟩ ++ ⟨#[10]⟩).data.toList = Pl.lineL ⟨x.Name, y.At, y.Value⟩ := Pl.line_txt _
          rw [← htx] at hnx
          obtain ⟨TX, hTX⟩ : ∃ T, Pl.sayTxt ⟨x.Name, y.At, y.Value⟩ = T := ⟨_, rfl⟩
          rw [hTX] at CT e2 hnx
          have HNX := Lib.hid hnx
          have HPB : Hid ((Pl.preL h k j x).length ≤ 30000) := Pl.preL_bound HK.out HX.out (by have := HML.out; omega)
          have q0 := Mm.Blk.cell (Mm.Blk.bel HV.out.2.2 KS4.out.bel0) (i := 0) rfl
          have x0 := KS4.out.cell (k := 0) 0 rfl rfl
          have x1 := KS4.out.cell (k := 1) 0 rfl rfl
          have HBLD : Hid (isBld gb gb (Pl.preL h k j x) V1) := isBld.old HV.out.2.1 KS4.out.bel0
          have HBK : Hid (Mm.Blk V1 gr 139 [.string x.Name, .slice (some ⟨b2, off2, none⟩) mH dH]) := Mm.Blk.bel HV.out.2.2 KS4.out.bel0
          have hgbV : gb < V.heap.size := by have := HGW.out.2; have := HW.out.1.size; have := HV.out.1.size; omega
          have HBV : Hid (Below gb W V1) := HV.out.1.trans (below_le KS4.out.bel0 (Nat.le_of_lt hgbV))
          have hV1s := KS4.out.bel0.size
          clear hTX hy hso hbd hnm htx hnx e3 hbV HTV HT4 KS4
          go_wp2_with fail
          refine CT.mono ?_
          rintro e w5 ⟨rfl, hb5⟩
          obtain ⟨V2, rfl⟩ : ∃ W : World, W = w5 := ⟨_, rfl⟩
          have CW := bldWS_c gb gb (Pl.preL h k j x) (TX ++ ⟨#[10]⟩) V2 (isBld.old HBLD.out hb5) (by rw [ByteArray.size_append]; have := HPB.out; show _ + (_ + 1) ≤ _; omega) (by have := hb5.size; omega)
          rw [← HNX.out] at CW
          have HBK2 : Hid (Mm.Blk V2 gr 139 [.string x.Name, .slice (some ⟨b2, off2, none⟩) mH dH]) := Mm.Blk.bel HBK.out hb5
          have HBV2 : Hid (Below gb W V2) := HBV.out.trans (below_le hb5 (by omega))
          clear CT q0 x0 x1 hV1 hgx f0 f1 hb5 HBK HBV HBLD
          go_wp2_with fail
          refine CW.mono ?_
          rintro e w6 ⟨rfl, hB6, hb6, hoth⟩
          have HSN : Hid (Below gb W w6 ∧ isBld gb gb (Pl.preL h k (j + 1) x) w6 ∧ Mm.Blk w6 gr 139 [.string x.Name, .slice (some ⟨b2, off2, none⟩) mH dH]) := ⟨HBV2.out.trans hb6, hB6, blk_kept hoth HBK2.out (by omega) (by decide)⟩
          clear CW hB6 hb6 hoth HBK2 HBV2
          go_wp2
          go_roundg (mH - (j + 1))
          case measure => omega
          case rel => exact ⟨j + 1, Nat.le_refl _, by omega, by go_num, HSN.out⟩
        · obtain rfl : j = mH := by omega
          have fj : ¬ ((j : Nat) : Int) < (j : Nat) := by omega
          have HE : Hid (Pl.preL h k j x = Pl.preH h (k + 1)) := by show _ = _; rw [HML.out]; exact Pl.preL_end HX.out
          have HWN : Hid (Below gb W1 V ∧ isBld gb gb (Pl.preH h (k + 1)) V) := ⟨HW.out.1.trans HV.out.1, by rw [← HE.out]; exact HV.out.2.1⟩
          go_wp2
          go_roundg (n0 - (k + 1))
          case measure => omega
          case rel => exact ⟨k + 1, Nat.le_refl _, by omega, by go_num, HWN.out⟩
    · obtain rfl : k = n0 := by omega
      have fc : ¬ ((k : Nat) : Int) < (k : Nat) := by omega
      have HE : Hid (Pl.preH h k = Pl.headL h) := by show _ = _; rw [HN0.out]; exact Pl.preH_end h
      have CS := bldStr_c gb gb (Pl.headL h) W (by rw [← HE.out]; exact HW.out.2) (by unfold Pl.headL; simp) (by have := HGW.out.2; have := HW.out.1.size; omega)
      go_wp2_with fail
      refine CS.mono ?_
      rintro e w6 ⟨rfl, -, hb6, -⟩
      have HBE : Hid (Below w.heap.size w w6) := HB1.out.trans (below_le (HW.out.1.trans hb6) (Nat.le_of_lt HGW.out.1))
      clear CS hb6
      go_wp2
      go_ret
      exact ⟨rfl, HBE.out⟩
end Go.Proofs.YtbhmdnjammnlnaaGreatDoor

namespace Go.Proofs.YtbhmdnjammnlnaaGreatDoor
open Go.RowKit
attribute [local go_sem] und_cell cha_cell World.cell?_alloc_some
namespace Pl
structure RowOk (l : List Row) (k : Nat) (x : Row) : Prop where
  wd : word false x.Name.data.toList = true
  ne : x.Samples ≠ []
  sm : samplesOk x.Samples = true
  lt : ∀ y, 0 < k → l[k - 1]? = some y → lessB y.Name x.Name = true
theorem rsort_of {l : List Row} (h : ∀ k x, l[k]? = some x → RowOk l k x) : RSort l := by
  intro i j x y hij hx hy
  induction j generalizing y with
  | zero => omega
  | succ j ih =>
    obtain ⟨z, hz⟩ : ∃ z, l[j]? = some z := ⟨_, List.getElem?_eq_getElem (by have := (List.getElem?_eq_some_iff.1 hy).1; omega)⟩
    have h1 := (h (j + 1) y hy).lt z (by omega) (by simpa using hz)
    by_cases e : i = j
    · subst e
      rw [hz] at hx
      injection hx with hx
      rw [← hx]; exact h1
    · exact rless_trans (ih z (by omega) hz) h1
theorem HeadOk.of {h : Head} (h1 : ∀ k x, h.Rows[k]? = some x → RowOk h.Rows k x) (h2 : h.Rows.length ≤ 8) (h3 : 0 ≤ h.Offset ∧ h.Offset ≤ 1000) : HeadOk h :=
  ⟨rsort_of h1, fun r hr => by
    obtain ⟨i, hi⟩ := List.getElem?_of_mem hr
    have := h1 i r hi
    exact ⟨this.wd, this.ne, this.sm⟩, h2, h3⟩
theorem HeadOk.at_ {h : Head} (k : HeadOk h) {i : Nat} {x : Row} (hx : h.Rows[i]? = some x) : RowOk h.Rows i x := by
  have := k.row x (List.mem_of_getElem? hx)
  exact ⟨this.1, this.2.1, this.2.2, fun y hi hy => k.srt (i - 1) i y x (by omega) hy hx⟩
end Pl
set_option maxRecDepth 100000 in
set_option maxHeartbeats 4000000 in
theorem isHead_c (h : Head) (cs : List Value) (w : World) (B : Nat) (hh : rHead.at_ w B h cs) (hB : B ≤ w.heap.size) :
    Calls Tryz.prog 94 #[.agg cs.toArray] w (BoolAns (Pl.HeadOk h) w) := by
  obtain ⟨A0, n0, c0, rfl, r0, io⟩ := rHead_at hh
  have HN0 : Hid (n0 = h.Rows.length) := r0.1.symm
  have R0 := Lib.hid r0
  have HBW := Lib.hid hB
  have hnm : n0 ≤ maxLen := Nat.le_trans r0.2.1 r0.2.2.1
  unfold maxLen at hnm
  clear hh r0
  obtain ⟨o, ho⟩ : ∃ o : Int, h.Offset = o := ⟨_, rfl⟩
  have HO := Lib.hid ho
  rw [ho] at io ⊢
  clear ho
  obtain ⟨ga, hga⟩ : ∃ g, w.heap.size = g := ⟨_, rfl⟩
  obtain ⟨W0, hW0⟩ : ∃ W, w.alloc (.cells #[.slice A0 n0 c0, .int .i64 o] 73) = W := ⟨_, rfl⟩
  have KS0 := Lib.hid (((Mm.SepF.start w).alloc' hga 73 [.slice A0 n0 c0, .int .i64 o]).atW hW0)
  have d0 := KS0.out.cell (k := 0) 0 rfl rfl
  go_enter Tryz.func94, Tryz.ntmps94
  go_upto_region 2 with fail
  clear d0 hW0 hga
  go_loopg [8] n0 (fun gg i_ wr => ∃ (k : Nat), n0 - k ≤ gg ∧ k ≤ n0 ∧ i_ = .int .i64 (k : Nat) ∧ Hid (∀ i x, i < k → h.Rows[i]? = some x → Pl.RowOk h.Rows i x) ∧ Hid (Mm.SepF [] w wr [Mm.tblk ga 73 [.slice A0 n0 c0, .int .i64 o]]))
  case atStart => exact ⟨0, by omega, by omega, rfl, fun i x hi => absurd hi (by omega), KS0.out⟩
  case round =>
    clear KS0
    obtain ⟨k, hgk, hk', rfl, HU, HS⟩ := hrel
    obtain ⟨W, rfl⟩ : ∃ W : World, W = wr := ⟨_, rfl⟩
    by_cases hlt : k < n0
    · have fc : (k : Int) < (n0 : Nat) := by omega
      obtain ⟨x, b, off, AH, mH, dH, hx, rfl, hb, hnm2, hrd, e0, e1⟩ := rRow_get (R0.out.keep (w' := W) fun b hb => HS.out.bel0.block b (by have := HBW.out; omega)) hlt
      have HX := Lib.hid hx
      have HML : Hid (mH = x.Samples.length) := hrd.1.symm
      obtain ⟨gr, hgr⟩ : ∃ g, W.heap.size = g := ⟨_, rfl⟩
      obtain ⟨W2, hW2⟩ : ∃ V, W.alloc (.cells #[.string x.Name, .slice AH mH dH] 139) = V := ⟨_, rfl⟩
      have KS2 := Lib.hid ((HS.out.alloc' hgr 139 [.string x.Name, .slice AH mH dH]).atW hW2)
      have hb2 : Below W.heap.size W W2 := by rw [← hW2]; exact below_new (Below.refl _ _) _
      have HRD := Lib.hid (hrd.keep (w' := W2) fun b hb => hb2.block b (by have := HBW.out; have := HS.out.bel0.size; omega))
      have hBW2 : B ≤ W2.heap.size := by have := HBW.out; have := HS.out.bel0.size; have := hb2.size; omega
      go_upto_region 4 with fail
      clear hW2 hgr e0 e1 hrd hx
      have q0 := KS2.out.cell (k := 0) 0 rfl rfl
      have q1 := KS2.out.cell (k := 1) 0 rfl rfl
      have d0 := KS2.out.cell (k := 0) 1 rfl rfl
      have CWD := fun z : Und W2 => und_same z (isWord_c x.Name false (und W2 z) hnm2)
      have CSM := fun z : Und W2 => und_call z (areSamples_c x.Samples AH mH dH (und W2 z) B (HRD.out.und hBW2 z) (Nat.le_trans hBW2 (und_size z)))
      obtain ⟨wd, hwd⟩ : ∃ b, Pl.word false x.Name.data.toList = b := ⟨_, rfl⟩
      obtain ⟨so, hso⟩ : ∃ b, Pl.samplesOk x.Samples = b := ⟨_, rfl⟩
      rw [hwd] at CWD
      rw [hso] at CSM
      have HWD := Lib.hid hwd
      have HSO := Lib.hid hso
      have HB2 := Lib.hid KS2.out.bel0
      clear hwd hso hnm2 hb2
      by_cases hk0 : k = 0
      · subst hk0
        have HLT : Hid (∀ y, 0 < 0 → h.Rows[0 - 1]? = some y → Pl.lessB y.Name x.Name = true) := fun y hy => absurd hy (by omega)
        have z0 : ¬ ((0 : Int) < ((0 : Nat) : Int)) := by omega
        cases wd with
        | false =>
          have HNL : Hid (¬ Pl.HeadOk h) := fun hh => by have := (hh.at_ HX.out).wd; rw [HWD.out] at this; cases this
          refine wp_region_und (by kernel_rfl) (by kernel_rfl) ?_
          repeat (go_big_quiet_step ((first | (first | (go_at_call 85; with_reducible exact CWD _) | (go_at_call 140; with_reducible exact CSM _)))))
          refine wpQuiet_nil ?_
          intro X hX
          have HXX := Lib.hid (below_step HB2.out hX)
          clear hX
          go_wp2
          go_ret
          exact BoolAns.no HNL.out HXX.out
        | true =>
          by_cases hm0 : mH = 0
          · have HNL : Hid (¬ Pl.HeadOk h) := fun hh => (hh.at_ HX.out).ne (List.length_eq_zero_iff.1 (by have := HML.out; omega))
            have hm0' : ((mH : Int) == 0) = true := by simp [hm0]
            cases so
            all_goals
              refine wp_region_und (by kernel_rfl) (by kernel_rfl) ?_
              repeat (go_big_quiet_step ((first | (first | (go_at_call 85; with_reducible exact CWD _) | (go_at_call 140; with_reducible exact CSM _)))))
              refine wpQuiet_nil ?_
              intro X hX
              have HXX := Lib.hid (below_step HB2.out hX)
              clear hX
              go_wp2
              go_ret
              exact BoolAns.no HNL.out HXX.out
          · have hm0' : ((mH : Int) == 0) = false := by simp [hm0]
            cases so with
            | false =>
              have HNL : Hid (¬ Pl.HeadOk h) := fun hh => by have := (hh.at_ HX.out).sm; rw [HSO.out] at this; cases this
              refine wp_region_und (by kernel_rfl) (by kernel_rfl) ?_
              repeat (go_big_quiet_step ((first | (first | (go_at_call 85; with_reducible exact CWD _) | (go_at_call 140; with_reducible exact CSM _)))))
              refine wpQuiet_nil ?_
              intro X hX
              have HXX := Lib.hid (below_step HB2.out hX)
              clear hX
              go_wp2
              go_ret
              exact BoolAns.no HNL.out HXX.out
            | true =>
              have HUN : Hid (∀ i y, i < 0 + 1 → h.Rows[i]? = some y → Pl.RowOk h.Rows i y) := fun i y hi hy => by
                rcases Nat.lt_succ_iff_lt_or_eq.1 hi with h1 | rfl
                · exact HU.out i y h1 hy
                · have := HX.out.symm.trans hy
                  injection this with this
                  subst this
                  exact ⟨HWD.out, fun e => hm0 (by rw [HML.out, e]; rfl), HSO.out, HLT.out⟩
              refine wp_region_und (by kernel_rfl) (by kernel_rfl) ?_
              repeat (go_big_quiet_step ((first | (first | (go_at_call 85; with_reducible exact CWD _) | (go_at_call 140; with_reducible exact CSM _)))))
              refine wpQuiet_nil ?_
              intro X hX
              have HSX := Lib.hid ((KS2.out.step hX).sel [1] (by decide) rfl)
              clear hX
              go_wp2
              go_roundg (n0 - (0 + 1))
              case measure => omega
              case rel => exact ⟨0 + 1, by omega, by omega, by go_num, HUN.out, HSX.out⟩
      · have hk1 : k - 1 < n0 := by omega
        obtain ⟨y, AP, mP, dP, hy, hbp, hnmp, hrdp, p0, p1⟩ := rRow_get' (R0.out.keep (w' := W2) fun b hb => KS2.out.bel0.block b (by have := HBW.out; omega)) hk1
        have HY := Lib.hid hy
        clear hrdp p1 hnmp hbp hy
        have f1 : decide ((0 : Int) < (k : Nat)) = true := decide_eq_true (by omega)
        have f1n : decide (0 < k) = true := decide_eq_true (by omega)
        have f2 : (0 : Int) ≤ (k : Int) - 1 := by omega
        have f3 : (k : Int) - 1 < (n0 : Nat) := by omega
        have f4 : ((k : Int) - 1).toNat = k - 1 := by omega
        have f5 : (1 : Int) ≤ (k : Nat) := by omega
        obtain ⟨lt, hlt2⟩ : ∃ b, Op.bytesLess y.Name.toList x.Name.toList = b := ⟨_, rfl⟩
        have HL2 := Lib.hid hlt2
        cases lt with
        | false =>
          have HNL : Hid (¬ Pl.HeadOk h) := fun hh => by have := (hh.at_ HX.out).lt y (by omega) HY.out; rw [show Pl.lessB y.Name x.Name = Op.bytesLess y.Name.toList x.Name.toList from rfl, HL2.out] at this; cases this
          cases wd <;> cases so <;> by_cases hm0 : mH = 0
          all_goals
            have hm0' : ((mH : Int) == 0) = decide (mH = 0) := by by_cases e : mH = 0 <;> simp [e]
            simp only [hm0, decide_true, decide_false] at hm0'
            refine wp_region_und (by kernel_rfl) (by kernel_rfl) ?_
            repeat (go_big_quiet_step ((first | (first | (go_at_call 85; with_reducible exact CWD _) | (go_at_call 140; with_reducible exact CSM _)))))
            refine wpQuiet_nil ?_
            intro X hX
            have HXX := Lib.hid (below_step HB2.out hX)
            clear hX
            go_wp2
            go_ret
            exact BoolAns.no HNL.out HXX.out
        | true =>
          have HLT : Hid (∀ y, 0 < k → h.Rows[k - 1]? = some y → Pl.lessB y.Name x.Name = true) := fun y' _ hy' => by rw [HY.out] at hy'; injection hy' with hy'; rw [← hy']; exact HL2.out
          cases wd with
          | false =>
            have HNL : Hid (¬ Pl.HeadOk h) := fun hh => by have := (hh.at_ HX.out).wd; rw [HWD.out] at this; cases this
            refine wp_region_und (by kernel_rfl) (by kernel_rfl) ?_
            repeat (go_big_quiet_step ((first | (first | (go_at_call 85; with_reducible exact CWD _) | (go_at_call 140; with_reducible exact CSM _)))))
            refine wpQuiet_nil ?_
            intro X hX
            have HXX := Lib.hid (below_step HB2.out hX)
            clear hX
            go_wp2
            go_ret
            exact BoolAns.no HNL.out HXX.out
          | true =>
            by_cases hm0 : mH = 0
            · have HNL : Hid (¬ Pl.HeadOk h) := fun hh => (hh.at_ HX.out).ne (List.length_eq_zero_iff.1 (by have := HML.out; omega))
              have hm0' : ((mH : Int) == 0) = true := by simp [hm0]
              cases so
              all_goals
                refine wp_region_und (by kernel_rfl) (by kernel_rfl) ?_
                repeat (go_big_quiet_step ((first | (first | (go_at_call 85; with_reducible exact CWD _) | (go_at_call 140; with_reducible exact CSM _)))))
                refine wpQuiet_nil ?_
                intro X hX
                have HXX := Lib.hid (below_step HB2.out hX)
                clear hX
                go_wp2
                go_ret
                exact BoolAns.no HNL.out HXX.out
            · have hm0' : ((mH : Int) == 0) = false := by simp [hm0]
              cases so with
              | false =>
                have HNL : Hid (¬ Pl.HeadOk h) := fun hh => by have := (hh.at_ HX.out).sm; rw [HSO.out] at this; cases this
                refine wp_region_und (by kernel_rfl) (by kernel_rfl) ?_
                repeat (go_big_quiet_step ((first | (first | (go_at_call 85; with_reducible exact CWD _) | (go_at_call 140; with_reducible exact CSM _)))))
                refine wpQuiet_nil ?_
                intro X hX
                have HXX := Lib.hid (below_step HB2.out hX)
                clear hX
                go_wp2
                go_ret
                exact BoolAns.no HNL.out HXX.out
              | true =>
                have HUN : Hid (∀ i y, i < k + 1 → h.Rows[i]? = some y → Pl.RowOk h.Rows i y) := fun i y hi hy => by
                  rcases Nat.lt_succ_iff_lt_or_eq.1 hi with h1 | rfl
                  · exact HU.out i y h1 hy
                  · have := HX.out.symm.trans hy
                    injection this with this
                    subst this
                    exact ⟨HWD.out, fun e => hm0 (by rw [HML.out, e]; rfl), HSO.out, HLT.out⟩
                refine wp_region_und (by kernel_rfl) (by kernel_rfl) ?_
                repeat (go_big_quiet_step ((first | (first | (go_at_call 85; with_reducible exact CWD _) | (go_at_call 140; with_reducible exact CSM _)))))
                refine wpQuiet_nil ?_
                intro X hX
                have HSX := Lib.hid ((KS2.out.step hX).sel [1] (by decide) rfl)
                clear hX
                go_wp2
                go_roundg (n0 - (k + 1))
                case measure => omega
                case rel => exact ⟨k + 1, by omega, by omega, by go_num, HUN.out, HSX.out⟩
    · obtain rfl : k = n0 := by omega
      have fc : ¬ ((k : Nat) : Int) < (k : Nat) := by omega
      have d0 := HS.out.cell (k := 0) 0 rfl rfl
      have d1 := HS.out.cell (k := 1) 0 rfl rfl
      have HB2 := Lib.hid HS.out.bel0
      by_cases h8 : k ≤ 8
      · have h8' : ((k : Int) ≤ 8) := by omega
        obtain ⟨inb, hin⟩ : ∃ b, Pl.isIn o 0 1000 = b := ⟨_, rfl⟩
        have HIN := Lib.hid hin
        go_wp2_with (go_at_call 55; refine (within_isJ hin _).mono ?_; rintro e w' ⟨rfl, rfl⟩)
        go_ret
        refine ⟨inb, rfl, ?_, HB2.out⟩
        rw [← HIN.out, Pl.isIn_iff]
        constructor
        · intro ho
          exact Pl.HeadOk.of (fun i x hx => HU.out i x (by have := (List.getElem?_eq_some_iff.1 hx).1; have := HN0.out; omega) hx) (by have := HN0.out; omega) (by rw [HO.out]; exact ho)
        · intro hk; have := hk.off; rw [HO.out] at this; exact this
      · have h8' : ¬ ((k : Int) ≤ 8) := by omega
        have HN : Hid (¬ Pl.HeadOk h) := fun hk => h8 (by have := hk.len; have := HN0.out; omega)
        go_wp2
        go_ret
        exact BoolAns.no HN.out HB2.out
set_option maxRecDepth 100000 in
set_option maxHeartbeats 4000000 in
theorem goodHead_c (h : Head) (cs : List Value) (w : World) (B : Nat) (hh : rHead.at_ w B h cs) (hB : B ≤ w.heap.size) :
    Calls Tryz.prog 70 #[.agg cs.toArray] w (BoolAns (Pl.HeadOk h) w) := by
  obtain ⟨A0, n0, c0, rfl, r0, io⟩ := rHead_at hh
  have HN0 : Hid (n0 = h.Rows.length) := r0.1.symm
  have R0 := Lib.hid r0
  have HBW := Lib.hid hB
  have hnm : n0 ≤ maxLen := Nat.le_trans r0.2.1 r0.2.2.1
  unfold maxLen at hnm
  clear hh r0
  obtain ⟨o, ho⟩ : ∃ o : Int, h.Offset = o := ⟨_, rfl⟩
  have HO := Lib.hid ho
  rw [ho] at io ⊢
  clear ho
  obtain ⟨ga, hga⟩ : ∃ g, w.heap.size = g := ⟨_, rfl⟩
  obtain ⟨W0, hW0⟩ : ∃ W, w.alloc (.cells #[.slice A0 n0 c0, .int .i64 o] 73) = W := ⟨_, rfl⟩
  have KS0 := Lib.hid (((Mm.SepF.start w).alloc' hga 73 [.slice A0 n0 c0, .int .i64 o]).atW hW0)
  have d0 := KS0.out.cell (k := 0) 0 rfl rfl
  go_enter Tryz.func70, Tryz.ntmps70
  go_upto_region 2 with fail
  clear d0 hW0 hga
  go_loopg [8] n0 (fun gg i_ wr => ∃ (k : Nat), n0 - k ≤ gg ∧ k ≤ n0 ∧ i_ = .int .i64 (k : Nat) ∧ Hid (∀ i x, i < k → h.Rows[i]? = some x → Pl.RowOk h.Rows i x) ∧ Hid (Mm.SepF [] w wr [Mm.tblk ga 73 [.slice A0 n0 c0, .int .i64 o]]))
  case atStart => exact ⟨0, by omega, by omega, rfl, fun i x hi => absurd hi (by omega), KS0.out⟩
  case round =>
    clear KS0
    obtain ⟨k, hgk, hk', rfl, HU, HS⟩ := hrel
    obtain ⟨W, rfl⟩ : ∃ W : World, W = wr := ⟨_, rfl⟩
    by_cases hlt : k < n0
    · have fc : (k : Int) < (n0 : Nat) := by omega
      obtain ⟨x, b, off, AH, mH, dH, hx, rfl, hb, hnm2, hrd, e0, e1⟩ := rRow_get (R0.out.keep (w' := W) fun b hb => HS.out.bel0.block b (by have := HBW.out; omega)) hlt
      have HX := Lib.hid hx
      have HML : Hid (mH = x.Samples.length) := hrd.1.symm
      obtain ⟨gr, hgr⟩ : ∃ g, W.heap.size = g := ⟨_, rfl⟩
      obtain ⟨W2, hW2⟩ : ∃ V, W.alloc (.cells #[.string x.Name, .slice AH mH dH] 139) = V := ⟨_, rfl⟩
      have KS2 := Lib.hid ((HS.out.alloc' hgr 139 [.string x.Name, .slice AH mH dH]).atW hW2)
      have hb2 : Below W.heap.size W W2 := by rw [← hW2]; exact below_new (Below.refl _ _) _
      have HRD := Lib.hid (hrd.keep (w' := W2) fun b hb => hb2.block b (by have := HBW.out; have := HS.out.bel0.size; omega))
      have hBW2 : B ≤ W2.heap.size := by have := HBW.out; have := HS.out.bel0.size; have := hb2.size; omega
      go_upto_region 4 with fail
      clear hW2 hgr e0 e1 hrd hx
      have q0 := KS2.out.cell (k := 0) 0 rfl rfl
      have q1 := KS2.out.cell (k := 1) 0 rfl rfl
      have d0 := KS2.out.cell (k := 0) 1 rfl rfl
      have CWD := fun z : Und W2 => und_same z (l3Name_c x.Name false (und W2 z) hnm2)
      have CSM := fun z : Und W2 => und_call z (GoodSamples_c x.Samples AH mH dH (und W2 z) B (HRD.out.und hBW2 z) (Nat.le_trans hBW2 (und_size z)))
      obtain ⟨wd, hwd⟩ : ∃ b, Pl.word false x.Name.data.toList = b := ⟨_, rfl⟩
      obtain ⟨so, hso⟩ : ∃ b, Pl.samplesOk x.Samples = b := ⟨_, rfl⟩
      rw [hwd] at CWD
      rw [hso] at CSM
      have HWD := Lib.hid hwd
      have HSO := Lib.hid hso
      have HB2 := Lib.hid KS2.out.bel0
      clear hwd hso hnm2 hb2
      by_cases hk0 : k = 0
      · subst hk0
        have HLT : Hid (∀ y, 0 < 0 → h.Rows[0 - 1]? = some y → Pl.lessB y.Name x.Name = true) := fun y hy => absurd hy (by omega)
        have z0 : ¬ ((0 : Int) < ((0 : Nat) : Int)) := by omega
        cases wd with
        | false =>
          have HNL : Hid (¬ Pl.HeadOk h) := fun hh => by have := (hh.at_ HX.out).wd; rw [HWD.out] at this; cases this
          refine wp_region_und (by kernel_rfl) (by kernel_rfl) ?_
          repeat (go_big_quiet_step ((first | (first | (go_at_call 82; with_reducible exact CWD _) | (go_at_call 124; with_reducible exact CSM _)))))
          refine wpQuiet_nil ?_
          intro X hX
          have HXX := Lib.hid (below_step HB2.out hX)
          clear hX
          go_wp2
          go_ret
          exact BoolAns.no HNL.out HXX.out
        | true =>
          by_cases hm0 : mH = 0
          · have HNL : Hid (¬ Pl.HeadOk h) := fun hh => (hh.at_ HX.out).ne (List.length_eq_zero_iff.1 (by have := HML.out; omega))
            have hm0' : ((mH : Int) == 0) = true := by simp [hm0]
            cases so
            all_goals
              refine wp_region_und (by kernel_rfl) (by kernel_rfl) ?_
              repeat (go_big_quiet_step ((first | (first | (go_at_call 82; with_reducible exact CWD _) | (go_at_call 124; with_reducible exact CSM _)))))
              refine wpQuiet_nil ?_
              intro X hX
              have HXX := Lib.hid (below_step HB2.out hX)
              clear hX
              go_wp2
              go_ret
              exact BoolAns.no HNL.out HXX.out
          · have hm0' : ((mH : Int) == 0) = false := by simp [hm0]
            cases so with
            | false =>
              have HNL : Hid (¬ Pl.HeadOk h) := fun hh => by have := (hh.at_ HX.out).sm; rw [HSO.out] at this; cases this
              refine wp_region_und (by kernel_rfl) (by kernel_rfl) ?_
              repeat (go_big_quiet_step ((first | (first | (go_at_call 82; with_reducible exact CWD _) | (go_at_call 124; with_reducible exact CSM _)))))
              refine wpQuiet_nil ?_
              intro X hX
              have HXX := Lib.hid (below_step HB2.out hX)
              clear hX
              go_wp2
              go_ret
              exact BoolAns.no HNL.out HXX.out
            | true =>
              have HUN : Hid (∀ i y, i < 0 + 1 → h.Rows[i]? = some y → Pl.RowOk h.Rows i y) := fun i y hi hy => by
                rcases Nat.lt_succ_iff_lt_or_eq.1 hi with h1 | rfl
                · exact HU.out i y h1 hy
                · have := HX.out.symm.trans hy
                  injection this with this
                  subst this
                  exact ⟨HWD.out, fun e => hm0 (by rw [HML.out, e]; rfl), HSO.out, HLT.out⟩
              refine wp_region_und (by kernel_rfl) (by kernel_rfl) ?_
              repeat (go_big_quiet_step ((first | (first | (go_at_call 82; with_reducible exact CWD _) | (go_at_call 124; with_reducible exact CSM _)))))
              refine wpQuiet_nil ?_
              intro X hX
              have HSX := Lib.hid ((KS2.out.step hX).sel [1] (by decide) rfl)
              clear hX
              go_wp2
              go_roundg (n0 - (0 + 1))
              case measure => omega
              case rel => exact ⟨0 + 1, by omega, by omega, by go_num, HUN.out, HSX.out⟩
      · have hk1 : k - 1 < n0 := by omega
        obtain ⟨y, AP, mP, dP, hy, hbp, hnmp, hrdp, p0, p1⟩ := rRow_get' (R0.out.keep (w' := W2) fun b hb => KS2.out.bel0.block b (by have := HBW.out; omega)) hk1
        have HY := Lib.hid hy
        clear hrdp p1 hnmp hbp hy
        have f1 : decide ((0 : Int) < (k : Nat)) = true := decide_eq_true (by omega)
        have f1n : decide (0 < k) = true := decide_eq_true (by omega)
        have f2 : (0 : Int) ≤ (k : Int) - 1 := by omega
        have f3 : (k : Int) - 1 < (n0 : Nat) := by omega
        have f4 : ((k : Int) - 1).toNat = k - 1 := by omega
        have f5 : (1 : Int) ≤ (k : Nat) := by omega
        obtain ⟨lt, hlt2⟩ : ∃ b, Op.bytesLess y.Name.toList x.Name.toList = b := ⟨_, rfl⟩
        have HL2 := Lib.hid hlt2
        cases lt with
        | false =>
          have HNL : Hid (¬ Pl.HeadOk h) := fun hh => by have := (hh.at_ HX.out).lt y (by omega) HY.out; rw [show Pl.lessB y.Name x.Name = Op.bytesLess y.Name.toList x.Name.toList from rfl, HL2.out] at this; cases this
          cases wd <;> cases so <;> by_cases hm0 : mH = 0
          all_goals
            have hm0' : ((mH : Int) == 0) = decide (mH = 0) := by by_cases e : mH = 0 <;> simp [e]
            simp only [hm0, decide_true, decide_false] at hm0'
            refine wp_region_und (by kernel_rfl) (by kernel_rfl) ?_
            repeat (go_big_quiet_step ((first | (first | (go_at_call 82; with_reducible exact CWD _) | (go_at_call 124; with_reducible exact CSM _)))))
            refine wpQuiet_nil ?_
            intro X hX
            have HXX := Lib.hid (below_step HB2.out hX)
            clear hX
            go_wp2
            go_ret
            exact BoolAns.no HNL.out HXX.out
        | true =>
          have HLT : Hid (∀ y, 0 < k → h.Rows[k - 1]? = some y → Pl.lessB y.Name x.Name = true) := fun y' _ hy' => by rw [HY.out] at hy'; injection hy' with hy'; rw [← hy']; exact HL2.out
          cases wd with
          | false =>
            have HNL : Hid (¬ Pl.HeadOk h) := fun hh => by have := (hh.at_ HX.out).wd; rw [HWD.out] at this; cases this
            refine wp_region_und (by kernel_rfl) (by kernel_rfl) ?_
            repeat (go_big_quiet_step ((first | (first | (go_at_call 82; with_reducible exact CWD _) | (go_at_call 124; with_reducible exact CSM _)))))
            refine wpQuiet_nil ?_
            intro X hX
            have HXX := Lib.hid (below_step HB2.out hX)
            clear hX
            go_wp2
            go_ret
            exact BoolAns.no HNL.out HXX.out
          | true =>
            by_cases hm0 : mH = 0
            · have HNL : Hid (¬ Pl.HeadOk h) := fun hh => (hh.at_ HX.out).ne (List.length_eq_zero_iff.1 (by have := HML.out; omega))
              have hm0' : ((mH : Int) == 0) = true := by simp [hm0]
              cases so
              all_goals
                refine wp_region_und (by kernel_rfl) (by kernel_rfl) ?_
                repeat (go_big_quiet_step ((first | (first | (go_at_call 82; with_reducible exact CWD _) | (go_at_call 124; with_reducible exact CSM _)))))
                refine wpQuiet_nil ?_
                intro X hX
                have HXX := Lib.hid (below_step HB2.out hX)
                clear hX
                go_wp2
                go_ret
                exact BoolAns.no HNL.out HXX.out
            · have hm0' : ((mH : Int) == 0) = false := by simp [hm0]
              cases so with
              | false =>
                have HNL : Hid (¬ Pl.HeadOk h) := fun hh => by have := (hh.at_ HX.out).sm; rw [HSO.out] at this; cases this
                refine wp_region_und (by kernel_rfl) (by kernel_rfl) ?_
                repeat (go_big_quiet_step ((first | (first | (go_at_call 82; with_reducible exact CWD _) | (go_at_call 124; with_reducible exact CSM _)))))
                refine wpQuiet_nil ?_
                intro X hX
                have HXX := Lib.hid (below_step HB2.out hX)
                clear hX
                go_wp2
                go_ret
                exact BoolAns.no HNL.out HXX.out
              | true =>
                have HUN : Hid (∀ i y, i < k + 1 → h.Rows[i]? = some y → Pl.RowOk h.Rows i y) := fun i y hi hy => by
                  rcases Nat.lt_succ_iff_lt_or_eq.1 hi with h1 | rfl
                  · exact HU.out i y h1 hy
                  · have := HX.out.symm.trans hy
                    injection this with this
                    subst this
                    exact ⟨HWD.out, fun e => hm0 (by rw [HML.out, e]; rfl), HSO.out, HLT.out⟩
                refine wp_region_und (by kernel_rfl) (by kernel_rfl) ?_
                repeat (go_big_quiet_step ((first | (first | (go_at_call 82; with_reducible exact CWD _) | (go_at_call 124; with_reducible exact CSM _)))))
                refine wpQuiet_nil ?_
                intro X hX
                have HSX := Lib.hid ((KS2.out.step hX).sel [1] (by decide) rfl)
                clear hX
                go_wp2
                go_roundg (n0 - (k + 1))
                case measure => omega
                case rel => exact ⟨k + 1, by omega, by omega, by go_num, HUN.out, HSX.out⟩
    · obtain rfl : k = n0 := by omega
      have fc : ¬ ((k : Nat) : Int) < (k : Nat) := by omega
      have d0 := HS.out.cell (k := 0) 0 rfl rfl
      have d1 := HS.out.cell (k := 1) 0 rfl rfl
      have HB2 := Lib.hid HS.out.bel0
      by_cases h8 : k ≤ 8
      · have h8' : ((k : Int) ≤ 8) := by omega
        obtain ⟨inb, hin⟩ : ∃ b, Pl.isIn o 0 1000 = b := ⟨_, rfl⟩
        have HIN := Lib.hid hin
        go_wp2_with (go_at_call 68; refine (l1In_isJ hin _).mono ?_; rintro e w' ⟨rfl, rfl⟩)
        go_ret
        refine ⟨inb, rfl, ?_, HB2.out⟩
        rw [← HIN.out, Pl.isIn_iff]
        constructor
        · intro ho
          exact Pl.HeadOk.of (fun i x hx => HU.out i x (by have := (List.getElem?_eq_some_iff.1 hx).1; have := HN0.out; omega) hx) (by have := HN0.out; omega) (by rw [HO.out]; exact ho)
        · intro hk; have := hk.off; rw [HO.out] at this; exact this
      · have h8' : ¬ ((k : Int) ≤ 8) := by omega
        have HN : Hid (¬ Pl.HeadOk h) := fun hk => h8 (by have := hk.len; have := HN0.out; omega)
        go_wp2
        go_ret
        exact BoolAns.no HN.out HB2.out
set_option maxRecDepth 100000 in
theorem l17Same_c (a b : Head) (ca cb : List Value) (w : World) (B : Nat) (ha : rHead.at_ w B a ca) (hb : rHead.at_ w B b cb) (hB : B ≤ w.heap.size) (ka : Pl.HeadOk a) (kb : Pl.HeadOk b) :
    Calls Tryz.prog 72 #[.agg ca.toArray, .agg cb.toArray] w (BoolAns (a = b) w) := by
  have HI := Lib.hid (Pl.headTxt_inj ka kb)
  have HHA := Lib.hid ha
  have HHB := Lib.hid hb
  have HKA := Lib.hid ka
  have HKB := Lib.hid kb
  obtain ⟨A0, n0, c0, rfl, -, -⟩ := rHead_at ha
  obtain ⟨A1, n1, c1, rfl, -, -⟩ := rHead_at hb
  clear ha hb ka kb
  obtain ⟨oa, hoa⟩ : ∃ o : Int, a.Offset = o := ⟨_, rfl⟩
  obtain ⟨ob, hob⟩ : ∃ o : Int, b.Offset = o := ⟨_, rfl⟩
  rw [hoa] at HHA ⊢
  rw [hob] at HHB ⊢
  obtain ⟨ga, hga⟩ : ∃ g, w.heap.size = g := ⟨_, rfl⟩
  obtain ⟨gb, hgb⟩ : ∃ g, ga + 1 = g := ⟨_, rfl⟩
  obtain ⟨W0, hW0⟩ : ∃ W, (w.alloc (.cells #[.slice A0 n0 c0, .int .i64 oa] 73)).alloc (.cells #[.slice A1 n1 c1, .int .i64 ob] 73) = W := ⟨_, rfl⟩
  have KS0 := Lib.hid ((((Mm.SepF.start w).alloc' hga 73 [.slice A0 n0 c0, .int .i64 oa]).alloc' (g := gb) (by rw [Mm.sz1, hga, hgb]) 73 [.slice A1 n1 c1, .int .i64 ob]).atW hW0)
  have b0 := KS0.out.cell (k := 0) 0 rfl rfl
  have b1 := KS0.out.cell (k := 1) 0 rfl rfl
  have a0 := KS0.out.cell (k := 0) 1 rfl rfl
  have a1 := KS0.out.cell (k := 1) 1 rfl rfl
  have HB0 := Lib.hid KS0.out.bel0
  have CA := fun z : Und W0 => und_call z (l13HeadText_c a [.slice A0 n0 c0, .int .i64 oa] (und W0 z) B (rHead.keep HHA.out fun b hb => (HB0.out.trans (below_le z.h HB0.out.size)).block b (by omega)) (Nat.le_trans hB (Nat.le_trans HB0.out.size (und_size z))) HKA.out)
  have CB := fun z : Und W0 => und_call z (l13HeadText_c b [.slice A1 n1 c1, .int .i64 ob] (und W0 z) B (rHead.keep HHB.out fun b hb => (HB0.out.trans (below_le z.h HB0.out.size)).block b (by omega)) (Nat.le_trans hB (Nat.le_trans HB0.out.size (und_size z))) HKB.out)
  obtain ⟨TA, hTA⟩ : ∃ T, Pl.headTxt a = T := ⟨_, rfl⟩
  obtain ⟨TB, hTB⟩ : ∃ T, Pl.headTxt b = T := ⟨_, rfl⟩
  rw [hTA] at CA
  rw [hTB] at CB
  change ∀ z : Und W0, Calls Tryz.prog 127 #[.agg #[.slice A0 n0 c0, .int .i64 oa]] (und W0 z) _ at CA
  change ∀ z : Und W0, Calls Tryz.prog 127 #[.agg #[.slice A1 n1 c1, .int .i64 ob]] (und W0 z) _ at CB
  have HTA := Lib.hid hTA
  have HTB := Lib.hid hTB
  clear hTA hTB hoa hob
  go_enter Tryz.func72, Tryz.ntmps72
  go_wp2_with fail
  clear hga hgb hW0
  refine wp_region_und (by kernel_rfl) (by kernel_rfl) ?_
  repeat (go_big_quiet_step ((first | (first | (go_at_call 127; with_reducible exact CA _) | (go_at_call 127; with_reducible exact CB _)))))
  refine wpQuiet_nil ?_
  intro X hX
  have HXX := Lib.hid (below_step HB0.out hX)
  by_cases he : TA = TB
  · subst he
    go_wp2
    go_ret
    exact ⟨true, by simp, ⟨fun _ => HI.out (HTA.out.trans HTB.out.symm), fun _ => rfl⟩, HXX.out⟩
  · have he' : ¬ (TA.toList = TB.toList) := fun e => he (Pl.ba_inj e)
    have HNE : Hid (¬ a = b) := fun e => he (by rw [← HTA.out, ← HTB.out, e])
    go_wp2
    go_ret
    exact ⟨false, by simp [he'], ⟨(fun h => by cases h), fun h => absurd h HNE.out⟩, HXX.out⟩
end Go.Proofs.YtbhmdnjammnlnaaGreatDoor

namespace Go.Proofs.YtbhmdnjammnlnaaGreatDoor
open Go.RowKit
attribute [local go_sem] und_cell cha_cell World.cell?_alloc_some
theorem Tryz.infoIntK : (Tryz.prog.info? 3).map (fun i => (i.zero, i.size, i.bytes)) = some (some (.int .i64 0), 1, 8) := by kernel_rfl
def FoldAns (h : Head) (l : List Say) (w : World) (e : Ending) (w' : World) : Prop :=
  ∃ cs fp A n c fq, e = .returned (.tuple #[.agg cs.toArray, .slice A n c, .bool true]) ∧ Mm.SepF [] w w' [Mm.tow rHead (Pl.foldS h l) cs fp, Mm.tsl Mm.int 3 (Pl.foldC h l) (.slice A n c) fq]
set_option maxRecDepth 100000 in
set_option maxHeartbeats 4000000 in
theorem foldSays_c (h : Head) (cs : List Value) (l : List Say) (A : Option Addr) (n c : Nat) (w : World) (B : Nat) (hh : rHead.at_ w B h cs) (hl : Mm.SlAt rSay w B l A n c) (hB : B ≤ w.heap.size) (hw : Pl.HW h) (hok : ∀ x, x ∈ l → Pl.sayOk x = true) (ho : 0 ≤ h.Offset ∧ h.Offset + n ≤ 1000) :
    Calls Tryz.prog 93 #[.agg cs.toArray, .slice A n c] w (FoldAns h l w) := by
  obtain ⟨A0, n0, c0, rfl, r0, io⟩ := rHead_at hh
  have HL := Lib.hid hl
  have HLN : Hid (l.length = n) := hl.1
  have HOK := Lib.hid hok
  have HW := Lib.hid hw
  have ho0 := ho.1
  have ho1 := ho.2
  have R0 := Lib.hid r0
  have HBW := Lib.hid hB
  have IO := Lib.hid io
  clear hh hl hok hw ho r0 hB io
  obtain ⟨iI, qI, qI0, qI1, qI2⟩ := info_parts Tryz.infoIntK
  obtain ⟨ga, hga⟩ : ∃ g, w.heap.size = g := ⟨_, rfl⟩
  obtain ⟨gc, hgc⟩ : ∃ g, ga + 1 = g := ⟨_, rfl⟩
  obtain ⟨W0, hW0⟩ : ∃ W, (w.alloc (.cells #[.slice A0 n0 c0, .int .i64 h.Offset] 73)).alloc (.cells #[.slice none 0 0, .int .i64 0] 73) = W := ⟨_, rfl⟩
  have HS := Lib.hid ((((Mm.SepF.start w).alloc' hga 73 [.slice A0 n0 c0, .int .i64 h.Offset]).alloc' (g := gc) (by rw [Mm.sz1, hga, hgc]) 73 [.slice none 0 0, .int .i64 0]).atW hW0)
  go_enter Tryz.func93, Tryz.ntmps93
  go_upto_region 1 with fail
  clear hW0 hga hgc
  have b0 := HS.out.cell (k := 0) 1 rfl rfl
  have b1 := HS.out.cell (k := 1) 1 rfl rfl
  have hbw0 := HS.out.bel0
  have CC := cloneHead_c h [.slice A0 n0 c0, .int .i64 h.Offset] W0 B (rHead_at_mk (R0.out.keep fun b hb => hbw0.block b (by have := HBW.out; omega)) IO.out) (by have := HBW.out; have := hbw0.size; omega) HW.out
  go_upto_region 2 with (go_at_call 113; (with_reducible refine CC.mono ?_); clear CC; rintro e w5 ⟨cs1, f1, rfl, ho, hnd, hnew, hb5⟩; obtain ⟨A1, n1, c1, -, rfl, -⟩ := rHead_own ho; (have HS5 := Lib.hid (HS.out.add hb5 (t := Mm.tow rHead h [.slice A1 n1 c1, .int .i64 h.Offset] f1) ho hnd hnew)); clear ho hnd hnew hb5)
  clear b0 b1 hbw0
  obtain ⟨gp, hgp⟩ : ∃ g, w5.heap.size = g := ⟨_, rfl⟩
  obtain ⟨W6, hW6⟩ : ∃ W, w5.alloc (.cells #[.slice A1 n1 c1, .int .i64 h.Offset] 73) = W := ⟨_, rfl⟩
  have HS6 := Lib.hid (((HS5.out.alloc' hgp 73 [.slice A1 n1 c1, .int .i64 h.Offset]).atW hW6).headIn)
  rw [hW6, hgp]
  clear hW6 hgp HS HS5
  have KS := Lib.hid (HS6.out.add (Below.refl _ _) (t := Mm.tsl Mm.int 3 [] (.slice none 0 0) []) Mm.SlOwn.nil List.nodup_nil (fun b hb => by cases hb))
  go_upto_region 4 with fail
  clear HS6
  go_loopg [8, 15] n (fun gg s8 i wr => ∃ (k : Nat) (A' : Option Addr) (c' : Nat) (fq fp : List Nat), n - k ≤ gg ∧ k ≤ n ∧ s8 = .slice A' k c' ∧ i = .int .i64 k ∧ Hid (Mm.SepF [] w wr [Mm.tsl Mm.int 3 (Pl.foldC h (l.take k)) (.slice A' k c') fq, Mm.tsl rHead 73 [Pl.foldS h (l.take k)] (.slice (some ⟨gp, 0, none⟩) 1 1) fp, Mm.tblk gc 73 [.slice none 0 0, .int .i64 0]]))
  case atStart => exact ⟨0, none, 0, [], gp :: f1, Nat.le_refl _, Nat.zero_le _, rfl, rfl, KS.out.sel [0, 1, 2] (by decide) rfl⟩
  case round =>
    clear KS
    obtain ⟨k, A', c', fq, fp, hgk, hk', rfl, rfl, HS⟩ := hrel
    obtain ⟨W, rfl⟩ : ∃ W : World, W = wr := ⟨_, rfl⟩
    by_cases hlt : k < n
    · as_aux_lemma =>
      have fc : (k : Int) < (n : Nat) := by omega
      obtain ⟨x, b, off, hx, rfl, hb, hnm, ia, iv, e0, e1, e2⟩ := rSay_get (HL.out.keep (w' := W) fun b hb => HS.out.bel0.block b (by have := HBW.out; omega)) hlt
      have HNX := Lib.hid (Pl.fold_next (h := h) hx)
      have HXK := Lib.hid (HOK.out x (List.mem_of_getElem? hx))
      have HIX := Lib.hid (And.intro hnm (And.intro ia iv))
      clear hx hnm ia iv
      go_upto_region 6 with fail
      obtain ⟨gn, hgn⟩ : ∃ g, W.heap.size = g := ⟨_, rfl⟩
      obtain ⟨W1, hW1⟩ : ∃ V, W.alloc (.cells #[.string x.Name, .int .i64 x.At, .int .i64 x.Value] 55) = V := ⟨_, rfl⟩
      have HS1 := Lib.hid ((HS.out.alloc' hgn 55 [.string x.Name, .int .i64 x.At, .int .i64 x.Value]).atW hW1)
      rw [hW1, hgn]
      clear hW1 e0 e1 e2 HS hgn
      obtain ⟨fk, hfk⟩ : ∃ fk, Pl.foldS h (l.take k) = fk := ⟨_, rfl⟩
      have hof : fk.Offset = h.Offset + k := by rw [← hfk, Pl.foldS_off, List.length_take]; have := HLN.out; congr 1; omega
      have HFW : Hid (Pl.HW fk) := Lib.hid (by rw [← hfk]; exact HW.out.fold _)
      have HFK := Lib.hid hfk
      rw [hfk] at HS1 HNX
      obtain ⟨of, hofe⟩ : ∃ of, fk.Offset = of := ⟨_, rfl⟩
      have hof1 : 0 ≤ of ∧ of < 1000 := by rw [← hofe, hof]; omega
      have HOF := Lib.hid hofe
      have q0 := HS1.out.cell (k := 0) 0 rfl rfl
      have q1 := HS1.out.cell (k := 1) 0 rfl rfl
      have q2 := HS1.out.cell (k := 2) 0 rfl rfl
      have CI := isSay_c x W1 HIX.out.1
      rw [HXK.out] at CI
      have g1 : (of == 1000) = false := by rw [beq_eq_false_iff_ne]; omega
      clear hfk hof hofe
      go_upto_region 8 with (go_at_call 92; (with_reducible refine CI.mono ?_); clear CI; rintro e w2 ⟨rfl, hb2⟩; (have HS2 := Lib.hid (HS1.out.step hb2)); obtain ⟨_, _, _, _, -, o1, -, -, -, -, -, -, -⟩ := HS2.out.headRows 2 rfl (k := 0) rfl; rw [Nat.zero_mul, Nat.zero_add, HOF.out] at o1; clear hb2 q0 q1 q2; (have q0 := HS2.out.cell (k := 0) 0 rfl rfl); (have q1 := HS2.out.cell (k := 1) 0 rfl rfl); (have q2 := HS2.out.cell (k := 2) 0 rfl rfl))
      clear o1 HS1
      have CT := take_c x [fk] gp 1 1 0 fp fk w2 (HS2.out.sl 2 rfl) (HS2.out.ndat (i := 2) rfl) ⟨rfl, HFW.out, by rw [HOF.out]; omega, by omega, HIX.out.1, HIX.out.2.1, HIX.out.2.2⟩
      rw [Nat.zero_mul] at CT
      have HCD := Lib.hid (Pl.takeS_code fk x)
      have HCI : Hid (Mm.I64 (Pl.takeS fk x).2) := Lib.hid (by have := HCD.out; unfold Mm.I64; omega)
      have HCL : Hid ((Pl.foldC h (l.take k)).length = k) := Lib.hid (by rw [Pl.foldC_len, List.length_take]; have := HLN.out; omega)
      obtain ⟨cd, hcd⟩ : ∃ cd, (Pl.takeS fk x).2 = cd := ⟨_, rfl⟩
      unfold TakeAns at CT
      rw [hcd] at CT HCI HNX
      clear hcd
      go_wp2_with first
        | (go_at_call 139; (with_reducible refine CT.mono ?_); clear CT; rintro e w3 ⟨rfl, fp3, hS⟩; (have HS3 := Lib.hid (HS2.out.call 2 rfl hS.left)); clear hS)
        | (at_builtin; refine Mm.app_list (x := cd) HS3.out 1 rfl rfl (.tmp 28) (.tmp 31) 133 rfl iI _ 8 Tryz.underlying133 qI qI0 qI1 qI2 rfl (by decide) rfl rfl (fun W => ⟨rfl, HCI.out, rfl⟩) HCL.out (by unfold maxLen; omega) (by omega) ?_; intro g cap w' fp' hs; (have HS4 := Lib.hid hs); clear hs)
      go_roundg (n - (k + 1))
      case measure => omega
      case rel => exact ⟨k + 1, _, cap, fp', fp3, Nat.le_refl _, by omega, rfl, by go_num, by rw [HNX.out.1, HNX.out.2]; exact HS4.out.sel [1, 2, 3] (by decide) rfl⟩
    · as_aux_lemma =>
      obtain rfl : k = n := by omega
      have HE : Hid (l.take k = l) := Lib.hid (List.take_of_length_le (by have := HLN.out; omega))
      rw [HE.out] at HS
      have fc : ¬ ((k : Nat) : Int) < (k : Nat) := by omega
      have HS1 := Lib.hid (HS.out.sel [1, 0, 2] (by decide) rfl)
      obtain ⟨A2, n2, c2, f2, hS2⟩ := HS1.out.headOut
      have HS2 := Lib.hid hS2
      clear hS2 HS HS1
      have b0 := HS2.out.cell (k := 0) 0 rfl rfl
      have b1 := HS2.out.cell (k := 1) 0 rfl rfl
      have o0 := HS2.out.cell (k := 0) 3 rfl rfl
      have o1 := HS2.out.cell (k := 1) 3 rfl rfl
      have z0 := HS2.out.frz (k := 0) 3 rfl
      have z1 := HS2.out.frz (k := 1) 3 rfl
      obtain ⟨of, hofe⟩ : ∃ of, (Pl.foldS h l).Offset = of := ⟨_, rfl⟩
      have HOF := Lib.hid hofe
      have HSF := Lib.hid ((HS2.out.setBlk (k := 0) 3 rfl (.slice A2 n2 c2)).setBlk (k := 1) 3 rfl (.int .i64 (Pl.foldS h l).Offset))
      rw [hofe] at b1 HSF
      have u0 := HSF.out.cell (k := 0) 3 rfl rfl
      have u1 := HSF.out.cell (k := 1) 3 rfl rfl
      clear hofe
      go_wp2
      exact bodyPost_ret (v := .tuple #[.agg #[.slice A2 n2 c2, .int .i64 of], .slice A' k c', .bool true]) (by simp [results, Tryz.results93, go_sem, u0, u1]) rfl ⟨_, f2, A', k, c', fq, rfl, HSF.out.sel [1, 2] (by decide) rfl⟩
end Go.Proofs.YtbhmdnjammnlnaaGreatDoor

namespace Go.Proofs.YtbhmdnjammnlnaaGreatDoor
open Go.RowKit
attribute [local go_sem] und_cell cha_cell World.cell?_alloc_some
theorem Tryz.infoSayK : (Tryz.prog.info? 55).map (fun i => (i.zero, i.size, i.bytes)) = some (some (.agg #[.string ByteArray.empty, .int .i64 0, .int .i64 0]), 3, 32) := by kernel_rfl
theorem zHead_at {w : World} {B : Nat} : rHead.at_ w B ⟨[], 0⟩ [.slice none 0 0, .int .i64 0] := by
  have h := rHead_at_mk (w := w) (B := B) (x := ⟨[], 0⟩) (A := none) (n := 0) (c := 0) (Mm.SlAt.nil (Nat.zero_le _) (fun _ => rfl)) (by constructor <;> (dsimp only; omega))
  exact h
end Go.Proofs.YtbhmdnjammnlnaaGreatDoor

namespace Go.Proofs.YtbhmdnjammnlnaaGreatDoor
open Go.RowKit
attribute [local go_sem] und_cell cha_cell World.cell?_alloc_some
namespace Pl
def partN (n : Int) (s : ByteArray) : Int := hash s.data.toList % n
def InPart (n part : Int) (r : List Say) : Prop := ∀ x, x ∈ r → sayOk x = true ∧ partN n x.Name = part
def saysOf (n part : Int) (l : List ByteArray) : Option (List Say) :=
  match readAll l with
  | some r => if ∀ x, x ∈ r → partN n x.Name = part then some r else none
  | none => none
theorem saysOf_iff {n part : Int} {l : List ByteArray} {r : List Say} : saysOf n part l = some r ↔ l = r.map sayTxt ∧ InPart n part r := by
  unfold saysOf InPart
  constructor
  · intro h
    split at h
    · rename_i r' hr
      split at h
      · rename_i hp
        injection h with h
        subst h
        obtain ⟨h1, h2⟩ := readAll_iff.1 hr
        exact ⟨h1, fun x hx => ⟨h2 x hx, hp x hx⟩⟩
      · cases h
    · cases h
  · rintro ⟨h1, h2⟩
    rw [readAll_iff.2 ⟨h1, fun x hx => (h2 x hx).1⟩]
    dsimp only
    rw [if_pos (fun x hx => (h2 x hx).2)]
theorem saysOf_bad {n part : Int} {l : List ByteArray} {k : Nat} {s : ByteArray} (hs : l[k]? = some s) (h : ∀ x, readS s = some x → partN n x.Name ≠ part) : saysOf n part l = none := by
  cases hq : saysOf n part l with
  | none => rfl
  | some r =>
    obtain ⟨h1, h2⟩ := saysOf_iff.1 hq
    rw [h1, List.getElem?_map] at hs
    obtain ⟨x, hx, hxs⟩ := Option.map_eq_some_iff.1 hs
    have := h2 x (List.mem_of_getElem? hx)
    exact absurd this.2 (h x (readS_iff.2 ⟨this.1, hxs⟩))
theorem rec_size {s : ByteArray} {x : ByteArray} (h : x ∈ records s) : x.size ≤ 20 := by
  unfold records at h
  obtain ⟨p, hp, rfl⟩ := List.mem_map.1 h
  rw [recTxt_len hp]
  exact (recs_bound hp).2
theorem lRecs_size {ps : List Piece} {x : ByteArray} (h : x ∈ lRecs ps) : x.size ≤ 20 := by
  unfold lRecs at h
  obtain ⟨p, -, hx⟩ := List.mem_flatMap.1 h
  exact rec_size hx
end Pl
def SaysAns (o : Option (List Say)) (w : World) (e : Ending) (w' : World) : Prop :=
  match o with
  | some r => ∃ A n c fp, e = .returned (.tuple #[.slice A n c, .bool true]) ∧ n = r.length ∧ Mm.SepF [] w w' [Mm.tsl rSay 55 r (.slice A n c) fp]
  | none => e = .returned (.tuple #[.slice none 0 0, .bool false]) ∧ Below w.heap.size w w'
set_option maxRecDepth 100000 in
set_option maxHeartbeats 4000000 in
theorem saysIn_c (g : Log) (part np : Int) (cs : List Value) (w : World) (B Bt : Nat) (hg : rLog.at_ w B g cs) (hB : B ≤ w.heap.size) (hok : Pl.LogOk g) (hnp : 1 ≤ np ∧ np ≤ 3) (ht : Tab Bt w) :
    Calls Tryz.prog 131 #[.agg cs.toArray, .int .i64 part, .int .i64 np] w (SaysAns (Pl.saysOf np part (Pl.lRecs g.Pieces)) w) := by
  obtain ⟨A0, n0, c0, rfl, r0, io⟩ := rLog_at hg
  have hn20 : n0 ≤ 20 := by have := hok.len.2; have := r0.1; omega
  have HSZ := Lib.hid hok.sizes
  have hml : (Pl.lRecs g.Pieces).length ≤ 60 := hok.sum
  have hr20 : ∀ s, s ∈ Pl.lRecs g.Pieces → s.size ≤ 20 := fun s hs => Pl.lRecs_size hs
  have R0 := Lib.hid r0
  have HT := Lib.hid ht
  obtain ⟨RL, hRL⟩ : ∃ l, Pl.lRecs g.Pieces = l := ⟨_, rfl⟩
  rw [hRL] at hml hr20 ⊢
  have HRL := Lib.hid hRL
  clear hg r0 hRL ht
  obtain ⟨bg, hbg⟩ : ∃ b : Int, g.Begin = b := ⟨_, rfl⟩
  rw [hbg] at io ⊢
  clear hbg
  obtain ⟨hnp1, hnp2⟩ := hnp
  obtain ⟨ga, hga⟩ : ∃ g, w.heap.size = g := ⟨_, rfl⟩
  obtain ⟨W0, hW0⟩ : ∃ W, w.alloc (.cells #[.slice A0 n0 c0, .int .i64 bg] 80) = W := ⟨_, rfl⟩
  have KS0 := Lib.hid (((Mm.SepF.start w).alloc' hga 80 [.slice A0 n0 c0, .int .i64 bg]).atW hW0)
  have d0 := KS0.out.cell (k := 0) 0 rfl rfl
  have d1 := KS0.out.cell (k := 1) 0 rfl rfl
  have CL := logAll_c g.Pieces bg A0 n0 c0 W0 B (R0.out.keep fun b hb => KS0.out.bel0.block b (by omega)) (by have := KS0.out.bel0.size; omega) hn20 HSZ.out
  rw [HRL.out] at CL
  go_enter Tryz.func131, Tryz.ntmps131
  go_wp2_with fail
  refine CL.mono ?_
  rintro e w1 ⟨A5, m5, c5, f5, rfl, hm5, hs5⟩
  obtain ⟨W1, rfl⟩ : ∃ W : World, W = w1 := ⟨_, rfl⟩
  have KSL := Lib.hid ((KS0.out.join hs5).sel [0] (by decide) rfl)
  clear CL d0 d1 hs5 KS0 hW0 hga HRL
  rw [← hm5] at hml
  have HQ : Hid (m5 = RL.length) := hm5
  clear hm5
  go_upto_region 3 with fail
  obtain ⟨iP, qP, qP0, qP1, qP2⟩ := info_parts Tryz.infoSayK
  have HR20 : Hid (∀ s, s ∈ RL → s.size ≤ 20) := hr20
  have hm60 : m5 ≤ 60 := hml
  clear hr20 hml
  go_loopg [8, 16] m5 (fun gg o_ i_ wr => ∃ (k : Nat) (A' : Option Addr) (c' : Nat) (fq : List Nat), m5 - k ≤ gg ∧ k ≤ m5 ∧ i_ = .int .i64 (k : Nat) ∧ o_ = .slice A' k c' ∧ Hid (∃ done : List Say, done.length = k ∧ RL.take k = done.map Pl.sayTxt ∧ Pl.InPart np part done ∧ Mm.SepF [] w wr [Mm.tsl rSay 55 done (.slice A' k c') fq, Mm.tsl Mm.str 9 RL (.slice A5 m5 c5) f5]))
  case atStart => exact ⟨0, none, 0, [], by omega, by omega, rfl, rfl, [], rfl, rfl, (fun x hx => by cases hx), KSL.out.add (Below.refl _ _) Mm.SlOwn.nil List.nodup_nil (fun b hb => by cases hb)⟩
  case round =>
    clear KSL
    obtain ⟨k, A', c', fq, hgk, hk, rfl, rfl, HSE⟩ := hrel
    obtain ⟨W, rfl⟩ : ∃ W : World, W = wr := ⟨_, rfl⟩
    obtain ⟨done, hdl, hdt, hdp, hS⟩ := HSE.out
    have HD := Lib.hid (And.intro hdl (And.intro hdt hdp))
    have HS := Lib.hid hS
    clear hdl hdt hdp hS HSE
    by_cases hlt : k < m5
    · have fc : (k : Int) < (m5 : Nat) := by omega
      obtain ⟨s, bb, off, cs0, hs, hA, -, hat, hc⟩ := (HS.out.rdSl 1 rfl).get hlt
      subst hA
      obtain ⟨rfl, -⟩ := hat
      have c0 := hc 0 _ rfl
      rw [show off + k * Mm.str.size + 0 = off + k from by show off + k * 1 + 0 = _; omega] at c0
      have HSX := Lib.hid hs
      have hs20 := HR20.out s (List.mem_of_getElem? hs)
      have CR := (readSay_c s hs20 Bt W (HT.out.on HS.out.bel0))
      clear hc hs
      go_wp2_with fail
      refine CR.mono ?_
      rintro e w1 ⟨x, ok, rfl, hb1, hxi, hrd⟩
      obtain ⟨W1, rfl⟩ : ∃ W : World, W = w1 := ⟨_, rfl⟩
      have KS1 := Lib.hid (HS.out.step hb1)
      have HXI := Lib.hid hxi
      have HRD := Lib.hid hrd
      clear CR c0 hb1 hxi hrd HS
      obtain ⟨gx, hgx⟩ : ∃ g, W1.heap.size = g := ⟨_, rfl⟩
      obtain ⟨W2, hW2⟩ : ∃ W, W1.alloc (.cells #[.string x.Name, .int .i64 x.At, .int .i64 x.Value] 55) = W := ⟨_, rfl⟩
      have KS2 := Lib.hid ((KS1.out.alloc' hgx 55 [.string x.Name, .int .i64 x.At, .int .i64 x.Value]).atW hW2)
      go_upto_region 6 with fail
      clear hW2 hgx KS1
      have q0 := KS2.out.cell (k := 0) 0 rfl rfl
      have q1 := KS2.out.cell (k := 1) 0 rfl rfl
      have q2 := KS2.out.cell (k := 2) 0 rfl rfl
      cases ok with
      | false =>
        have HN : Hid (Pl.saysOf np part RL = none) := Pl.saysOf_bad HSX.out fun y hy => by have := HRD.out; rw [hy] at this; simp at this
        have HBN := Lib.hid KS2.out.bel0
        go_wp2
        go_ret2
        rw [HN.out]
        exact ⟨rfl, HBN.out⟩
      | true =>
        have HRX : Hid (Pl.readS s = some x) := HRD.out.trans (if_pos (by simp))
        have hxn : x.Name.size ≤ maxLen := HXI.out.1
        have CH := hashText_c x.Name W2 hxn
        have hh := Pl.hash_bd x.Name.data.toList
        have HPN : Hid (Pl.partN np x.Name = Pl.hash x.Name.data.toList % np) := rfl
        obtain ⟨hv, hhv⟩ : ∃ v, Pl.hash x.Name.data.toList = v := ⟨_, rfl⟩
        rw [hhv] at CH hh HPN
        obtain ⟨hh1, hh2⟩ := hh
        have htm : hv.tmod np = hv % np := Int.tmod_eq_emod_of_nonneg hh1
        obtain ⟨pv, hpv⟩ : ∃ v, hv % np = v := ⟨_, rfl⟩
        rw [hpv] at htm HPN
        clear hhv hpv hxn
        by_cases hp : pv = part
        · have hp' : (pv != part) = false := by simp [hp]
          have HPP : Hid (Pl.partN np x.Name = part) := HPN.out.trans hp
          clear hp
          go_upto_region 8 with (go_at_call 86; (with_reducible refine CH.mono ?_); clear CH; rintro e w3 ⟨rfl, rfl⟩)
          have hdl := HD.out.1
          go_wp2_with (at_builtin; refine Mm.app_list (x := x) KS2.out 1 rfl rfl (.tmp 36) (.tmp 38) 109 rfl iP _ 32 Tryz.underlying109 qP qP0 qP1 qP2 rfl (by decide) rfl rfl (fun W => (rSay_own_mk (x := x) HXI.out)) hdl (by unfold maxLen; omega) (by omega) ?_; intro g cap w' fp' hs; (have HS4 := Lib.hid hs); clear hs)
          go_roundg (m5 - (k + 1))
          case measure => omega
          case rel => exact ⟨k + 1, _, cap, fp', Nat.le_refl _, by omega, by go_num, rfl, done ++ [x], by rw [List.length_append, HD.out.1]; rfl, by rw [List.take_add_one, HSX.out, HD.out.2.1, List.map_append]; show _ = _ ++ [_]; rw [(Pl.readS_is HRX.out).2]; rfl, fun y hy => by
            rcases List.mem_append.1 hy with hy | hy
            · exact HD.out.2.2 y hy
            · rw [List.mem_singleton] at hy
              subst hy
              exact ⟨(Pl.readS_is HRX.out).1, HPP.out⟩, HS4.out.sel [1, 2] (by decide) rfl⟩
        · have hp' : (pv != part) = true := by simpa using hp
          have HN : Hid (Pl.saysOf np part RL = none) := Pl.saysOf_bad HSX.out fun y hy => by
            have := HRX.out.symm.trans hy
            injection this with this
            subst this
            rw [HPN.out]; exact hp
          have HBN := Lib.hid KS2.out.bel0
          clear hp
          go_wp2_with (go_at_call 86; (with_reducible refine CH.mono ?_); clear CH; rintro e w3 ⟨rfl, rfl⟩)
          go_ret2
          rw [HN.out]
          exact ⟨rfl, HBN.out⟩
    · obtain rfl : k = m5 := by omega
      have fc : ¬ ((k : Nat) : Int) < (k : Nat) := by omega
      have HY : Hid (Pl.saysOf np part RL = some done) := Pl.saysOf_iff.2 ⟨by rw [← HD.out.2.1, List.take_of_length_le (by have := HQ.out; omega)], HD.out.2.2⟩
      go_wp2
      go_ret2
      rw [HY.out]
      exact ⟨A', k, c', fq, rfl, HD.out.1.symm, HS.out.sel [0] (by decide) rfl⟩
end Go.Proofs.YtbhmdnjammnlnaaGreatDoor

namespace Go.Proofs.YtbhmdnjammnlnaaGreatDoor
open Go.RowKit
attribute [local go_sem] und_cell cha_cell World.cell?_alloc_some
namespace Pl
def manyP (p : Piece) : Int := if pieceOk p = true then ((records p.Bytes).length : Int) else -1
theorem starts_len (s : ByteArray) : (starts s).length = (records s).length := by unfold starts records; rw [List.length_map, List.length_map]
theorem recs_records (s : ByteArray) : (recs s).length = (records s).length := by unfold records; rw [List.length_map]
theorem endF_le (s : ByteArray) : ∀ f k, k ≤ s.size → endF s f k ≤ s.size
  | 0, _, h => h
  | f + 1, k, h => by
    unfold endF
    split
    · rename_i n hn
      exact endF_le s f _ (recLen_le hn).1
    · exact h
theorem whole_le (s : ByteArray) : whole s ≤ s.size := endF_le s _ 0 (Nat.zero_le _)
theorem manyP_bd (p : Piece) : -1 ≤ manyP p ∧ manyP p ≤ 60 := by
  unfold manyP
  split
  · rename_i h
    have h1 := pieceOk_size h
    have h2 := records_len p.Bytes
    omega
  · omega
end Pl
set_option maxRecDepth 100000 in
set_option maxHeartbeats 2000000 in
theorem l6Many_c (p : Piece) (cs : List Value) (w : World) (B : Nat) (hp : rPiece.at_ w B p cs) (hB : B ≤ w.heap.size) (hs : p.Bytes.size ≤ 2000000) :
    Calls Tryz.prog 123 #[.agg cs.toArray] w fun e w' => e = .returned (.int .i64 (Pl.manyP p)) ∧ Below w.heap.size w w' := by
  obtain ⟨A, n, c, rfl, g0, g1, hr⟩ := rPiece_at hp
  obtain ⟨fr, s, l⟩ := p
  dsimp only at g0 g1 hr hs ⊢
  have HR := Lib.hid hr
  clear hr hp
  obtain ⟨ga, hga⟩ : ∃ g, w.heap.size = g := ⟨_, rfl⟩
  obtain ⟨W0, hW0⟩ : ∃ W, w.alloc (.cells #[.int .i64 fr, .string s, .slice A n c] 164) = W := ⟨_, rfl⟩
  have KS0 := Lib.hid (((Mm.SepF.start w).alloc' hga 164 [.int .i64 fr, .string s, .slice A n c]).atW hW0)
  have d1 := KS0.out.cell (k := 1) 0 rfl rfl
  have CS := l6Starts_c s hs W0
  go_enter Tryz.func123, Tryz.ntmps123
  go_wp2_with fail
  refine CS.mono ?_
  rintro e w1 ⟨A1, n1, c1, f1, rfl, hn1, hs1⟩
  obtain ⟨W1, rfl⟩ : ∃ W : World, W = w1 := ⟨_, rfl⟩
  have KS1 := Lib.hid (KS0.out.join hs1)
  have HN1 : Hid (n1 = (Pl.records s).length) := hn1.trans (Pl.recs_records s)
  have hn1b : n1 ≤ 2000000 := by have := Pl.recs_len s; omega
  clear CS d1 hs1 hn1 KS0 hW0 hga
  have d1 := KS1.out.cell (k := 1) 1 rfl rfl
  have d2 := KS1.out.cell (k := 2) 1 rfl rfl
  have HBX := Lib.hid KS1.out.bel0
  by_cases h60 : s.size ≤ 60
  · have h60' : decide ((60 : Int) < ((s.size : Nat) : Int)) = false := decide_eq_false (by omega)
    have h60n : decide (60 < s.size) = false := decide_eq_false (by omega)
    by_cases hw : Pl.whole s < s.size
    · have hw' : decide (((Pl.whole s : Nat) : Int) < ((s.size : Nat) : Int)) = true := decide_eq_true (by omega)
      have hwn : decide (Pl.whole s < s.size) = true := decide_eq_true hw
      have HF : Hid (Pl.manyP ⟨fr, s, l⟩ = -1) := by
        show _ = _
        unfold Pl.manyP Pl.pieceOk
        rw [decide_eq_false (show ¬ Pl.whole s = s.size by omega)]
        simp
      clear h60 hw
      go_wp2_with fail
      refine wp_region_und (by kernel_rfl) (by kernel_rfl) ?_
      repeat (go_big_quiet_step ((first | fail)))
      refine wpQuiet_nil ?_
      intro X hX
      have HXX := Lib.hid (below_step HBX.out hX)
      clear hX
      go_wp2
      go_ret
      exact ⟨by rw [HF.out]; rfl, HXX.out⟩
    · have hwl : Pl.whole s ≤ s.size := Pl.whole_le s
      have hw' : decide (((Pl.whole s : Nat) : Int) < ((s.size : Nat) : Int)) = false := decide_eq_false (by omega)
      have hwn : decide (Pl.whole s < s.size) = false := decide_eq_false hw
      have HF : Hid (Pl.manyP ⟨fr, s, l⟩ = if decide (l = Pl.idx3 (Pl.starts s)) = true then ((Pl.records s).length : Int) else -1) := by
        show _ = _
        unfold Pl.manyP Pl.pieceOk
        rw [decide_eq_true (show s.size ≤ 60 from h60), decide_eq_true (show Pl.whole s = s.size by omega)]
        simp
      clear h60 hw hwl
      obtain ⟨bq, hbq⟩ : ∃ b, decide (l = Pl.idx3 (Pl.starts s)) = b := ⟨_, rfl⟩
      rw [hbq] at HF
      have HBQ := Lib.hid hbq
      clear hbq
      go_wp2_with fail
      refine Mm.wp_region_give_all (fun i => match i with | 15 => some (Mm.gSl Mm.int 3 (Pl.idx3 (Pl.starts s))) | 16 => some (Mm.gVal (.bool bq)) | _ => none) (fun i => match i with | 16 => [15] | _ => []) (fun _ => []) (F := []) (D := fun w' => ∃ z : Und W1, w' = und W1 z) (fun X us h => Mm.sep_und h) (by kernel_rfl) (by kernel_rfl) (by kernel_rfl) (Mm.SepF.startDrew _) ?_
      repeat (refine Mm.give_det (by rfl) (by rfl) (by rfl) (fun K hK => ?_); go_big_quiet_op; refine hK _ ?_; clear hK K)
      refine Mm.give_op0 26 (by rfl) rfl (by rfl) (by rfl) (by rfl) (by rfl) Mm.gSl_in (fun others X hX => ?_) ?_
      · go_wp2_with (go_at_call 164; refine (l6Index_c (Pl.starts s) A1 n1 c1 X W1.heap.size ((KS1.out.rdSl 0 rfl).keep fun b hb => hX.bel0.block b hb) hX.chg.size hn1b).mono ?_; rintro e w5 ⟨A5, n5, c5, f5, rfl, hn5, hs5⟩; (have HN5 := Lib.hid hn5); clear hn5)
        exact ⟨rfl, rfl, _, ⟨A5, n5, c5, f5, rfl, rfl, HN5⟩, hX.join hs5⟩
      rintro v ds ⟨A5, n5, c5, f5, rfl, rfl, hn5⟩
      simp only [Act.put, List.setIfInBounds_toArray, List.set_cons_succ, List.set_cons_zero]
      repeat (refine Mm.give_det (by rfl) (by rfl) (by rfl) (fun K hK => ?_); go_big_quiet_op; refine hK _ ?_; clear hK K)
      refine Mm.give_op1 27 15 (by rfl) rfl (by rfl) (by rfl) (by rfl) rfl (by rfl) _ rfl Mm.gVal_in (fun others X hX => ?_) ?_
      · have hl1 := (hX.sl 0 rfl).weak (hX.sl 0 rfl).olt
        have hl2 := (HR.out.keep fun b hb => (hX.bel0.block b (Nat.lt_of_lt_of_le (Nat.lt_of_lt_of_le hb hB) HBX.out.size)).trans (HBX.out.block b (Nat.lt_of_lt_of_le hb hB))).more (B' := X.heap.size) (by have := hX.chg.size; have := HBX.out.size; omega)
        go_wp2_with (go_at_call 163; refine (l1SameJ_c _ _ _ _ _ _ _ _ X X.heap.size hl2 hl1 (Nat.le_refl _)).mono ?_; rintro e w5 ⟨rfl, hb5⟩)
        rw [HBQ.out]
        exact Mm.gvq_val hX.tail hb5 rfl rfl
      rintro v ds ⟨rfl, rfl⟩
      simp only [Act.put, List.setIfInBounds_toArray, List.set_cons_succ, List.set_cons_zero]
      repeat (refine Mm.give_det (by rfl) (by rfl) (by rfl) (fun K hK => ?_); go_big_quiet_op; refine hK _ ?_; clear hK K)
      refine Mm.give_nil ?_
      rintro X hX
      have HXX := Lib.hid (below_step HBX.out hX.bel0)
      clear hX
      cases bq with
      | false =>
        go_wp2
        go_ret
        exact ⟨by rw [HF.out]; simp, HXX.out⟩
      | true =>
        go_wp2
        go_ret
        exact ⟨by rw [HF.out, ← HN1.out]; simp, HXX.out⟩
  · have h60' : decide ((60 : Int) < ((s.size : Nat) : Int)) = true := decide_eq_true (by omega)
    have h60n : decide (60 < s.size) = true := decide_eq_true (by omega)
    have HF : Hid (Pl.manyP ⟨fr, s, l⟩ = -1) := by
      show _ = _
      unfold Pl.manyP Pl.pieceOk
      rw [decide_eq_false h60]
      simp
    clear h60
    go_wp2_with fail
    refine wp_region_und (by kernel_rfl) (by kernel_rfl) ?_
    repeat (go_big_quiet_step ((first | fail)))
    refine wpQuiet_nil ?_
    intro X hX
    have HXX := Lib.hid (below_step HBX.out hX)
    clear hX
    go_wp2
    go_ret
    exact ⟨by rw [HF.out]; rfl, HXX.out⟩
def Pl.LogOkR (g : Log) : Prop := Pl.LogOk g ∧ ∀ p, g.Pieces[0]? = some p → g.Begin ≤ p.From + ((Pl.records p.Bytes).length : Int)
theorem Pl.manyP_yes {p : Piece} (h : Pl.pieceOk p = true) : Pl.manyP p = ((Pl.records p.Bytes).length : Int) := if_pos h
theorem Pl.manyP_no {p : Piece} (h : Pl.pieceOk p = false) : Pl.manyP p = -1 := if_neg (by rw [h]; simp)
set_option maxRecDepth 100000 in
set_option maxHeartbeats 4000000 in
theorem goodLog_c (g : Log) (cs : List Value) (w : World) (B : Nat) (hg : rLog.at_ w B g cs) (hB : B ≤ w.heap.size) (hsz : ∀ p, p ∈ g.Pieces → p.Bytes.size ≤ 2000000) :
    Calls Tryz.prog 69 #[.agg cs.toArray] w (BoolAns (Pl.LogOkR g) w) := by
  obtain ⟨A, n, c, rfl, hr, hbg⟩ := rLog_at hg
  obtain ⟨ps, bg⟩ := g
  dsimp only at hr hbg hsz ⊢
  have HR0 := Lib.hid hr
  have HSZ := Lib.hid hsz
  have HLEN : Hid (ps.length = n) := hr.1
  have hnm : n ≤ maxLen := Nat.le_trans hr.2.1 hr.2.2.1
  unfold maxLen at hnm
  unfold Mm.I64 at hbg
  clear hr hg hsz
  obtain ⟨ga, hga⟩ : ∃ g, w.heap.size = g := ⟨_, rfl⟩
  obtain ⟨W0, hW0⟩ : ∃ W, w.alloc (.cells #[.slice A n c, .int .i64 bg] 80) = W := ⟨_, rfl⟩
  have KS0 := Lib.hid (((Mm.SepF.start w).alloc' hga 80 [.slice A n c, .int .i64 bg]).atW hW0)
  have d0 := KS0.out.cell (k := 0) 0 rfl rfl
  have d1 := KS0.out.cell (k := 1) 0 rfl rfl
  have HBL := Lib.hid KS0.out.bel0
  go_enter Tryz.func69, Tryz.ntmps69
  by_cases hn1 : 1 ≤ n ∧ n ≤ 20
  · obtain ⟨hn1, hn20⟩ := hn1
    have hw0 := HR0.out.keep (w' := W0) fun b hb => HBL.out.block b (by omega)
    obtain ⟨p0, b, off, cs, hp0, hA, hb, hat, hcell⟩ := hw0.get (k := 0) (by omega)
    obtain ⟨A', n', c', rfl, g0, g1, g2⟩ := rPiece_at hat
    have c0 := hcell 0 _ rfl
    rw [show off + 0 * rPiece.size + 0 = off by omega] at c0
    subst hA
    have HF0 : Hid (Pl.from0 ps = p0.From) := Pl.from0_get hp0
    have HP0 : Hid (ps[0]? = some p0) := hp0
    obtain ⟨f0, hf0⟩ : ∃ f0, p0.From = f0 := ⟨_, rfl⟩
    have HFF := Lib.hid hf0
    rw [hf0] at c0 HF0
    clear hcell hat hw0 g0 g1 g2 hp0 hf0
    have hin : Pl.isIn (n : Int) 1 20 = true := by unfold Pl.isIn; simp; omega
    by_cases hf : 0 ≤ f0 ∧ f0 ≤ 100000
    · have hin2 : Pl.isIn f0 0 100000 = true := by unfold Pl.isIn; simp; exact hf
      obtain ⟨hf1, hf2⟩ := hf
      go_upto_region 5 with (first | (go_at_call 68; (with_reducible refine (l1In_isJ hin _).mono ?_); rintro e w' ⟨rfl, rfl⟩) | (go_at_call 68; (with_reducible refine (l1In_isJ hin2 _).mono ?_); rintro e w' ⟨rfl, rfl⟩))
      clear d0 d1 c0 hin hin2 HBL hW0 hga
      have HWB : Hid (B ≤ w.heap.size) := hB
      go_loopg [3, 29] n (fun g fr i wr => ∃ (k m : Nat), n - k ≤ g ∧ k ≤ n ∧ i = .int .i64 (k : Nat) ∧ fr = .int .i64 (f0 + (m : Int)) ∧ m ≤ 60 * k ∧ Hid (m = (Pl.lRecs (ps.take k)).length ∧ (∀ (i : Nat) (p : Piece), i < k → ps[i]? = some p → Pl.PcOk ps i p) ∧ (0 < k → f0 ≤ bg ∧ bg ≤ f0 + ((Pl.records p0.Bytes).length : Int))) ∧ Hid (Mm.SepF [] w wr [Mm.tblk ga 80 [.slice (some ⟨b, off, none⟩) n c, .int .i64 bg]]))
      case atStart => exact ⟨0, 0, by omega, by omega, rfl, by go_num, by omega, ⟨rfl, (fun i p hi => absurd hi (by omega)), fun h => absurd h (by omega)⟩, KS0.out⟩
      case round =>
        clear KS0
        obtain ⟨k, m, hgk, hk, rfl, rfl, hm, HM, HS⟩ := hrel
        obtain ⟨W, rfl⟩ : ∃ W : World, W = wr := ⟨_, rfl⟩
        by_cases hlt : k < n
        · have fc : (k : Int) < (n : Nat) := by omega
          obtain ⟨x, cs, hx, hb2, hat, hcell⟩ := (HR0.out.keep (w' := W) fun b hb => HS.out.bel0.block b (by have := HWB.out; omega)).get' hlt
          have hatk := Lib.hid hat
          obtain ⟨A', n', c', rfl, g0, g1, g2⟩ := rPiece_at hat
          have c0 := hcell 0 _ rfl
          have c1 := hcell 1 _ rfl
          have c2 := hcell 2 _ rfl
          rw [show off + k * rPiece.size + 0 = off + k * 3 from rfl] at c0
          rw [show off + k * rPiece.size + 1 = off + k * 3 + 1 from rfl] at c1
          rw [show off + k * rPiece.size + 2 = off + k * 3 + 2 from rfl] at c2
          have HX := Lib.hid hx
          have hxs := HSZ.out x (List.mem_of_getElem? hx)
          obtain ⟨xf, hxf⟩ : ∃ xf, x.From = xf := ⟨_, rfl⟩
          have HXF := Lib.hid hxf
          have g0' : Mm.I64 x.From := g0
          unfold Mm.I64 at g0'
          rw [hxf] at c0 g0' hatk
          obtain ⟨gp, hgp⟩ : ∃ g, W.heap.size = g := ⟨_, rfl⟩
          obtain ⟨W2, hW2⟩ : ∃ V, W.alloc (.cells #[.int .i64 xf, .string x.Bytes, .slice A' n' c'] 164) = V := ⟨_, rfl⟩
          have KS2 := Lib.hid ((HS.out.alloc' hgp 164 [.int .i64 xf, .string x.Bytes, .slice A' n' c']).atW hW2)
          have hb2' : Below W.heap.size W W2 := by rw [← hW2]; exact below_new (Below.refl _ _) _
          have hWB2 : B ≤ W.heap.size := by have := HWB.out; have := HS.out.bel0.size; omega
          have CM := l6Many_c x [.int .i64 xf, .string x.Bytes, .slice A' n' c'] W2 B (rPiece.keep hatk.out fun b hb => hb2'.block b (by omega)) (by have := hb2'.size; omega) hxs
          have hmb := Pl.manyP_bd x
          obtain ⟨mv, hmv⟩ : ∃ v, Pl.manyP x = v := ⟨_, rfl⟩
          rw [hmv] at CM hmb
          have HMV := Lib.hid hmv
          obtain ⟨hmb1, hmb2⟩ := hmb
          go_upto_region 7 with fail
          clear hW2 hgp c0 c1 c2 hcell hat hx hxf g0 g1 g2 hb2' hatk HS hmv
          have q0 := KS2.out.cell (k := 0) 0 rfl rfl
          have q1 := KS2.out.cell (k := 1) 0 rfl rfl
          have q2 := KS2.out.cell (k := 2) 0 rfl rfl
          go_wp2_with fail
          refine CM.mono ?_
          rintro e w3 ⟨rfl, hb3⟩
          obtain ⟨W3, rfl⟩ : ∃ W : World, W = w3 := ⟨_, rfl⟩
          have KS3 := Lib.hid (KS2.out.step hb3)
          have HBL := Lib.hid KS3.out.bel0
          clear CM q0 q1 q2 hb3 KS2
          have q0 := KS3.out.cell (k := 0) 0 rfl rfl
          have d0 := KS3.out.cell (k := 0) 1 rfl rfl
          have d1 := KS3.out.cell (k := 1) 1 rfl rfl
          cases hpo : Pl.pieceOk x with
          | false =>
            have HNL : Hid (¬ Pl.LogOkR ⟨ps, bg⟩) := fun h => by have := (h.1.pc k x HX.out).1; rw [hpo] at this; cases this
            obtain rfl : mv = -1 := by rw [← HMV.out]; exact Pl.manyP_no hpo
            clear hpo
            go_wp2
            go_ret
            exact BoolAns.no HNL.out HBL.out
          | true =>
            obtain ⟨r, hrr⟩ : ∃ r, (Pl.records x.Bytes).length = r := ⟨_, rfl⟩
            have HR := Lib.hid hrr
            obtain rfl : mv = (r : Int) := by rw [← HMV.out, ← hrr]; exact Pl.manyP_yes hpo
            have HPO := Lib.hid hpo
            clear hpo hrr
            have hr0 : decide ((r : Int) < 0) = false := decide_eq_false (by omega)
            by_cases hfr : xf = f0 + (m : Int)
            · have hne : (xf != (f0 + (m : Int))) = false := by simpa using hfr
              have HFR := Lib.hid hfr
              clear hfr
              by_cases hl : k + 1 < n
              · have hl' : decide ((k : Int) < (n : Nat) - 1) = true := decide_eq_true (by omega)
                by_cases hr00 : r = 0
                · have hr0' : ((r : Int) == 0) = true := by simp [hr00]
                  have HNL : Hid (¬ Pl.LogOkR ⟨ps, bg⟩) := fun h => (h.1.pc k x HX.out).2.2 (by have := HLEN.out; show k + 1 < ps.length; omega) ((Pl.records_ne (Pl.pieceOk_whole HPO.out).1).1 (by rw [HR.out]; exact hr00))
                  clear hr00
                  go_wp2
                  go_ret
                  exact BoolAns.no HNL.out HBL.out
                · have hr0' : ((r : Int) == 0) = false := by simpa using hr00
                  have HPC : Hid (Pl.PcOk ps k x) := ⟨HPO.out, by rw [HXF.out, HFR.out, HM.out.1, HF0.out], fun _ e => hr00 (by rw [← HR.out]; exact (Pl.records_ne (Pl.pieceOk_whole HPO.out).1).2 e)⟩
                  clear hr00
                  have HUN : Hid (∀ (i : Nat) (p : Piece), i < k + 1 → ps[i]? = some p → Pl.PcOk ps i p) := fun i p hi hp => by
                    rcases Nat.lt_succ_iff_lt_or_eq.1 hi with h1 | rfl
                    · exact HM.out.2.1 i p h1 hp
                    · have := HX.out.symm.trans hp
                      injection this with this
                      subst this
                      exact HPC.out
                  have HMN : Hid (m + r = (Pl.lRecs (ps.take (k + 1))).length) := by
                    show _ = _
                    rw [Pl.lRecs_next HX.out, List.length_append, ← HM.out.1, HR.out]
                  have hr60 : r ≤ 60 := by have h1 := HPC.out.1; have h2 := Pl.pieceOk_size h1; have h3 := Pl.records_len x.Bytes; have := HR.out; omega
                  by_cases hk0 : k = 0
                  · subst hk0
                    have hxp : x = p0 := Option.some.inj (HX.out.symm.trans HP0.out)
                    have HXP := Lib.hid hxp
                    have hm0 : m = 0 := by omega
                    subst hm0
                    have hk0' : (((0 : Nat) : Int) == 0) = true := rfl
                    have e0 : f0 + ((0 : Nat) : Int) = f0 := by omega
                    have e1 : f0 + ((0 : Nat) : Int) + (r : Int) = f0 + (r : Int) := by omega
                    obtain ⟨ib, hib⟩ : ∃ v, Pl.isIn bg xf (f0 + (r : Int)) = v := ⟨_, rfl⟩
                    have hib2 : Pl.isIn bg xf (f0 + ((0 : Nat) : Int) + (r : Int)) = ib := by rw [e1]; exact hib
                    have HIB := Lib.hid hib
                    have hib3 : Pl.isIn bg f0 (f0 + (r : Int)) = ib := by rw [← hib]; congr 1; have := HFR.out; omega
                    have HFR2 : Hid (xf = f0) := by have := HFR.out; show _ = _; omega
                    cases ib with
                    | false =>
                      have HNL : Hid (¬ Pl.LogOkR ⟨ps, bg⟩) := fun h => by
                        have h1 := h.2 p0 HP0.out
                        have h2 := h.1.bg.1
                        rw [HFF.out, ← HXP.out, HR.out] at h1
                        rw [show (⟨ps, bg⟩ : Log).Pieces = ps from rfl, HF0.out] at h2
                        have h3 : Pl.isIn bg xf (f0 + (r : Int)) = true := Pl.isIn_iff.2 ⟨by rw [HFR2.out]; exact h2, h1⟩
                        rw [HIB.out] at h3; cases h3
                      go_wp2_with (first | (go_at_call 68; (with_reducible refine (l1In_isJ hib _).mono ?_); rintro e w' ⟨rfl, rfl⟩) | (go_at_call 68; (with_reducible refine (l1In_isJ hib2 _).mono ?_); rintro e w' ⟨rfl, rfl⟩) | (go_at_call 68; (with_reducible refine (l1In_isJ hib3 _).mono ?_); rintro e w' ⟨rfl, rfl⟩))
                      go_ret
                      exact BoolAns.no HNL.out HBL.out
                    | true =>
                      have HBB : Hid (0 < 0 + 1 → f0 ≤ bg ∧ bg ≤ f0 + ((Pl.records p0.Bytes).length : Int)) := fun _ => by
                        have h1 := Pl.isIn_iff.1 HIB.out
                        rw [HFR2.out] at h1
                        rw [← HXP.out, HR.out]; exact h1
                      go_wp2_with (first | (go_at_call 68; (with_reducible refine (l1In_isJ hib _).mono ?_); rintro e w' ⟨rfl, rfl⟩) | (go_at_call 68; (with_reducible refine (l1In_isJ hib2 _).mono ?_); rintro e w' ⟨rfl, rfl⟩) | (go_at_call 68; (with_reducible refine (l1In_isJ hib3 _).mono ?_); rintro e w' ⟨rfl, rfl⟩))
                      go_roundg (n - (0 + 1))
                      case measure => omega
                      case rel => exact ⟨0 + 1, 0 + r, Nat.le_refl _, by omega, by go_num, by go_num, by omega, ⟨HMN.out, HUN.out, HBB.out⟩, KS3.out.sel [1] (by decide) rfl⟩
                  · have hk0' : ((k : Int) == 0) = false := by simpa using hk0
                    have HBB : Hid (0 < k + 1 → f0 ≤ bg ∧ bg ≤ f0 + ((Pl.records p0.Bytes).length : Int)) := fun _ => HM.out.2.2 (by omega)
                    go_wp2
                    go_roundg (n - (k + 1))
                    case measure => omega
                    case rel => exact ⟨k + 1, m + r, Nat.le_refl _, by omega, by go_num, by go_num, by omega, ⟨HMN.out, HUN.out, HBB.out⟩, KS3.out.sel [1] (by decide) rfl⟩
              · have hl' : decide ((k : Int) < (n : Nat) - 1) = false := decide_eq_false (by omega)
                have HPC : Hid (Pl.PcOk ps k x) := ⟨HPO.out, by rw [HXF.out, HFR.out, HM.out.1, HF0.out], fun h => absurd h (by have := HLEN.out; omega)⟩
                by_cases hr00 : r = 0
                · have hr0' : ((r : Int) == 0) = true := by simp [hr00]
                  clear hr00
                  have HUN : Hid (∀ (i : Nat) (p : Piece), i < k + 1 → ps[i]? = some p → Pl.PcOk ps i p) := fun i p hi hp => by
                    rcases Nat.lt_succ_iff_lt_or_eq.1 hi with h1 | rfl
                    · exact HM.out.2.1 i p h1 hp
                    · have := HX.out.symm.trans hp
                      injection this with this
                      subst this
                      exact HPC.out
                  have HMN : Hid (m + r = (Pl.lRecs (ps.take (k + 1))).length) := by
                    show _ = _
                    rw [Pl.lRecs_next HX.out, List.length_append, ← HM.out.1, HR.out]
                  have hr60 : r ≤ 60 := by have h1 := HPC.out.1; have h2 := Pl.pieceOk_size h1; have h3 := Pl.records_len x.Bytes; have := HR.out; omega
                  by_cases hk0 : k = 0
                  · subst hk0
                    have hxp : x = p0 := Option.some.inj (HX.out.symm.trans HP0.out)
                    have HXP := Lib.hid hxp
                    have hm0 : m = 0 := by omega
                    subst hm0
                    have hk0' : (((0 : Nat) : Int) == 0) = true := rfl
                    have e0 : f0 + ((0 : Nat) : Int) = f0 := by omega
                    have e1 : f0 + ((0 : Nat) : Int) + (r : Int) = f0 + (r : Int) := by omega
                    obtain ⟨ib, hib⟩ : ∃ v, Pl.isIn bg xf (f0 + (r : Int)) = v := ⟨_, rfl⟩
                    have hib2 : Pl.isIn bg xf (f0 + ((0 : Nat) : Int) + (r : Int)) = ib := by rw [e1]; exact hib
                    have HIB := Lib.hid hib
                    have hib3 : Pl.isIn bg f0 (f0 + (r : Int)) = ib := by rw [← hib]; congr 1; have := HFR.out; omega
                    have HFR2 : Hid (xf = f0) := by have := HFR.out; show _ = _; omega
                    cases ib with
                    | false =>
                      have HNL : Hid (¬ Pl.LogOkR ⟨ps, bg⟩) := fun h => by
                        have h1 := h.2 p0 HP0.out
                        have h2 := h.1.bg.1
                        rw [HFF.out, ← HXP.out, HR.out] at h1
                        rw [show (⟨ps, bg⟩ : Log).Pieces = ps from rfl, HF0.out] at h2
                        have h3 : Pl.isIn bg xf (f0 + (r : Int)) = true := Pl.isIn_iff.2 ⟨by rw [HFR2.out]; exact h2, h1⟩
                        rw [HIB.out] at h3; cases h3
                      go_wp2_with (first | (go_at_call 68; (with_reducible refine (l1In_isJ hib _).mono ?_); rintro e w' ⟨rfl, rfl⟩) | (go_at_call 68; (with_reducible refine (l1In_isJ hib2 _).mono ?_); rintro e w' ⟨rfl, rfl⟩) | (go_at_call 68; (with_reducible refine (l1In_isJ hib3 _).mono ?_); rintro e w' ⟨rfl, rfl⟩))
                      go_ret
                      exact BoolAns.no HNL.out HBL.out
                    | true =>
                      have HBB : Hid (0 < 0 + 1 → f0 ≤ bg ∧ bg ≤ f0 + ((Pl.records p0.Bytes).length : Int)) := fun _ => by
                        have h1 := Pl.isIn_iff.1 HIB.out
                        rw [HFR2.out] at h1
                        rw [← HXP.out, HR.out]; exact h1
                      go_wp2_with (first | (go_at_call 68; (with_reducible refine (l1In_isJ hib _).mono ?_); rintro e w' ⟨rfl, rfl⟩) | (go_at_call 68; (with_reducible refine (l1In_isJ hib2 _).mono ?_); rintro e w' ⟨rfl, rfl⟩) | (go_at_call 68; (with_reducible refine (l1In_isJ hib3 _).mono ?_); rintro e w' ⟨rfl, rfl⟩))
                      go_roundg (n - (0 + 1))
                      case measure => omega
                      case rel => exact ⟨0 + 1, 0 + r, Nat.le_refl _, by omega, by go_num, by go_num, by omega, ⟨HMN.out, HUN.out, HBB.out⟩, KS3.out.sel [1] (by decide) rfl⟩
                  · have hk0' : ((k : Int) == 0) = false := by simpa using hk0
                    have HBB : Hid (0 < k + 1 → f0 ≤ bg ∧ bg ≤ f0 + ((Pl.records p0.Bytes).length : Int)) := fun _ => HM.out.2.2 (by omega)
                    go_wp2
                    go_roundg (n - (k + 1))
                    case measure => omega
                    case rel => exact ⟨k + 1, m + r, Nat.le_refl _, by omega, by go_num, by go_num, by omega, ⟨HMN.out, HUN.out, HBB.out⟩, KS3.out.sel [1] (by decide) rfl⟩
                · have hr0' : ((r : Int) == 0) = false := by simpa using hr00
                  clear hr00
                  have HUN : Hid (∀ (i : Nat) (p : Piece), i < k + 1 → ps[i]? = some p → Pl.PcOk ps i p) := fun i p hi hp => by
                    rcases Nat.lt_succ_iff_lt_or_eq.1 hi with h1 | rfl
                    · exact HM.out.2.1 i p h1 hp
                    · have := HX.out.symm.trans hp
                      injection this with this
                      subst this
                      exact HPC.out
                  have HMN : Hid (m + r = (Pl.lRecs (ps.take (k + 1))).length) := by
                    show _ = _
                    rw [Pl.lRecs_next HX.out, List.length_append, ← HM.out.1, HR.out]
                  have hr60 : r ≤ 60 := by have h1 := HPC.out.1; have h2 := Pl.pieceOk_size h1; have h3 := Pl.records_len x.Bytes; have := HR.out; omega
                  by_cases hk0 : k = 0
                  · subst hk0
                    have hxp : x = p0 := Option.some.inj (HX.out.symm.trans HP0.out)
                    have HXP := Lib.hid hxp
                    have hm0 : m = 0 := by omega
                    subst hm0
                    have hk0' : (((0 : Nat) : Int) == 0) = true := rfl
                    have e0 : f0 + ((0 : Nat) : Int) = f0 := by omega
                    have e1 : f0 + ((0 : Nat) : Int) + (r : Int) = f0 + (r : Int) := by omega
                    obtain ⟨ib, hib⟩ : ∃ v, Pl.isIn bg xf (f0 + (r : Int)) = v := ⟨_, rfl⟩
                    have hib2 : Pl.isIn bg xf (f0 + ((0 : Nat) : Int) + (r : Int)) = ib := by rw [e1]; exact hib
                    have HIB := Lib.hid hib
                    have hib3 : Pl.isIn bg f0 (f0 + (r : Int)) = ib := by rw [← hib]; congr 1; have := HFR.out; omega
                    have HFR2 : Hid (xf = f0) := by have := HFR.out; show _ = _; omega
                    cases ib with
                    | false =>
                      have HNL : Hid (¬ Pl.LogOkR ⟨ps, bg⟩) := fun h => by
                        have h1 := h.2 p0 HP0.out
                        have h2 := h.1.bg.1
                        rw [HFF.out, ← HXP.out, HR.out] at h1
                        rw [show (⟨ps, bg⟩ : Log).Pieces = ps from rfl, HF0.out] at h2
                        have h3 : Pl.isIn bg xf (f0 + (r : Int)) = true := Pl.isIn_iff.2 ⟨by rw [HFR2.out]; exact h2, h1⟩
                        rw [HIB.out] at h3; cases h3
                      go_wp2_with (first | (go_at_call 68; (with_reducible refine (l1In_isJ hib _).mono ?_); rintro e w' ⟨rfl, rfl⟩) | (go_at_call 68; (with_reducible refine (l1In_isJ hib2 _).mono ?_); rintro e w' ⟨rfl, rfl⟩) | (go_at_call 68; (with_reducible refine (l1In_isJ hib3 _).mono ?_); rintro e w' ⟨rfl, rfl⟩))
                      go_ret
                      exact BoolAns.no HNL.out HBL.out
                    | true =>
                      have HBB : Hid (0 < 0 + 1 → f0 ≤ bg ∧ bg ≤ f0 + ((Pl.records p0.Bytes).length : Int)) := fun _ => by
                        have h1 := Pl.isIn_iff.1 HIB.out
                        rw [HFR2.out] at h1
                        rw [← HXP.out, HR.out]; exact h1
                      go_wp2_with (first | (go_at_call 68; (with_reducible refine (l1In_isJ hib _).mono ?_); rintro e w' ⟨rfl, rfl⟩) | (go_at_call 68; (with_reducible refine (l1In_isJ hib2 _).mono ?_); rintro e w' ⟨rfl, rfl⟩) | (go_at_call 68; (with_reducible refine (l1In_isJ hib3 _).mono ?_); rintro e w' ⟨rfl, rfl⟩))
                      go_roundg (n - (0 + 1))
                      case measure => omega
                      case rel => exact ⟨0 + 1, 0 + r, Nat.le_refl _, by omega, by go_num, by go_num, by omega, ⟨HMN.out, HUN.out, HBB.out⟩, KS3.out.sel [1] (by decide) rfl⟩
                  · have hk0' : ((k : Int) == 0) = false := by simpa using hk0
                    have HBB : Hid (0 < k + 1 → f0 ≤ bg ∧ bg ≤ f0 + ((Pl.records p0.Bytes).length : Int)) := fun _ => HM.out.2.2 (by omega)
                    go_wp2
                    go_roundg (n - (k + 1))
                    case measure => omega
                    case rel => exact ⟨k + 1, m + r, Nat.le_refl _, by omega, by go_num, by go_num, by omega, ⟨HMN.out, HUN.out, HBB.out⟩, KS3.out.sel [1] (by decide) rfl⟩
            · have hne : (xf != (f0 + (m : Int))) = true := by simpa using hfr
              have HNL : Hid (¬ Pl.LogOkR ⟨ps, bg⟩) := fun h => hfr (by have := (h.1.pc k x HX.out).2.1; rw [HXF.out, show (⟨ps, bg⟩ : Log).Pieces = ps from rfl, ← HM.out.1, HF0.out] at this; exact this)
              clear hfr
              go_wp2
              go_ret
              exact BoolAns.no HNL.out HBL.out
        · obtain rfl : k = n := by omega
          have fc : ¬ ((k : Nat) : Int) < (k : Nat) := by omega
          have hfull : ps.take k = ps := List.take_of_length_le (by have := HLEN.out; omega)
          rw [hfull] at HM
          obtain ⟨x, cs, hx, hb2, hat, hcell⟩ := (HR0.out.keep (w' := W) fun b hb => HS.out.bel0.block b (by have := HWB.out; omega)).get' (k := 0) (by omega)
          obtain ⟨A', n', c', rfl, g0, g1, g2⟩ := rPiece_at hat
          have c0 := hcell 0 _ rfl
          rw [show off + 0 * rPiece.size + 0 = off by omega] at c0
          have hxf : x.From = f0 := (Pl.from0_get hx).symm.trans HF0.out
          rw [hxf] at c0
          have d0 := HS.out.cell (k := 0) 0 rfl rfl
          have d1 := HS.out.cell (k := 1) 0 rfl rfl
          have HBL := Lib.hid HS.out.bel0
          have hm2 : f0 + (m : Int) - f0 = m := by omega
          clear hcell hat hx hxf g0 g1 g2
          by_cases hm60 : m ≤ 60
          · have HY : Hid (Pl.LogOkR ⟨ps, bg⟩) := by
              have h3 := HM.out.2.2 (by omega)
              have h4 : Pl.lRecs (ps.take 1) = Pl.records p0.Bytes := by rw [Pl.lRecs_next HP0.out]; simp [Pl.lRecs]
              have h5 : (Pl.lRecs (ps.take 1)).length ≤ (Pl.lRecs ps).length := by
                conv => rhs; rw [← List.take_append_drop 1 ps, Pl.lRecs_append]
                rw [List.length_append]; omega
              rw [h4] at h5
              refine ⟨⟨⟨by show 1 ≤ ps.length; have := HLEN.out; omega, by show ps.length ≤ 20; have := HLEN.out; omega⟩, by show 0 ≤ Pl.from0 ps ∧ _; rw [HF0.out]; exact ⟨hf1, hf2⟩, fun i p hp => HM.out.2.1 i p (by have h9 : i < ps.length := (List.getElem?_eq_some_iff.1 hp).1; have := HLEN.out; omega) hp, by show (Pl.lRecs ps).length ≤ 60; have := HM.out.1; omega, by show Pl.from0 ps ≤ bg ∧ bg ≤ Pl.from0 ps + _; rw [HF0.out]; exact ⟨h3.1, by show bg ≤ f0 + ((Pl.lRecs ps).length : Int); omega⟩⟩, fun p hp => ?_⟩
              have := HP0.out.symm.trans hp
              injection this with this
              subst this
              rw [HFF.out]; exact h3.2
            go_wp2
            go_ret
            exact ⟨true, by simp; omega, ⟨fun _ => HY.out, fun _ => rfl⟩, HBL.out⟩
          · have HNL : Hid (¬ Pl.LogOkR ⟨ps, bg⟩) := fun h => hm60 (by have h1 : (Pl.lRecs ps).length ≤ 60 := h.1.sum; have := HM.out.1; omega)
            go_wp2
            go_ret
            exact ⟨false, by simp; omega, ⟨(fun h => by cases h), fun h => absurd h HNL.out⟩, HBL.out⟩
    · have hin2 : Pl.isIn f0 0 100000 = false := by unfold Pl.isIn; simp; omega
      have HNL : Hid (¬ Pl.LogOkR ⟨ps, bg⟩) := fun h => hf (by have := h.1.from0; rw [show (⟨ps, bg⟩ : Log).Pieces = ps from rfl, HF0.out] at this; exact this)
      clear hf
      go_wp2_with (first | (go_at_call 68; (with_reducible refine (l1In_isJ hin _).mono ?_); rintro e w' ⟨rfl, rfl⟩) | (go_at_call 68; (with_reducible refine (l1In_isJ hin2 _).mono ?_); rintro e w' ⟨rfl, rfl⟩))
      go_ret
      exact BoolAns.no HNL.out HBL.out
  · have hin : Pl.isIn (n : Int) 1 20 = false := by unfold Pl.isIn; simp; omega
    have HNL : Hid (¬ Pl.LogOkR ⟨ps, bg⟩) := fun h => hn1 ⟨by have := h.1.len.1; rw [← HLEN.out]; exact this, by have := h.1.len.2; rw [← HLEN.out]; exact this⟩
    go_wp2_with (go_at_call 68; (with_reducible refine (l1In_isJ hin _).mono ?_); rintro e w' ⟨rfl, rfl⟩)
    go_ret
    exact BoolAns.no HNL.out HBL.out
end Go.Proofs.YtbhmdnjammnlnaaGreatDoor

