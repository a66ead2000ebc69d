/-
  Contracts: PlayTell, the program's (chapter 10). No conditions.
-/
import Derived.Test.YtaepohocabealaaTd
namespace Go.Proofs.Ytaepohocabealaa
open Go.RowKit
attribute [local go_sem] und_cell cha_cell World.cell?_alloc_some
namespace Mm
/-- a struct that has just been laid in a block of its own is behind a pointer; and back -/
theorem SepF.toPtr {F : List Nat} {w0 wr : World} {ts : List Thing} {α : Type} {R : Rep α} {T : TypeId} {g : Nat} {x : α} {cs : List Value} {fp : List Nat} (h : SepF F w0 wr (tblk g T cs :: tow R x cs fp :: ts)) : SepF F w0 wr (tptr R T g x fp :: ts) :=
  h.conv (by simp [tblk, tow, tptr]) (List.forall_mem_cons.2 ⟨⟨cs, h.at_ 0 rfl, h.at_ 1 rfl⟩, fun u hu => h.hold u (List.mem_cons_of_mem _ (List.mem_cons_of_mem _ hu))⟩)
theorem SepF.ofPtr {F : List Nat} {w0 wr : World} {ts : List Thing} {α : Type} {R : Rep α} {T : TypeId} {g : Nat} {x : α} {fp : List Nat} (h : SepF F w0 wr (tptr R T g x fp :: ts)) : ∃ cs, SepF F w0 wr (tblk g T cs :: tow R x cs fp :: ts) := by
  obtain ⟨cs, h1, h2⟩ := h.at_ 0 rfl
  exact ⟨cs, h.conv (by simp [tblk, tow, tptr]) (List.forall_mem_cons.2 ⟨h1, List.forall_mem_cons.2 ⟨h2, fun u hu => h.hold u (List.mem_cons_of_mem _ hu)⟩⟩)⟩
theorem own_bool {w : World} {b : Bool} : bool.own w b [.bool b] [] := ⟨rfl, trivial, rfl⟩
end Mm
def Pl.playL (t : Tell) (l : List TellStep) : Tell × List Bool := l.foldl (fun p s => ((Pl.tstep p.1 s).1, p.2 ++ [(Pl.tstep p.1 s).2])) (t, [])
theorem Pl.playL_nil (t : Tell) : Pl.playL t [] = (t, []) := rfl
theorem Pl.playL_snoc (t : Tell) (l : List TellStep) (s : TellStep) : Pl.playL t (l ++ [s]) = ((Pl.tstep (Pl.playL t l).1 s).1, (Pl.playL t l).2 ++ [(Pl.tstep (Pl.playL t l).1 s).2]) := by
  unfold Pl.playL; rw [List.foldl_append]; rfl
theorem Pl.playL_wf (t : Tell) (h : Pl.TWf t) : ∀ n (l : List TellStep), l.length = n → Pl.TWf (Pl.playL t l).1 ∧ (Pl.playL t l).2.length = n
  | 0, l, hl => by
    rw [List.length_eq_zero_iff.1 hl]
    exact ⟨h, rfl⟩
  | n + 1, l, hl => by
    rcases List.eq_nil_or_concat l with rfl | ⟨l', s, rfl⟩
    · cases hl
    · rw [List.concat_eq_append] at hl ⊢
      have ih := playL_wf t h n l' (by simpa using hl)
      rw [Pl.playL_snoc]
      exact ⟨ih.1.step s, by simp [ih.2]⟩
theorem Pl.newTe_wf {n : Nat} (h : n ≤ 4) : Pl.TWf (Pl.newTe n) := by
  have hs : ∀ m k : Nat, Pl.sumTo (List.replicate m 0) k = 0 := fun m k => by
    induction k with
    | zero => rfl
    | succ k ih =>
      rw [Pl.sumTo, ih, List.getD_eq_getElem?_getD, List.getElem?_replicate]
      split <;> rfl
  refine ⟨by show (List.replicate n _).length ≤ 4; simpa using h, by show (List.replicate n _).length = (List.replicate n _).length; simp, by show (List.replicate n _).length = (List.replicate n _).length; simp, Nat.zero_le _, ?_, fun k l hl => ?_, fun k a l ha hl => ?_, fun k a l ha hl => ?_, fun m hm => by cases hm⟩
  · show ((0 : Nat) : Int) = Pl.sum (List.replicate n 0)
    unfold Pl.sum; rw [hs]; rfl
  · have := List.mem_of_getElem? hl
    rw [(List.mem_replicate.1 this).2]; exact Nat.zero_le _
  · have := (List.mem_replicate.1 (List.mem_of_getElem? ha)).2
    subst this
    exact ⟨Int.le_refl _, by omega⟩
  · have := (List.mem_replicate.1 (List.mem_of_getElem? ha)).2
    subst this
    exact ⟨Int.le_refl _, by omega⟩
def Pl.playTell (n : Int) (l : List TellStep) : Tell × List Bool × Bool :=
  if Pl.isIn n 1 4 = true ∧ l.length ≤ 150 then ((Pl.playL (Pl.newTe n.toNat) l).1, (Pl.playL (Pl.newTe n.toNat) l).2, true) else (Pl.zTe, [], false)
def PlayAns (r : Tell × List Bool × Bool) (w : World) (e : Ending) (w' : World) : Prop :=
  ∃ cs A n c fp0 fp1, e = .returned (.tuple #[.agg cs.toArray, .slice A n c, .bool r.2.2]) ∧ Mm.SepF [] w w' [Mm.tow rTell r.1 cs fp0, Mm.tsl Mm.bool 4 r.2.1 (.slice A n c) fp1]
theorem playNo {w w' : World} (h : Below w.heap.size w w') : PlayAns (Pl.zTe, [], false) w (.returned (.tuple #[.agg zTell.toArray, .slice none 0 0, .bool false])) w' :=
  ⟨zTell, none, 0, 0, [], [], rfl, ⟨Mm.Chg.of_below h, by simp [Mm.tow, Mm.tsl], by simp [Mm.tow, Mm.tsl], List.forall_mem_cons.2 ⟨zTe_own, List.forall_mem_cons.2 ⟨Mm.SlOwn.nil, fun u hu => by cases hu⟩⟩⟩⟩
theorem Try.infoBool : (Try.prog.info? 4).map (fun i => (i.zero, i.size, i.bytes)) = some (some (.bool false), 1, 1) := by kernel_rfl
set_option maxRecDepth 100000 in
set_option maxHeartbeats 2000000 in
theorem implPlayTell_c (m : Int) (l : List TellStep) (A : Option Addr) (n c : Nat) (w : World) (B : Nat) (hl : Mm.SlAt rTellStep w B l A n c) (hB : B ≤ w.heap.size) :
    Calls Try.prog 9 #[.int .i64 m, .slice A n c] w (PlayAns (Pl.playTell m l) w) := by
  have hn : n ≤ maxLen := Nat.le_trans hl.2.1 hl.2.2.1
  have hlen := hl.1
  have HL := Lib.hid hl
  clear hl
  unfold maxLen at hn
  by_cases hin : Pl.isIn m 1 4 = true
  · by_cases h150 : n ≤ 150
    · have HF : Hid (Pl.playTell m l = ((Pl.playL (Pl.newTe m.toNat) l).1, (Pl.playL (Pl.newTe m.toNat) l).2, true)) := if_pos ⟨hin, by omega⟩
      have hin' := hin
      unfold Pl.isIn at hin'
      simp only [Bool.and_eq_true, decide_eq_true_eq] at hin'
      obtain ⟨q, rfl⟩ : ∃ q : Nat, m = q := ⟨m.toNat, by omega⟩
      have h1 : 1 ≤ q := by omega
      have h3 : q ≤ 4 := by omega
      rw [show ((q : Nat) : Int).toNat = q by omega] at HF
      clear hin'
      have f1 : decide ((150 : Int) < ((n : Nat) : Int)) = false := by simp; omega
      have HLN := Lib.hid hlen
      clear hlen
      have KS0 := Lib.hid ((Mm.SepF.start w).alloc' rfl 31 zTell)
      obtain ⟨i0, hi, hz0, hz1, hz2⟩ := info_parts Try.infoBool
      have HW0 := Lib.hid (Pl.newTe_wf h3)
      go_enter Try.func9, Try.ntmps9
      go_wp2_with (first
        | (go_at_call 47; (with_reducible refine (within_c _ _ _ _).mono ?_); rintro e w5 ⟨rfl, rfl⟩)
        | (go_at_call 48; (with_reducible refine (newTell_c q _ h1 h3).mono ?_); rintro e w1 ⟨cs1, fp1, rfl, ho, hnd, hnew, hb⟩; obtain ⟨B0, m0, d0, B1, m1, d1, B2, m2, d2, B3, m3, d3, B4, m4, d4, g0, g1, g2, g3, g4, rfl, rfl, -⟩ := rTell_own ho; (have KS1 := Lib.hid (KS0.out.add hb (t := Mm.tow rTell (Pl.newTe q) _ _) ho hnd hnew)); clear ho hnd hnew hb))
      have KS2 := Lib.hid (((KS1.out.alloc' rfl 31 [.slice B0 m0 d0, .slice B1 m1 d1, .slice B2 m2 d2, .slice B3 m3 d3, .slice B4 m4 d4]).toPtr).add (Below.refl _ _) (t := Mm.tsl Mm.bool 4 [] (.slice none 0 0) []) Mm.SlOwn.nil List.nodup_nil (fun b hb => by cases hb))
      obtain ⟨gt, hgt⟩ : ∃ gt, w1.heap.size = gt := ⟨_, rfl⟩
      obtain ⟨gr, hgr⟩ : ∃ gr, w.heap.size = gr := ⟨_, rfl⟩
      have HBR := Lib.hid (show B ≤ w.heap.size from hB)
      rw [hgt] at KS2
      rw [hgr] at KS2
      rw [hgt, hgr]
      have HGT := Lib.hid hgt
      have HGR := Lib.hid hgr
      clear hgt hgr KS0 KS1 hB
      go_loopg [8, 24] n (fun g d i wr => ∃ (k : Nat) (A' : Option Addr) (c' : Nat) (fpt fpd : List Nat), n - k ≤ g ∧ k ≤ n ∧ d = .slice A' k c' ∧ i = .int .i64 k ∧ Hid (Mm.SepF [] w wr [Mm.tsl Mm.bool 4 (Pl.playL (Pl.newTe q) (l.take k)).2 (.slice A' k c') fpd, Mm.tptr rTell 31 gt (Pl.playL (Pl.newTe q) (l.take k)).1 fpt, Mm.tblk gr 31 zTell]))
      case atStart => exact ⟨0, none, 0, _, _, Nat.le_refl _, Nat.zero_le _, rfl, rfl, KS2.out⟩
      case round =>
        obtain ⟨k, A', c', fpt, fpd, hgk, hk', rfl, rfl, HS⟩ := hrel
        have hbel := HS.out.bel0
        have hlk := List.length_take_of_le (l := l) (i := k) (by rw [HLN.out]; omega)
        have hwf := Pl.playL_wf (Pl.newTe q) HW0.out k (l.take k) hlk
        have HWF := Lib.hid hwf.1
        have HPL := Lib.hid hwf.2
        clear hwf hlk
        obtain ⟨p, hp⟩ : ∃ p, Pl.playL (Pl.newTe q) (l.take k) = p := ⟨_, rfl⟩
        rw [hp] at HS HWF HPL
        have HP := Lib.hid hp
        clear hp KS2
        by_cases hlt : k < n
        · obtain ⟨s, b0, off, hx, rfl, hb, g0', g1', g2', e0, e1, e2⟩ := rTellStep_get HL.out hlt
          have HN : Hid (Pl.playL (Pl.newTe q) (l.take (k + 1)) = ((Pl.tstep p.1 s).1, p.2 ++ [(Pl.tstep p.1 s).2])) := by
            show _ = _
            rw [Mm.take_succ_some hx, Pl.playL_snoc, HP.out]
          have HSW := Lib.hid (And.intro g1' g2')
          have hlt' : ((k : Nat) : Int) < ((n : Nat) : Int) := by omega
          have hb0 : b0 < w.heap.size := by have := HBR.out; omega
          replace e0 := below_some hbel e0
          replace e1 := below_some hbel e1
          replace e2 := below_some hbel e2
          have HS2 := Lib.hid (HS.out.alloc' rfl 46 [.int .i64 s.Kind, .int .i64 s.K, .string s.Text])
          clear hx g0' g1' g2'
          go_wp2_with (first
            | (go_at_call 49; refine (step_c p.1 s gt fpt _ (HS2.out.at_ 2 rfl) (HS2.out.ndat (i := 2) rfl) HSW.out HWF.out).mono ?_; rintro e w9 ⟨rfl, fp9, hL⟩; (have HS3 := Lib.hid (HS2.out.call 2 rfl hL)); clear hL)
            | (at_builtin; refine Mm.app_list HS3.out 1 rfl rfl (.tmp 28) (.tmp 31) 32 rfl i0 _ 1 Try.underlying32 hi hz0 hz1 hz2 rfl (by decide) rfl rfl (fun W => Mm.own_bool) HPL.out (by unfold maxLen; omega) (by omega) ?_; intro g cap w' fp' hs; (have HS4 := Lib.hid hs); clear hs))
          go_roundg (n - (k + 1))
          case measure => omega
          case rel => exact ⟨k + 1, _, cap, fp9, fp', Nat.le_refl _, by omega, rfl, by go_num, by rw [HN.out]; exact HS4.out.sel [1, 2, 3] (by decide) rfl⟩
        · obtain rfl : k = n := by omega
          have HE : Hid (l.take k = l) := List.take_of_length_le (by rw [HLN.out]; exact Nat.le_refl _)
          have hlt' : ¬ ((k : Nat) : Int) < ((k : Nat) : Int) := by omega
          rw [HE.out] at HP
          rw [HP.out] at HF
          obtain ⟨A0, n0, c0, A1, n1, c1, A2, n2, c2, A3, n3, c3, A4, n4, c4, f0, f1', f2, f3, f4, rfl, hs⟩ := open_Tell (HS.out.sel [1, 0, 2] (by decide) rfl)
          have HSR := Lib.hid hs
          clear hs
          have b0 := HSR.out.cell (k := 0) 0 rfl rfl
          have b1 := HSR.out.cell (k := 1) 0 rfl rfl
          have b2 := HSR.out.cell (k := 2) 0 rfl rfl
          have b3 := HSR.out.cell (k := 3) 0 rfl rfl
          have b4 := HSR.out.cell (k := 4) 0 rfl rfl
          have r0 := HSR.out.cell (k := 0) 7 rfl rfl
          have r1 := HSR.out.cell (k := 1) 7 rfl rfl
          have r2 := HSR.out.cell (k := 2) 7 rfl rfl
          have r3 := HSR.out.cell (k := 3) 7 rfl rfl
          have r4 := HSR.out.cell (k := 4) 7 rfl rfl
          have z0 := HSR.out.frz (k := 0) 7 rfl
          have z1 := HSR.out.frz (k := 1) 7 rfl
          have z2 := HSR.out.frz (k := 2) 7 rfl
          have z3 := HSR.out.frz (k := 3) 7 rfl
          have z4 := HSR.out.frz (k := 4) 7 rfl
          go_wp2
          have HSF := Lib.hid (((((HSR.out.setBlk (k := 0) 7 rfl (.slice A0 n0 c0)).setBlk (k := 1) 7 rfl (.slice A1 n1 c1)).setBlk (k := 2) 7 rfl (.slice A2 n2 c2)).setBlk (k := 3) 7 rfl (.slice A3 n3 c3)).setBlk (k := 4) 7 rfl (.slice A4 n4 c4))
          have q0 := HSF.out.cell (k := 0) 7 rfl rfl
          have q1 := HSF.out.cell (k := 1) 7 rfl rfl
          have q2 := HSF.out.cell (k := 2) 7 rfl rfl
          have q3 := HSF.out.cell (k := 3) 7 rfl rfl
          have q4 := HSF.out.cell (k := 4) 7 rfl rfl
          exact bodyPost_ret (v := .tuple #[.agg #[.slice A0 n0 c0, .slice A1 n1 c1, .slice A2 n2 c2, .slice A3 n3 c3, .slice A4 n4 c4], .slice A' k c', .bool true]) (by simp [results, Try.results9, go_sem, q0, q1, q2, q3, q4]) rfl ⟨[.slice A0 n0 c0, .slice A1 n1 c1, .slice A2 n2 c2, .slice A3 n3 c3, .slice A4 n4 c4], A', k, c', _, _, by rw [HF.out], by rw [HF.out]; exact shutv_Tell (x := p.1) (HSF.out.sel [1, 2, 3, 4, 5, 6] (by decide) rfl)⟩
    · have HF : Hid (Pl.playTell m l = (Pl.zTe, [], false)) := if_neg (by omega)
      have f1 : decide ((150 : Int) < ((n : Nat) : Int)) = true := by simp; omega
      have HLN := Lib.hid hlen
      clear hlen
      go_enter Try.func9, Try.ntmps9
      go_wp2_with (go_at_call 47; (with_reducible refine (within_c _ _ _ _).mono ?_); rintro e w5 ⟨rfl, rfl⟩)
      rw [HF.out]
      exact bodyPost_ret (v := .tuple #[.agg zTell.toArray, .slice none 0 0, .bool false]) (by simp [results, Try.results9, go_sem, zTell]) rfl (playNo (below_new (Below.refl _ _) _))
  · have HF : Hid (Pl.playTell m l = (Pl.zTe, [], false)) := if_neg (fun h => hin h.1)
    have hin' : Pl.isIn m 1 4 = false := by simpa using hin
    have HLN := Lib.hid hlen
    clear hlen hin
    go_enter Try.func9, Try.ntmps9
    go_wp2_with (go_at_call 47; (with_reducible refine (within_c _ _ _ _).mono ?_); rintro e w5 ⟨rfl, rfl⟩)
    rw [HF.out]
    exact bodyPost_ret (v := .tuple #[.agg zTell.toArray, .slice none 0 0, .bool false]) (by simp [results, Try.results9, go_sem, zTell]) rfl (playNo (below_new (Below.refl _ _) _))
end Go.Proofs.Ytaepohocabealaa
