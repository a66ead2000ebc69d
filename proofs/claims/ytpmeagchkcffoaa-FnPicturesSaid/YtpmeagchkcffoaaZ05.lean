/-
  Joined texts, in build order: C0, C1, C2, Er, Am, Cg, Op, Ii, C3. Each part says what it proves; no conditions beyond those that a part names.
-/
import Derived.Test.YtpmeagchkcffoaaZ01
import Derived.Test.YtpmeagchkcffoaaZ02
import Derived.Test.YtpmeagchkcffoaaZ03
import Derived.Test.YtpmeagchkcffoaaZ04
import Derived.Deep.RegionLaw
import Derived.ProofKit
import Derived.OpenShut
import Derived.Deep.Slices
import Derived.Deep.DeepFit
import Derived.Lib.Hide
import Derived.Deep.DeepCutAuto
/-
  Plain banks: a run of steps from a new bank. A bank's five slices as one thing. No program in sight. No conditions.
-/
namespace Go.Proofs.Ytpmeagchkcffoaa
open Go.RowKit
namespace Pl
theorem brec_len (b : Bank) (k : Nat) : (brec b k).Coins.length = b.Coins.length := rfl
theorem btake_len (b : Bank) (f t : Nat) (x : Int) : (btake b f t x).Coins.length = b.Coins.length := by
  unfold btake
  repeat' split
  · show (b.Coins.set _ _).length = _; rw [List.length_set]
  · show (b.Coins.set _ _).length = _; rw [List.length_set]
  · rfl
  · rfl
theorem bstep_len (b : Bank) (s : SnapStep) : (bstep b s).1.Coins.length = b.Coins.length := by
  unfold bstep
  dsimp only
  split
  · rfl
  split
  · split
    · show (b.Coins.set _ _).length = _; rw [List.length_set]
    · rfl
  split
  · split
    · rfl
    · split
      · rw [btake_len]; rfl
      · rfl
  split
  · split <;> rfl
  · rfl
def runP (p : Bank × List Bool) (l : List SnapStep) : Bank × List Bool := l.foldl (fun p s => ((bstep p.1 s).1, p.2 ++ [(bstep p.1 s).2])) p
def runB (b : Bank) (l : List SnapStep) : Bank × List Bool := runP (b, []) l
theorem runB_next {b : Bank} {l : List SnapStep} {k : Nat} {s : SnapStep} (h : l[k]? = some s) : runB b (l.take (k + 1)) = ((bstep (runB b (l.take k)).1 s).1, (runB b (l.take k)).2 ++ [(bstep (runB b (l.take k)).1 s).2]) := by
  rw [Mm.take_succ_some h]
  unfold runB runP
  rw [List.foldl_append]
  rfl
theorem runP_ok : ∀ (l : List SnapStep) (q : Nat) (p : Bank × List Bool), BI q p.1 → BI (q + l.length) (runP p l).1 ∧ (runP p l).2.length = p.2.length + l.length ∧ (runP p l).1.Coins.length = p.1.Coins.length
  | [], _, _, h => ⟨h, rfl, rfl⟩
  | s :: l, q, p, h => by
    obtain ⟨h1, h2, h3⟩ := runP_ok l (q + 1) ((bstep p.1 s).1, p.2 ++ [(bstep p.1 s).2]) (h.step s)
    refine ⟨?_, ?_, ?_⟩
    · rw [List.length_cons, show q + (l.length + 1) = q + 1 + l.length by omega]; exact h1
    · show (runP _ l).2.length = _
      rw [h2]; simp; omega
    · show (runP _ l).1.Coins.length = _
      rw [h3, bstep_len]
theorem BI.new {l : List Int} (h : coinsOk l = true) : BI 0 (newBank l) := by
  unfold coinsOk at h
  rw [Bool.and_eq_true] at h
  have hl := isIn_iff.1 h.1
  have ha := List.all_eq_true.1 h.2
  refine ⟨by show 1 ≤ l.length; omega, by show l.length ≤ 5; omega, by show (List.replicate _ _).length = _; rw [List.length_replicate]; rfl, by show (List.replicate _ _).length = _; rw [List.length_replicate]; rfl, by show (List.replicate _ _).length = _; rw [List.length_replicate]; rfl, by show (List.replicate _ _).length = _; rw [List.length_replicate]; rfl, fun r hr => ?_, fun r hr => ?_, fun c hc => ?_, fun c hc => ?_, fun r hr c hc => ?_, fun r hr => ?_, fun r hr c hc => ?_, fun i hi => ?_⟩
  · rw [(List.mem_replicate.1 hr).2, List.length_replicate]; rfl
  · rw [(List.mem_replicate.1 hr).2, List.length_replicate]; rfl
  · have := isIn_iff.1 (show isIn c 0 50 = true from ha c hc); omega
  · rw [(List.mem_replicate.1 hc).2]; omega
  · rw [(List.mem_replicate.1 hr).2] at hc
    rw [(List.mem_replicate.1 hc).2]; omega
  · rw [(List.mem_replicate.1 hr).2]; exact Nat.le_refl _
  · rw [(List.mem_replicate.1 hr).2] at hc; cases hc
  · show (List.replicate (l.length * l.length) ([] : List Int))[i * l.length + i]? = _
    rw [List.getElem?_replicate, if_pos (show i * l.length + i < l.length * l.length from sq_lt hi hi)]
def zBank : Bank := ⟨[], [], [], [], []⟩
def playBank (coins : List Int) (l : List SnapStep) : Bank × List Bool × Bool :=
  if coinsOk coins = true ∧ l.length ≤ 120 then ((runB (newBank coins) l).1, (runB (newBank coins) l).2, true) else (zBank, [], false)
end Pl
theorem Mm.SepF.bankW {F : List Nat} {w0 wr : World} {ts : List Mm.Thing} {x : Bank} {A0 A1 A2 A3 A4 : Option Addr} {n0 c0 n1 c1 n2 c2 n3 c3 n4 c4 : Nat} {f0 f1 f2 f3 f4 : List Nat} (h : Mm.SepF F w0 wr (Mm.tsl Mm.int 3 x.Coins (.slice A0 n0 c0) f0 :: Mm.tsl Mm.way 22 x.Ways (.slice A1 n1 c1) f1 :: Mm.tsl Mm.int 3 x.Kept (.slice A2 n2 c2) f2 :: Mm.tsl bools 29 x.Heard (.slice A3 n3 c3) f3 :: Mm.tsl ints 22 x.Found (.slice A4 n4 c4) f4 :: ts)) :
    Mm.SepF F w0 wr (Mm.tow rBankW x [.slice A0 n0 c0, .slice A1 n1 c1, .slice A2 n2 c2, .slice A3 n3 c3, .slice A4 n4 c4] (f0 ++ (f1 ++ (f2 ++ (f3 ++ f4)))) :: ts) :=
  h.conv (by simp [Mm.tsl, Mm.tow]) (List.forall_mem_cons.2 ⟨rBankW_own_mk (h.sl 0 rfl) (h.sl 1 rfl) (h.sl 2 rfl) (h.sl 3 rfl) (h.sl 4 rfl), fun u hu => h.hold u (List.mem_cons_of_mem _ (List.mem_cons_of_mem _ (List.mem_cons_of_mem _ (List.mem_cons_of_mem _ (List.mem_cons_of_mem _ hu)))))⟩)
end Go.Proofs.Ytpmeagchkcffoaa

/-
  Contract: PlayBank of the program. No conditions beyond those named.
-/
namespace Go.Proofs.Ytpmeagchkcffoaa
open Go.RowKit
attribute [local go_sem] und_cell cha_cell World.cell?_alloc_some
def zBk : List Value := [.slice none 0 0, .slice none 0 0, .slice none 0 0, .slice none 0 0, .slice none 0 0]
theorem zBk_own {w : World} : rBankW.own w Pl.zBank zBk [] := by
  have h := rBankW_own_mk (w := w) (x := Pl.zBank) (A0 := none) (n0 := 0) (c0 := 0) (A1 := none) (n1 := 0) (c1 := 0) (A2 := none) (n2 := 0) (c2 := 0) (A3 := none) (n3 := 0) (c3 := 0) (A4 := none) (n4 := 0) (c4 := 0) (f0 := []) (f1 := []) (f2 := []) (f3 := []) (f4 := []) Mm.SlOwn.nil Mm.SlOwn.nil Mm.SlOwn.nil Mm.SlOwn.nil Mm.SlOwn.nil
  exact h
def PlayAnsB (r : Bank × List Bool × Bool) (w : World) (e : Ending) (w' : World) : Prop :=
  ∃ cs A n c fp0 fp1, e = .returned (.tuple #[.agg cs.toArray, .slice A n c, .bool r.2.2]) ∧ Mm.SepF [] w w' [Mm.tow rBankW r.1 cs fp0, Mm.tsl Mm.bool 4 r.2.1 (.slice A n c) fp1]
theorem playNoB {w w' : World} (h : Below w.heap.size w w') : PlayAnsB (Pl.zBank, [], false) w (.returned (.tuple #[.agg zBk.toArray, .slice none 0 0, .bool false])) w' :=
  ⟨zBk, none, 0, 0, [], [], rfl, ⟨Mm.Chg.of_below h, by simp [Mm.tow, Mm.tsl], by simp [Mm.tow, Mm.tsl], List.forall_mem_cons.2 ⟨zBk_own, List.forall_mem_cons.2 ⟨Mm.SlOwn.nil, fun u hu => by cases hu⟩⟩⟩⟩
theorem Try.infoBoolW : (Try.prog.info? 4).map (fun i => (i.zero, i.size, i.bytes)) = some (some (.bool false), 1, 1) := by kernel_rfl
set_option maxRecDepth 100000 in
set_option maxHeartbeats 4000000 in
theorem implPlayBank_c (coins : List Int) (l : List SnapStep) (A' : Option Addr) (n' c' : Nat) (A : Option Addr) (n c : Nat) (w : World) (B : Nat) (ha : Mm.SlAt Mm.int w B coins A' n' c') (hl : Mm.SlAt rSnapStep w B l A n c) (hB : B ≤ w.heap.size) :
    Calls Try.prog 9 #[.slice A' n' c', .slice A n c] w (PlayAnsB (Pl.playBank coins l) w) := by
  have hn : n ≤ maxLen := Nat.le_trans hl.2.1 hl.2.2.1
  unfold maxLen at hn
  have HL := Lib.hid hl
  have HA := Lib.hid ha
  have HLN : Hid (l.length = n) := hl.1
  have HAN : Hid (coins.length = n') := ha.1
  have HBW := Lib.hid hB
  clear hl ha hB
  obtain ⟨gz, hgz⟩ : ∃ g, w.heap.size = g := ⟨_, rfl⟩
  obtain ⟨W0, hW0⟩ : ∃ V, w.alloc (.cells #[.slice none 0 0, .slice none 0 0, .slice none 0 0, .slice none 0 0, .slice none 0 0] 28) = V := ⟨_, rfl⟩
  have KS := Lib.hid (((Mm.SepF.start w).alloc' hgz 28 [.slice none 0 0, .slice none 0 0, .slice none 0 0, .slice none 0 0, .slice none 0 0]).atW hW0)
  have CA := areCoins_c coins A' n' c' W0 B (HA.out.keep fun b hb => KS.out.bel0.block b (by have := HBW.out; omega)) (Nat.le_trans HBW.out KS.out.bel0.size)
  go_enter Try.func9, Try.ntmps9
  go_upto_region 1 with fail
  clear hW0 hgz
  cases hok : Pl.coinsOk coins with
  | false =>
    as_aux_lemma =>
    have HF : Hid (Pl.playBank coins l = (Pl.zBank, [], false)) := Lib.hid (if_neg (by rw [hok]; simp))
    rw [hok] at CA
    clear hok
    go_upto_region 2 with (go_at_call 32; (with_reducible refine CA.mono ?_); clear CA; rintro e w6 ⟨rfl, hb6⟩; (replace KS := Lib.hid (KS.out.step hb6)); clear hb6)
    have z0 := KS.out.frz (k := 0) 0 rfl
    have z1 := KS.out.frz (k := 1) 0 rfl
    have z2 := KS.out.frz (k := 2) 0 rfl
    have z3 := KS.out.frz (k := 3) 0 rfl
    have z4 := KS.out.frz (k := 4) 0 rfl
    have b0 := KS.out.cell (k := 0) 0 rfl rfl
    have b1 := KS.out.cell (k := 1) 0 rfl rfl
    have b2 := KS.out.cell (k := 2) 0 rfl rfl
    have b3 := KS.out.cell (k := 3) 0 rfl rfl
    have b4 := KS.out.cell (k := 4) 0 rfl rfl
    obtain ⟨WF, hWF⟩ : ∃ W : World, (((((w6.setCell ⟨gz, 0, none⟩ (.slice none 0 0)).setCell ⟨gz, 1, none⟩ (.slice none 0 0)).setCell ⟨gz, 2, none⟩ (.slice none 0 0)).setCell ⟨gz, 3, none⟩ (.slice none 0 0)).setCell ⟨gz, 4, none⟩ (.slice none 0 0)) = W := ⟨_, rfl⟩
    have HSF := Lib.hid ((((((KS.out.setBlk (k := 0) 0 rfl (.slice none 0 0)).setBlk (k := 1) 0 rfl (.slice none 0 0)).setBlk (k := 2) 0 rfl (.slice none 0 0)).setBlk (k := 3) 0 rfl (.slice none 0 0)).setBlk (k := 4) 0 rfl (.slice none 0 0)).atW hWF)
    have u0 := HSF.out.cell (k := 0) 0 rfl rfl
    have u1 := HSF.out.cell (k := 1) 0 rfl rfl
    have u2 := HSF.out.cell (k := 2) 0 rfl rfl
    have u3 := HSF.out.cell (k := 3) 0 rfl rfl
    have u4 := HSF.out.cell (k := 4) 0 rfl rfl
    go_wp2
    rw [HF.out]
    exact bodyPost_ret (v := .tuple #[.agg zBk.toArray, .slice none 0 0, .bool false]) (by simp [results, Try.results9, go_sem, zBk, u0, u1, u2, u3, u4]) rfl (playNoB HSF.out.bel0)
  | true =>
  by_cases h3 : ¬ (n ≤ 120)
  · as_aux_lemma =>
    have HF : Hid (Pl.playBank coins l = (Pl.zBank, [], false)) := Lib.hid (if_neg (fun hh => by have := hh.2; have := HLN.out; omega))
    have fa : (120 : Int) < (n : Nat) := by omega
    rw [hok] at CA
    clear hok
    go_upto_region 2 with (go_at_call 32; (with_reducible refine CA.mono ?_); clear CA; rintro e w6 ⟨rfl, hb6⟩; (replace KS := Lib.hid (KS.out.step hb6)); clear hb6)
    have z0 := KS.out.frz (k := 0) 0 rfl
    have z1 := KS.out.frz (k := 1) 0 rfl
    have z2 := KS.out.frz (k := 2) 0 rfl
    have z3 := KS.out.frz (k := 3) 0 rfl
    have z4 := KS.out.frz (k := 4) 0 rfl
    have b0 := KS.out.cell (k := 0) 0 rfl rfl
    have b1 := KS.out.cell (k := 1) 0 rfl rfl
    have b2 := KS.out.cell (k := 2) 0 rfl rfl
    have b3 := KS.out.cell (k := 3) 0 rfl rfl
    have b4 := KS.out.cell (k := 4) 0 rfl rfl
    obtain ⟨WF, hWF⟩ : ∃ W : World, (((((w6.setCell ⟨gz, 0, none⟩ (.slice none 0 0)).setCell ⟨gz, 1, none⟩ (.slice none 0 0)).setCell ⟨gz, 2, none⟩ (.slice none 0 0)).setCell ⟨gz, 3, none⟩ (.slice none 0 0)).setCell ⟨gz, 4, none⟩ (.slice none 0 0)) = W := ⟨_, rfl⟩
    have HSF := Lib.hid ((((((KS.out.setBlk (k := 0) 0 rfl (.slice none 0 0)).setBlk (k := 1) 0 rfl (.slice none 0 0)).setBlk (k := 2) 0 rfl (.slice none 0 0)).setBlk (k := 3) 0 rfl (.slice none 0 0)).setBlk (k := 4) 0 rfl (.slice none 0 0)).atW hWF)
    have u0 := HSF.out.cell (k := 0) 0 rfl rfl
    have u1 := HSF.out.cell (k := 1) 0 rfl rfl
    have u2 := HSF.out.cell (k := 2) 0 rfl rfl
    have u3 := HSF.out.cell (k := 3) 0 rfl rfl
    have u4 := HSF.out.cell (k := 4) 0 rfl rfl
    go_wp2
    rw [HF.out]
    exact bodyPost_ret (v := .tuple #[.agg zBk.toArray, .slice none 0 0, .bool false]) (by simp [results, Try.results9, go_sem, zBk, u0, u1, u2, u3, u4]) rfl (playNoB HSF.out.bel0)
  replace h3 := Decidable.not_not.1 h3
  have fa : ¬ (120 : Int) < (n : Nat) := by omega
  have HF : Hid (Pl.playBank coins l = ((Pl.runB (Pl.newBank coins) l).1, (Pl.runB (Pl.newBank coins) l).2, true)) := Lib.hid (if_pos ⟨hok, by have := HLN.out; omega⟩)
  have hn15 : 1 ≤ n' ∧ n' ≤ 5 := by
    have h1 := hok
    unfold Pl.coinsOk at h1
    rw [Bool.and_eq_true] at h1
    have := Pl.isIn_iff.1 h1.1
    have := HAN.out
    omega
  have HRUN := Lib.hid (fun l => Pl.runP_ok l 0 (Pl.newBank coins, []) (Pl.BI.new hok))
  rw [hok] at CA
  have HCN := Lib.hid (fun W (hb : Below W0.heap.size W0 W) => newBank_c coins A' n' c' W B (HA.out.keep fun b hb' => (hb.block b (by have := HBW.out; have := KS.out.bel0.size; omega)).trans (KS.out.bel0.block b (by have := HBW.out; omega))) (Nat.le_trans HBW.out (Nat.le_trans KS.out.bel0.size hb.size)) (by omega))
  clear hok
  go_upto_region 4 with first
    | (go_at_call 32; (with_reducible refine CA.mono ?_); clear CA; rintro e w6 ⟨rfl, hb6⟩; (replace KS := Lib.hid (KS.out.step hb6)); (have CN := HCN.out w6 hb6); clear hb6 HCN)
    | (go_at_call 33; (with_reducible refine CN.mono ?_); clear CN; rintro e w1 ⟨A0, A1, A2, A3, A4, c0, c1, c2, c3, c4, f0, f1, f2, f3, f4, rfl, hS⟩; (have KS1 := Lib.hid (KS.out.join hS)); clear hS)
  obtain ⟨iB, qB, qB0, qB1, qB2⟩ := info_parts Try.infoBoolW
  have hA0 := HAN.out
  obtain ⟨g0, rfl, -, -⟩ := Mm.sl_addr (KS1.out.sl 0 rfl) (by show 0 < coins.length; omega)
  obtain ⟨g1, rfl, -, -⟩ := Mm.sl_addr (KS1.out.sl 1 rfl) (by show 0 < (List.replicate _ _).length; rw [List.length_replicate, hA0]; exact Nat.mul_pos (by omega) (by omega))
  obtain ⟨g2, rfl, -, -⟩ := Mm.sl_addr (KS1.out.sl 2 rfl) (by show 0 < (List.replicate _ _).length; rw [List.length_replicate]; omega)
  obtain ⟨g3, rfl, -, -⟩ := Mm.sl_addr (KS1.out.sl 3 rfl) (by show 0 < (List.replicate _ _).length; rw [List.length_replicate]; omega)
  obtain ⟨g4, rfl, -, -⟩ := Mm.sl_addr (KS1.out.sl 4 rfl) (by show 0 < (List.replicate _ _).length; rw [List.length_replicate]; omega)
  obtain ⟨gt, hgt⟩ : ∃ gt, w1.heap.size = gt := ⟨_, rfl⟩
  have KS2 : Hid (BankS [] w (w1.alloc (.cells #[.slice (some ⟨g0, 0, none⟩) n' c0, .slice (some ⟨g1, 0, none⟩) (n' * n') c1, .slice (some ⟨g2, 0, none⟩) n' c2, .slice (some ⟨g3, 0, none⟩) n' c3, .slice (some ⟨g4, 0, none⟩) n' c4] 28)) gt n' (Pl.newBank coins) [Mm.tsl Mm.bool 4 [] (.slice none 0 0) [], Mm.tblk gz 28 zBk]) :=
    Lib.hid ⟨g0, g1, g2, g3, g4, c0, c1, c2, c3, c4, f0, f1, f2, f3, f4, ((KS1.out.alloc' hgt 28 [.slice (some ⟨g0, 0, none⟩) n' c0, .slice (some ⟨g1, 0, none⟩) (n' * n') c1, .slice (some ⟨g2, 0, none⟩) n' c2, .slice (some ⟨g3, 0, none⟩) n' c3, .slice (some ⟨g4, 0, none⟩) n' c4]).add (Below.refl _ _) (t := Mm.tsl Mm.bool 4 [] (.slice none 0 0) []) Mm.SlOwn.nil List.nodup_nil (fun b hb => by cases hb)).sel [1, 2, 3, 4, 5, 6, 0, 7] (by decide) rfl⟩
  rw [hgt]
  clear hgt KS KS1 hA0
  go_wp2
  go_loopg [8, 24] n (fun g d i wr => ∃ (k : Nat) (A2 : Option Addr) (c2 : Nat) (fpd : List Nat), n - k ≤ g ∧ k ≤ n ∧ d = .slice A2 k c2 ∧ i = .int .i64 k ∧ Hid (BankS [] w wr gt n' (Pl.runB (Pl.newBank coins) (l.take k)).1 [Mm.tsl Mm.bool 4 (Pl.runB (Pl.newBank coins) (l.take k)).2 (.slice A2 k c2) fpd, Mm.tblk gz 28 zBk]))
  case atStart => exact ⟨0, none, 0, [], Nat.le_refl _, Nat.zero_le _, rfl, rfl, KS2⟩
  case round =>
    clear KS2
    obtain ⟨k, A2, c2', fpd, hgk, hk', rfl, rfl, HS⟩ := hrel
    have hrun := HRUN.out (l.take k)
    rw [Nat.zero_add, List.length_take_of_le (l := l) (i := k) (by rw [HLN.out]; omega)] at hrun
    obtain ⟨p, hp⟩ : ∃ p, Pl.runB (Pl.newBank coins) (l.take k) = p := ⟨_, rfl⟩
    have hrun' : Pl.BI k p.1 ∧ p.2.length = k ∧ p.1.Coins.length = n' := by
      rw [← hp]
      exact ⟨hrun.1, hrun.2.1.trans (Nat.zero_add _), hrun.2.2.trans HAN.out⟩
    rw [hp] at HS
    have HBI := Lib.hid hrun'.1
    have HPL := Lib.hid hrun'.2.1
    have HPC := Lib.hid hrun'.2.2
    have HP := Lib.hid hp
    clear hp hrun hrun'
    have hbel : Below w.heap.size w wr := by
      obtain ⟨g0, g1, g2, g3, g4, c0, c1, c2, c3, c4, f0, f1, f2, f3, f4, hs⟩ := HS.out
      exact hs.bel0
    by_cases hlt : k < n
    · as_aux_lemma =>
      obtain ⟨s, b0, off, hx, rfl, hb, j0, j1, j2, j3, e0, e1, e2, e3⟩ := rSnapStep_get HL.out hlt
      have HN : Hid (Pl.runB (Pl.newBank coins) (l.take (k + 1)) = ((Pl.bstep p.1 s).1, p.2 ++ [(Pl.bstep p.1 s).2])) := Lib.hid (by rw [Pl.runB_next hx, HP.out])
      have hlt' : ((k : Nat) : Int) < ((n : Nat) : Int) := by omega
      have hb0 : b0 < w.heap.size := by have := HBW.out; omega
      replace e0 := below_some hbel e0
      replace e1 := below_some hbel e1
      replace e2 := below_some hbel e2
      replace e3 := below_some hbel e3
      have HS2 := Lib.hid (HS.out.put rfl 53 [.int .i64 s.Kind, .int .i64 s.From, .int .i64 s.To, .int .i64 s.Many])
      have HJ := Lib.hid (And.intro j0 (And.intro j1 (And.intro j2 j3)))
      clear hx j0 j1 j2 j3
      go_wp2_with (first
        | (go_at_call 34; (with_reducible refine (step_c p.1 s k n' gt [] w _ _ HS2.out HBI.out HPC.out (by omega) HJ.out).mono ?_); rintro e w9 ⟨rfl, hL⟩; obtain ⟨g0', g1', g2', g3', g4', c0', c1', c2'', c3', c4', f0', f1', f2', f3', f4', hs9⟩ := hL; (have HS3 := Lib.hid hs9); clear hs9)
        | (at_builtin; refine Mm.app_list HS3.out 7 rfl rfl (.tmp 28) (.tmp 31) 29 rfl iB _ 1 Try.underlying29 qB qB0 qB1 qB2 rfl (by decide) rfl rfl (fun W => ⟨rfl, trivial, rfl⟩) HPL.out (by unfold maxLen; omega) (by omega) ?_; intro g cap w' fp' hs; (have HS4 := Lib.hid hs); clear hs))
      go_roundg (n - (k + 1))
      case measure => omega
      case rel => exact ⟨k + 1, _, cap, fp', Nat.le_refl _, by omega, rfl, by go_num, by rw [HN.out]; exact ⟨g0', g1', g2', g3', g4', c0', c1', c2'', c3', c4', f0', f1', f2', f3', f4', HS4.out.sel [0, 1, 2, 3, 4, 5, 7, 8] (by decide) rfl⟩⟩
    · as_aux_lemma =>
      obtain rfl : k = n := by omega
      have HE : Hid (l.take k = l) := List.take_of_length_le (by rw [HLN.out]; exact Nat.le_refl _)
      have hlt' : ¬ ((k : Nat) : Int) < ((k : Nat) : Int) := by omega
      rw [HE.out] at HP
      rw [HP.out] at HF
      obtain ⟨g0, g1, g2, g3, g4, c0, c1, c2, c3, c4, f0, f1, f2, f3, f4, hs⟩ := HS.out
      have KS := Lib.hid hs
      clear hs HS
      have z0 := KS.out.frz (k := 0) 7 rfl
      have z1 := KS.out.frz (k := 1) 7 rfl
      have z2 := KS.out.frz (k := 2) 7 rfl
      have z3 := KS.out.frz (k := 3) 7 rfl
      have z4 := KS.out.frz (k := 4) 7 rfl
      have r0 := KS.out.cell (k := 0) 7 rfl rfl
      have r1 := KS.out.cell (k := 1) 7 rfl rfl
      have r2 := KS.out.cell (k := 2) 7 rfl rfl
      have r3 := KS.out.cell (k := 3) 7 rfl rfl
      have r4 := KS.out.cell (k := 4) 7 rfl rfl
      have b0 := KS.out.cell (k := 0) 0 rfl rfl
      have b1 := KS.out.cell (k := 1) 0 rfl rfl
      have b2 := KS.out.cell (k := 2) 0 rfl rfl
      have b3 := KS.out.cell (k := 3) 0 rfl rfl
      have b4 := KS.out.cell (k := 4) 0 rfl rfl
      obtain ⟨WF, hWF⟩ : ∃ W : World, (((((wr.setCell ⟨gz, 0, none⟩ (.slice (some ⟨g0, 0, none⟩) n' c0)).setCell ⟨gz, 1, none⟩ (.slice (some ⟨g1, 0, none⟩) (n' * n') c1)).setCell ⟨gz, 2, none⟩ (.slice (some ⟨g2, 0, none⟩) n' c2)).setCell ⟨gz, 3, none⟩ (.slice (some ⟨g3, 0, none⟩) n' c3)).setCell ⟨gz, 4, none⟩ (.slice (some ⟨g4, 0, none⟩) n' c4)) = W := ⟨_, rfl⟩
      have HSF := Lib.hid ((((((KS.out.setBlk (k := 0) 7 rfl (.slice (some ⟨g0, 0, none⟩) n' c0)).setBlk (k := 1) 7 rfl (.slice (some ⟨g1, 0, none⟩) (n' * n') c1)).setBlk (k := 2) 7 rfl (.slice (some ⟨g2, 0, none⟩) n' c2)).setBlk (k := 3) 7 rfl (.slice (some ⟨g3, 0, none⟩) n' c3)).setBlk (k := 4) 7 rfl (.slice (some ⟨g4, 0, none⟩) n' c4)).atW hWF)
      have u0 := HSF.out.cell (k := 0) 7 rfl rfl
      have u1 := HSF.out.cell (k := 1) 7 rfl rfl
      have u2 := HSF.out.cell (k := 2) 7 rfl rfl
      have u3 := HSF.out.cell (k := 3) 7 rfl rfl
      have u4 := HSF.out.cell (k := 4) 7 rfl rfl
      go_wp2
      rw [HF.out]
      exact bodyPost_ret (v := .tuple #[.agg #[.slice (some ⟨g0, 0, none⟩) n' c0, .slice (some ⟨g1, 0, none⟩) (n' * n') c1, .slice (some ⟨g2, 0, none⟩) n' c2, .slice (some ⟨g3, 0, none⟩) n' c3, .slice (some ⟨g4, 0, none⟩) n' c4], .slice A2 k c2', .bool true]) (by simp [results, Try.results9, go_sem, u0, u1, u2, u3, u4]) rfl ⟨[.slice (some ⟨g0, 0, none⟩) n' c0, .slice (some ⟨g1, 0, none⟩) (n' * n') c1, .slice (some ⟨g2, 0, none⟩) n' c2, .slice (some ⟨g3, 0, none⟩) n' c3, .slice (some ⟨g4, 0, none⟩) n' c4], A2, k, c2', _, fpd, rfl, (HSF.out.sel [1, 2, 3, 4, 5, 6] (by decide) rfl).bankW⟩
end Go.Proofs.Ytpmeagchkcffoaa

/-
  Contracts: the reference's bank by value; a node's picture (l12Picture). No conditions beyond those named.
-/
namespace Go.Proofs.Ytpmeagchkcffoaa
open Go.RowKit
attribute [local go_sem] und_cell cha_cell World.cell?_alloc_some
/-- a bank that the call owns, by value: its five slices -/
def BankV (F : List Nat) (w0 w : World) (n : Nat) (b : Bank) (cs : List Value) (rest : List Mm.Thing) : Prop :=
  ∃ g0 g1 g2 g3 g4 c0 c1 c2 c3 c4 f0 f1 f2 f3 f4, cs = [.slice (some ⟨g0, 0, none⟩) n c0, .slice (some ⟨g1, 0, none⟩) (n * n) c1, .slice (some ⟨g2, 0, none⟩) n c2, .slice (some ⟨g3, 0, none⟩) n c3, .slice (some ⟨g4, 0, none⟩) n c4] ∧ Mm.SepF F w0 w (Mm.tsl Mm.int 3 b.Coins (.slice (some ⟨g0, 0, none⟩) n c0) f0 :: Mm.tsl Mm.way 22 b.Ways (.slice (some ⟨g1, 0, none⟩) (n * n) c1) f1 :: Mm.tsl Mm.int 3 b.Kept (.slice (some ⟨g2, 0, none⟩) n c2) f2 :: Mm.tsl bools 29 b.Heard (.slice (some ⟨g3, 0, none⟩) n c3) f3 :: Mm.tsl ints 22 b.Found (.slice (some ⟨g4, 0, none⟩) n c4) f4 :: rest)
/-- a boxed bank, its box and the thing behind it let go -/
theorem unboxB {F : List Nat} {w0 w : World} {x a0 a1 a2 a3 a4 y : Mm.Thing} {rest : List Mm.Thing} (h : Mm.SepF F w0 w (x :: a0 :: a1 :: a2 :: a3 :: a4 :: y :: rest)) : Mm.SepF F w0 w (a0 :: a1 :: a2 :: a3 :: a4 :: rest) :=
  (h.tail.permE (List.perm_middle (l₁ := [a0, a1, a2, a3, a4]) (a := y) (l₂ := rest)).symm).tail
set_option maxRecDepth 100000 in
set_option maxHeartbeats 4000000 in
theorem l12Picture_c (b : Bank) (q n k : Nat) (cs : List Value) (F : List Nat) (w0 w : World) (rest : List Mm.Thing) (hV : BankV F w0 w n b cs rest) (hI : Pl.BI q b) (hn : b.Coins.length = n) (hk : k < n) (hq : q ≤ 900) :
    Calls Try.prog 53 #[.agg cs.toArray, .int .i64 k] w fun e w' => ∃ cs', e = .returned (.agg cs'.toArray) ∧ BankV F w0 w' n (Pl.brec b k) cs' rest := by
  obtain ⟨g0, g1, g2, g3, g4, c0, c1, c2, c3, c4, f0, f1, f2, f3, f4, rfl, hs⟩ := hV
  obtain ⟨ga, hga⟩ : ∃ g, w.heap.size = g := ⟨_, rfl⟩
  obtain ⟨gc, hgc⟩ : ∃ g, ga + 1 = g := ⟨_, rfl⟩
  obtain ⟨W0, hW0⟩ : ∃ W, (w.alloc (.cells #[.slice (some ⟨g0, 0, none⟩) n c0, .slice (some ⟨g1, 0, none⟩) (n * n) c1, .slice (some ⟨g2, 0, none⟩) n c2, .slice (some ⟨g3, 0, none⟩) n c3, .slice (some ⟨g4, 0, none⟩) n c4] 28)).alloc (.cells #[.slice none 0 0, .slice none 0 0, .slice none 0 0, .slice none 0 0, .slice none 0 0] 28) = W := ⟨_, rfl⟩
  have HS := Lib.hid ((((hs.alloc' hga 28 [.slice (some ⟨g0, 0, none⟩) n c0, .slice (some ⟨g1, 0, none⟩) (n * n) c1, .slice (some ⟨g2, 0, none⟩) n c2, .slice (some ⟨g3, 0, none⟩) n c3, .slice (some ⟨g4, 0, none⟩) n c4]).alloc' (g := gc) (by rw [Mm.sz1, hga, hgc]) 28 zBk).permE (List.perm_middle (l₁ := [_, _, _, _, _, _]))).atW hW0)
  clear hs
  have HI := Lib.hid hI
  have HN := Lib.hid hn
  have hn5 : n ≤ 5 := by rw [← hn]; exact hI.n5
  obtain ⟨cv, hcv⟩ : ∃ cv, b.Coins[k]? = some cv := ⟨_, List.getElem?_eq_getElem (by omega)⟩
  obtain ⟨kv, hkv⟩ : ∃ kv, b.Kept[k]? = some kv := ⟨_, List.getElem?_eq_getElem (by rw [hI.ke]; omega)⟩
  have HCV := Lib.hid hcv
  have HKV := Lib.hid hkv
  have HCI : Hid (Mm.I64 cv) := Lib.hid (by have := hI.cb cv (List.mem_of_getElem? hcv); unfold Mm.I64; omega)
  obtain ⟨iI, qI, qI0, qI1, qI2⟩ := info_parts Try.infoIntB
  have fk1 : (0 : Int) ≤ (k : Nat) := by omega
  have fk2 : ((k : Nat) : Int).toNat = k := by omega
  have fk3 : (k : Int) < (n : Nat) := by omega
  clear hI hn hcv hkv
  go_enter Try.func53, Try.ntmps53
  go_upto_region 1 with fail
  clear hW0 hga hgc
  have b0 := HS.out.cell (k := 0) 0 rfl rfl
  have b2 := HS.out.cell (k := 2) 0 rfl rfl
  have d0 := int_ocell (HS.out.sl 1 rfl) (HS.out.ndat (i := 1) rfl) HCV.out
  have d2 := int_ocell (HS.out.sl 3 rfl) (HS.out.ndat (i := 3) rfl) HKV.out
  go_upto_region 2 with fail
  refine wp_region_und_tail 9 (by kernel_rfl) (by kernel_rfl) ?_
  simp only [List.take_succ_cons, List.take_zero, List.drop_succ_cons, List.drop_zero]
  repeat (go_big_quiet_step ((first | fail)))
  refine wpQuiet_nil ?_
  intro X hX
  have HS1 := Lib.hid (HS.out.step hX)
  clear hX HS b0 b2 d0 d2
  have d2 := int_ocell (HS1.out.sl 3 rfl) (HS1.out.ndat (i := 3) rfl) HKV.out
  have z2 := (HS1.out.sl 3 rfl).frozen k
  obtain ⟨W1, hW1⟩ : ∃ W, X.setCell ⟨g2, k, none⟩ (.int .i64 cv) = W := ⟨_, rfl⟩
  have HS2 := Lib.hid ((HS1.out.putInt (y := cv) 3 rfl HKV.out HCI.out).atW hW1)
  go_upto_region 3 with fail
  clear hW1 d2 z2 HS1
  have KS : Hid (Mm.SepF F w0 W1 (Mm.tblk ga 28 [.slice (some ⟨g0, 0, none⟩) n c0, .slice (some ⟨g1, 0, none⟩) (n * n) c1, .slice (some ⟨g2, 0, none⟩) n c2, .slice (some ⟨g3, 0, none⟩) n c3, .slice (some ⟨g4, 0, none⟩) n c4] :: Mm.tsl Mm.int 3 b.Coins (.slice (some ⟨g0, 0, none⟩) n c0) f0 :: Mm.tsl Mm.way 22 (Pl.recW n k 0 b.Ways) (.slice (some ⟨g1, 0, none⟩) (n * n) c1) f1 :: Mm.tsl Mm.int 3 (b.Kept.set k cv) (.slice (some ⟨g2, 0, none⟩) n c2) f2 :: Mm.tsl bools 29 b.Heard (.slice (some ⟨g3, 0, none⟩) n c3) f3 :: Mm.tsl ints 22 b.Found (.slice (some ⟨g4, 0, none⟩) n c4) f4 :: Mm.tblk gc 28 zBk :: rest)) := HS2
  clear HS2
  go_wp2
  go_loopg [6] n (fun gg i wr => ∃ (j : Nat) (f1 : List Nat), n - j ≤ gg ∧ j ≤ n ∧ i = .int .i64 j ∧ Hid (Mm.SepF F w0 wr (Mm.tblk ga 28 [.slice (some ⟨g0, 0, none⟩) n c0, .slice (some ⟨g1, 0, none⟩) (n * n) c1, .slice (some ⟨g2, 0, none⟩) n c2, .slice (some ⟨g3, 0, none⟩) n c3, .slice (some ⟨g4, 0, none⟩) n c4] :: Mm.tsl Mm.int 3 b.Coins (.slice (some ⟨g0, 0, none⟩) n c0) f0 :: Mm.tsl Mm.way 22 (Pl.recW n k j b.Ways) (.slice (some ⟨g1, 0, none⟩) (n * n) c1) f1 :: Mm.tsl Mm.int 3 (b.Kept.set k cv) (.slice (some ⟨g2, 0, none⟩) n c2) f2 :: Mm.tsl bools 29 b.Heard (.slice (some ⟨g3, 0, none⟩) n c3) f3 :: Mm.tsl ints 22 b.Found (.slice (some ⟨g4, 0, none⟩) n c4) f4 :: Mm.tblk gc 28 zBk :: rest)))
  case atStart => exact ⟨0, f1, Nat.le_refl _, Nat.zero_le _, rfl, KS⟩
  case round =>
    clear KS f1
    obtain ⟨j, f1, hg, hj, rfl, HS⟩ := hrel
    obtain ⟨W, rfl⟩ : ∃ W : World, W = wr := ⟨_, rfl⟩
    by_cases hlt : j < n
    · have f1' : (j : Int) < (n : Nat) := by omega
      by_cases hjk : j = k
      · as_aux_lemma =>
        have HE : Hid (Pl.recW n k (j + 1) b.Ways = Pl.recW n k j b.Ways) := Lib.hid (by
          show (if j = k then _ else _) = _
          rw [if_pos hjk])
        have q1 : ((j : Int) != (k : Nat)) = false := by simp; omega
        clear hjk
        go_wp2
        go_roundg (n - (j + 1))
        case measure => omega
        case rel => exact ⟨j + 1, f1, Nat.le_refl _, by omega, by go_num, by rw [HE.out]; exact HS⟩
      · as_aux_lemma =>
        have q1 : ((j : Int) != (k : Nat)) = true := by simp; omega
        obtain ⟨p0, hp0⟩ : ∃ p, k * n = p := ⟨_, rfl⟩
        obtain ⟨p, hp⟩ : ∃ p, p0 + j = p := ⟨_, rfl⟩
        have hpn : p < n * n := by rw [← hp, ← hp0]; exact sq_lt hk hlt
        have hn25 := sq_le hn5
        have m1 : IntKind.i64.wrap ((k : Int) * (n : Nat)) = (p0 : Nat) := by
          rw [show (k : Int) * (n : Nat) = ((k * n : Nat) : Int) by push_cast; rfl, hp0]
          exact IntWalk.i64_in _ (by omega)
        have m2 : IntKind.i64.wrap ((p0 : Int) + (j : Nat)) = (p : Nat) := by
          rw [show (p0 : Int) + (j : Nat) = ((p0 + j : Nat) : Int) by push_cast; rfl, hp]
          exact IntWalk.i64_in _ (by omega)
        have m3 : (0 : Int) ≤ (p : Nat) := by omega
        have m4 : ((p : Nat) : Int).toNat = p := by omega
        have m5 : (p : Int) < ((n * n : Nat) : Int) := by omega
        obtain ⟨row, hrow⟩ : ∃ row, (Pl.recW n k j b.Ways)[p]? = some row := ⟨_, List.getElem?_eq_getElem (by rw [Pl.recW_len, HI.out.wa, HN.out]; exact hpn)⟩
        have HE : Hid (Pl.recW n k (j + 1) b.Ways = (Pl.recW n k j b.Ways).set p (row ++ [0])) := Lib.hid (by
          show (if j = k then _ else _) = _
          rw [if_neg hjk, hp0, hp, hrow]; rfl)
        have hrl : row.length ≤ 1000 := by have := Pl.recW_row (n := n) (k := k) HI.out.wl j row (List.mem_of_getElem? hrow); omega
        have HROW := Lib.hid hrow
        obtain ⟨cs, fx, ⟨v, rfl, hown⟩, hfn, hfs, hc, hnext⟩ := HS.out.swap 2 rfl hrow
        have ec := hc 0 _ rfl
        rw [show p * Mm.way.size + 0 = p by show p * 1 + 0 = p; omega] at ec
        obtain ⟨A5, n5', c5, rfl, hn5', _⟩ := hown.form
        have HNX := Lib.hid hnext
        have HGO := Lib.hid (And.intro hown hfn)
        have b1 := HS.out.cell (k := 1) 0 rfl rfl
        have nb : ga ∉ fx := fun hh => HS.out.apart (i := 0) (j := 2) rfl rfl (by decide) ga (by simp [Mm.tblk]) (hfs _ hh).1
        have ng : g1 ∉ fx := fun hh => (hfs _ hh).2 rfl
        have hgl : g1 < W.heap.size := (HS.out.sl 2 rfl).olt g1 (HS.out.sl 2 rfl).mem_block
        have zr := (HS.out.sl 2 rfl).frozen p
        clear hp0 hp hpn hjk hrow hown hfn hfs hc hnext hn5'
        go_upto_region 7 with fail
        refine Mm.wp_region_give 19 (fun i => match i with | 16 => some (Mm.gBs 3 [.int .i64 0]) | 17 => some (Mm.gWay (row ++ [0])) | _ => none) (fun i => match i with | 17 => [16, 20] | _ => []) (fun i => match i with | 20 => [Mm.tway row (.slice A5 n5' c5) fx] | _ => []) (F := fx) (D := fun w' => ∃ z : Cha fx W, w' = cha fx W z) (fun X us h => Mm.sep_cha h) (by kernel_rfl) (by kernel_rfl) (by kernel_rfl) (Mm.sep_eq ((Mm.SepF.one (Mm.tway row (.slice A5 n5' c5) fx) W HGO.out.1 HGO.out.2).step (Below.refl _ _).drew) rfl) ?_
        repeat (refine Mm.give_det (by rfl) (by rfl) (by rfl) (fun K hK => ?_); go_big_quiet_op; refine hK _ ?_; clear hK K)
        refine Mm.give_op0 43 (by rfl) rfl (by rfl) (by rfl) (by rfl) (by rfl) Mm.gBs_in (fun others X6 hX6 => ?_) ?_
        · go_wp2
          exact Mm.gvq_bs hX6 rfl rfl rfl
        rintro v ds' ⟨gs, rfl, rfl⟩
        simp only [Act.put, List.setIfInBounds_toArray, List.set_cons_succ, List.set_cons_zero]
        refine Mm.give_op2 44 16 20 (by rfl) rfl (by rfl) (by rfl) (by rfl) rfl (by rfl) (by rfl) (by rfl) _ _ rfl rfl Mm.gWay_in (fun others X6 hX6 => Mm.app_gvw rfl (.tmp 42) (.tmp 43) 22 rfl 44 rfl (by rfl) iI _ Try.underlying22 qI qI0 qI1 qI2 rfl rfl rfl (by constructor <;> omega) hrl hX6) ?_
        rintro v ds' ⟨A8, n8, c8, f8, rfl, rfl, hn8⟩
        simp only [Act.put, List.setIfInBounds_toArray, List.set_cons_succ, List.set_cons_zero]
        repeat (refine Mm.give_det (by rfl) (by rfl) (by rfl) (fun K hK => ?_); go_big_quiet_op; refine hK _ ?_; clear hK K)
        refine Mm.give_nil ?_
        rintro X7 hX7
        have hx7 : Mm.SepF fx W X7 [Mm.tway (row ++ [0]) (.slice A8 n8 c8) f8] := Mm.sep_eq hX7 rfl
        have d4 : X7.cell? ⟨g1, p, none⟩ = some (.slice A5 n5' c5) := (World.cell?_of_block (hx7.chg.block g1 hgl ng)).trans ec
        have z4 : X7.frozen? ⟨g1, p, none⟩ = false := (World.frozen?_of_block (hx7.chg.block g1 hgl ng)).trans zr
        obtain ⟨fp5, hs5⟩ := HNX.out X7 (row ++ [0]) 0 (.slice A8 n8 c8) f8 hx7.chg (by decide) ⟨_, rfl, hx7.at_ 0 rfl⟩ (hx7.ndat (i := 0) rfl) (fun b hb => hx7.new b (Mm.SepF.mem (i := 0) rfl hb))
        rw [show p * Mm.way.size + 0 = p by show p * 1 + 0 = p; omega] at hs5
        have HS5 := Lib.hid hs5
        clear hX7 hx7 hs5 ec b1 nb ng hgl zr
        go_wp2
        go_roundg (n - (j + 1))
        case measure => omega
        case rel => exact ⟨j + 1, fp5, Nat.le_refl _, by omega, by go_num, by rw [HE.out]; exact HS5⟩
    · as_aux_lemma =>
      obtain rfl : j = n := by omega
      have f1' : ¬ ((j : Nat) : Int) < (j : Nat) := by omega
      have HF : Hid (Pl.brec b k = ⟨b.Coins, Pl.recW j k j b.Ways, b.Kept.set k cv, b.Heard, b.Found⟩) := Lib.hid (by unfold Pl.brec Pl.coinAt; rw [HN.out, HCV.out]; rfl)
      have z0 := HS.out.frz (k := 0) 6 rfl
      have z1 := HS.out.frz (k := 1) 6 rfl
      have z2 := HS.out.frz (k := 2) 6 rfl
      have z3 := HS.out.frz (k := 3) 6 rfl
      have z4 := HS.out.frz (k := 4) 6 rfl
      have r0 := HS.out.cell (k := 0) 6 rfl rfl
      have r1 := HS.out.cell (k := 1) 6 rfl rfl
      have r2 := HS.out.cell (k := 2) 6 rfl rfl
      have r3 := HS.out.cell (k := 3) 6 rfl rfl
      have r4 := HS.out.cell (k := 4) 6 rfl rfl
      have b0 := HS.out.cell (k := 0) 0 rfl rfl
      have b1 := HS.out.cell (k := 1) 0 rfl rfl
      have b2 := HS.out.cell (k := 2) 0 rfl rfl
      have b3 := HS.out.cell (k := 3) 0 rfl rfl
      have b4 := HS.out.cell (k := 4) 0 rfl rfl
      obtain ⟨WF, hWF⟩ : ∃ WQ : World, (((((W.setCell ⟨gc, 0, none⟩ (.slice (some ⟨g0, 0, none⟩) j c0)).setCell ⟨gc, 1, none⟩ (.slice (some ⟨g1, 0, none⟩) (j * j) c1)).setCell ⟨gc, 2, none⟩ (.slice (some ⟨g2, 0, none⟩) j c2)).setCell ⟨gc, 3, none⟩ (.slice (some ⟨g3, 0, none⟩) j c3)).setCell ⟨gc, 4, none⟩ (.slice (some ⟨g4, 0, none⟩) j c4)) = WQ := ⟨_, rfl⟩
      have HSF := Lib.hid ((((((HS.out.setBlk (k := 0) 6 rfl (.slice (some ⟨g0, 0, none⟩) j c0)).setBlk (k := 1) 6 rfl (.slice (some ⟨g1, 0, none⟩) (j * j) c1)).setBlk (k := 2) 6 rfl (.slice (some ⟨g2, 0, none⟩) j c2)).setBlk (k := 3) 6 rfl (.slice (some ⟨g3, 0, none⟩) j c3)).setBlk (k := 4) 6 rfl (.slice (some ⟨g4, 0, none⟩) j c4)).atW hWF)
      have u0 := HSF.out.cell (k := 0) 6 rfl rfl
      have u1 := HSF.out.cell (k := 1) 6 rfl rfl
      have u2 := HSF.out.cell (k := 2) 6 rfl rfl
      have u3 := HSF.out.cell (k := 3) 6 rfl rfl
      have u4 := HSF.out.cell (k := 4) 6 rfl rfl
      go_wp2
      exact bodyPost_ret (v := .agg #[.slice (some ⟨g0, 0, none⟩) j c0, .slice (some ⟨g1, 0, none⟩) (j * j) c1, .slice (some ⟨g2, 0, none⟩) j c2, .slice (some ⟨g3, 0, none⟩) j c3, .slice (some ⟨g4, 0, none⟩) j c4]) (by simp [results, Try.results53, go_sem, u0, u1, u2, u3, u4]) rfl ⟨_, rfl, by rw [HF.out]; exact ⟨g0, g1, g2, g3, g4, c0, c1, c2, c3, c4, _, _, _, _, _, rfl, unboxB HSF.out⟩⟩
end Go.Proofs.Ytpmeagchkcffoaa

/-
  slices.Delete of one element, on slices whose elements lead nowhere. No program in sight. No conditions.
-/
namespace Go.Proofs.Ytpmeagchkcffoaa
open Go.RowKit
namespace Mm
/-- elements of several cells that lead nowhere -/
structure FlatN {α : Type} (E : Rep α) (enc : α → List Value) : Prop where
  pos : 0 < E.size
  inv : ∀ {w x cs fx}, E.own w x cs fx → cs = enc x ∧ fx = [] ∧ ∀ w', E.own w' x (enc x) []
theorem flatMap_len {α : Type} {s : Nat} {enc : α → List Value} : ∀ {xs : List α}, (∀ x, x ∈ xs → (enc x).length = s) → (xs.flatMap enc).length = xs.length * s
  | [], _ => by simp
  | a :: t, h => by
    rw [List.flatMap_cons, List.length_append, h a (by simp), flatMap_len (fun x hx => h x (List.mem_cons_of_mem _ hx)), List.length_cons, Nat.succ_mul]; omega
theorem flatMap_drop {α : Type} {s : Nat} {enc : α → List Value} : ∀ {xs : List α} (k : Nat), (∀ x, x ∈ xs → (enc x).length = s) → (xs.drop k).flatMap enc = (xs.flatMap enc).drop (k * s)
  | xs, 0, _ => by simp
  | [], k + 1, _ => by simp
  | a :: t, k + 1, h => by
    rw [List.drop_succ_cons, List.flatMap_cons, flatMap_drop k (fun x hx => h x (List.mem_cons_of_mem _ hx)), List.drop_append, h a (by simp), List.drop_eq_nil_of_le (show (enc a).length ≤ (k + 1) * s by rw [h a (by simp), Nat.succ_mul]; omega), List.nil_append]
    congr 1
    rw [Nat.succ_mul]; omega
theorem flatMap_take {α : Type} {s : Nat} {enc : α → List Value} : ∀ {xs : List α} (k : Nat), (∀ x, x ∈ xs → (enc x).length = s) → (xs.take k).flatMap enc = (xs.flatMap enc).take (k * s)
  | xs, 0, _ => by simp
  | [], k + 1, _ => by simp
  | a :: t, k + 1, h => by
    rw [List.take_succ_cons, List.flatMap_cons, List.flatMap_cons, flatMap_take k (fun x hx => h x (List.mem_cons_of_mem _ hx)), List.take_append, h a (by simp), List.take_of_length_le (show (enc a).length ≤ (k + 1) * s by rw [h a (by simp), Nat.succ_mul]; omega)]
    congr 2
    rw [Nat.succ_mul]; omega
section
variable {α : Type} {E : Rep α} {enc : α → List Value} {e : TypeId} {w w' : World} {xs : List α} {v : Value} {fp : List Nat} {g n c : Nat}
theorem FlatN.owns (hF : FlatN E enc) (h : SlOwn E e w xs v fp) : w.ownsRow 0 e E.size v xs.length (xs.flatMap enc) ∧ fp = v.ownBlock.toList ∧ (∀ x, x ∈ xs → ∀ w', E.own w' x (enc x) []) ∧ ∀ x, x ∈ xs → (enc x).length = E.size := by
  obtain ⟨es, he, ho, rfl⟩ := h
  have h1 : es = xs.map fun x => (enc x, ([] : List Nat)) := by
    apply List.ext_getElem?
    intro i
    rw [List.getElem?_map]
    rcases Nat.lt_or_ge i xs.length with hi | hi
    · have hx := List.getElem?_eq_getElem hi
      have hy := List.getElem?_eq_getElem (show i < es.length by rw [he.1]; exact hi)
      have h2 := hF.inv (he.2 i _ _ hx hy)
      rw [hx, hy]
      exact congrArg some (Prod.ext h2.1 h2.2.1)
    · rw [List.getElem?_eq_none hi, List.getElem?_eq_none (by rw [he.1]; exact hi)]
      rfl
  have h3 : (xs.map fun x => (enc x, ([] : List Nat))).flatMap (·.1) = xs.flatMap enc := by rw [List.flatMap_map]
  have h4 : (xs.map fun x => (enc x, ([] : List Nat))).flatMap (·.2) = [] := by simp [List.flatMap_map]
  have h5 : ∀ x, x ∈ xs → ∀ w', E.own w' x (enc x) [] := fun x hx w' => by
    obtain ⟨i, hi, rfl⟩ := List.mem_iff_getElem.1 hx
    exact (hF.inv (he.2 i _ _ (List.getElem?_eq_getElem hi) (List.getElem?_eq_getElem (show i < es.length by rw [he.1]; exact hi)))).2.2 w'
  refine ⟨?_, by rw [h1, h4]; simp, h5, fun x hx => E.olen (h5 x hx w)⟩
  rw [h1, h3] at ho
  exact ho
theorem FlatN.blk (hF : FlatN E enc) (h : SlOwn E e w xs (.slice (some ⟨g, 0, none⟩) n c) fp) : ∃ cur, Blk w g e cur ∧ cur.length = c * E.size ∧ cur.take (n * E.size) = xs.flatMap enc ∧ n = xs.length ∧ n ≤ c ∧ c ≤ maxLen ∧ fp = [g] := by
  obtain ⟨h1, h2, _⟩ := hF.owns h
  rcases h1.2 with ⟨h3, _⟩ | ⟨g', cap, cur, h3, _, hg, hnc, hcm, hcs, htake⟩
  · simp at h3
  · simp only [Value.slice.injEq, Option.some.injEq, Addr.mk.injEq, and_true] at h3
    obtain ⟨rfl, rfl, rfl⟩ := h3
    refine ⟨cur.toList, by unfold Blk; rw [Array.toArray_toList]; exact hg, by simpa using hcs, by simpa using htake, rfl, hnc, hcm, by rw [h2]; simp [Value.ownBlock]⟩
theorem FlatN.of_blk (_hF : FlatN E enc) {cur : List Value} (h : Blk w g e cur) (hl : cur.length = c * E.size) (ht : cur.take (n * E.size) = xs.flatMap enc) (hn : xs.length = n) (hnc : n ≤ c) (hc : c ≤ maxLen) (hE : ∀ x, x ∈ xs → E.own w x (enc x) []) : SlOwn E e w xs (.slice (some ⟨g, 0, none⟩) n c) [g] := by
  subst hn
  refine SlOwn.of_row (enc := enc) ⟨by simp [flatMap_len fun x hx => E.olen (hE x hx)], .inr ⟨g, c, cur.toArray, rfl, Nat.zero_le _, h, hnc, hc, by simpa using hl, by simpa using ht⟩⟩ hE ?_
  simp
/-- behind slices.Delete of element k: what follows has moved up, the last place is cleared -/
theorem FlatN.erase (hF : FlatN E enc) (h : SlOwn E e w xs (.slice (some ⟨g, 0, none⟩) n c) fp) {k : Nat} (hk : k < n) {z : List Value} (hz : z.length = E.size) {o1 o2 : Nat} (h1 : k * E.size = o1) (h2 : (n - 1) * E.size = o2) :
    Chg fp w ((w.drew.setCells g o1 ((xs.drop (k + 1)).flatMap enc)).setCells g o2 z) ∧ SlOwn E e ((w.drew.setCells g o1 ((xs.drop (k + 1)).flatMap enc)).setCells g o2 z) (xs.eraseIdx k) (.slice (some ⟨g, 0, none⟩) (n - 1) c) fp := by
  subst h1; subst h2
  obtain ⟨_, _, hown, hlen⟩ := hF.owns h
  obtain ⟨cur, hb, hcl, ht, rfl, hnc, hcm, rfl⟩ := hF.blk h
  have hb0 : Blk w.drew g e cur := hb
  have hb2 := setCells_blk z _ ((xs.length - 1) * E.size) _ (setCells_blk ((xs.drop (k + 1)).flatMap enc) _ (k * E.size) _ hb0)
  refine ⟨((Chg.of_below (Below.refl w.heap.size w).drew).trans (setCells_chg g _ _ _)).trans (setCells_chg g _ _ _), ?_⟩
  have hsub : ∀ x, x ∈ xs.eraseIdx k → x ∈ xs := fun x hx => List.mem_of_mem_eraseIdx hx
  have hdl : ((xs.drop (k + 1)).flatMap enc).length = (xs.length - 1 - k) * E.size := by
    rw [flatMap_len (s := E.size) (fun x hx => hlen x (List.mem_of_mem_drop hx)), List.length_drop]; congr 1; omega
  have e1 : k * E.size + (xs.length - 1 - k) * E.size = (xs.length - 1) * E.size := by rw [← Nat.add_mul]; congr 1; omega
  have e2 : (xs.length - 1) * E.size + E.size = xs.length * E.size := by rw [← Nat.succ_mul]; congr 1; omega
  have e3 : xs.length * E.size ≤ cur.length := by rw [hcl]; exact Nat.mul_le_mul_right _ hnc
  have e4 : k * E.size + E.size = (k + 1) * E.size := (Nat.succ_mul _ _).symm
  refine hF.of_blk hb2 (by rw [setList_len, setList_len, hcl]) ?_ (List.length_eraseIdx_of_lt hk) (by omega) hcm (fun x hx => hown x (hsub x hx) _)
  have hE : (xs.eraseIdx k).flatMap enc = (xs.flatMap enc).take (k * E.size) ++ (xs.flatMap enc).drop ((k + 1) * E.size) := by
    rw [List.eraseIdx_eq_take_drop_succ, List.flatMap_append, flatMap_take k hlen, flatMap_drop (k + 1) hlen]
  have hfl : (xs.flatMap enc).length = xs.length * E.size := flatMap_len hlen
  apply List.ext_getElem?
  intro j
  rw [hE, List.getElem?_take]
  by_cases hj : j < (xs.length - 1) * E.size
  · rw [if_pos hj, setList_get _ _ _ _ (by rw [setList_len]; omega), if_neg (by omega), setList_get _ _ _ _ (by rw [hdl]; omega), hdl]
    by_cases hjk : j < k * E.size
    · rw [if_neg (by omega), List.getElem?_append_left (by rw [List.length_take, hfl]; omega), List.getElem?_take, if_pos hjk, ← ht, List.getElem?_take, if_pos (by omega)]
    · rw [if_pos (by omega), List.getElem?_append_right (by rw [List.length_take]; omega), flatMap_drop (k + 1) hlen, List.length_take, hfl, Nat.min_eq_left (by omega)]
  · rw [if_neg hj, List.getElem?_append_right (by rw [List.length_take]; omega), List.getElem?_drop, List.length_take, hfl, Nat.min_eq_left (by omega), List.getElem?_eq_none (by rw [hfl]; omega)]
/-- the cells behind element k -/
theorem FlatN.cells (hF : FlatN E enc) (h : SlOwn E e w xs (.slice (some ⟨g, 0, none⟩) n c) fp) {j : Nat} {u : Value} (hj : (xs.flatMap enc)[j]? = some u) : w.cell? ⟨g, j, none⟩ = some u := by
  obtain ⟨cur, hb, hcl, ht, rfl, hnc, hcm, rfl⟩ := hF.blk h
  refine hb.cell ?_
  rw [← ht, List.getElem?_take] at hj
  split at hj
  · exact hj
  · cases hj
end
theorem run_clear_one {P : Program} (w : World) (t e ty : TypeId) (z : Value) (ht : P.underlying t = some (.slice e)) (hv : ∀ w, (zeroValue e).run P w = .ok z w) (h1 : ∀ u ∈ z.cells, u.oneCell' = true) (b o c : Nat)
    (hc : ∀ j, j < z.cells.size → (w.cell? ⟨b, o + j, none⟩).isSome = true) (hf : ∀ j, j < z.cells.size → w.frozen? ⟨b, o + j, none⟩ = false) :
    (Builtin.clear_ #[t] ty #[.slice (some ⟨b, o, none⟩) 1 c]).run P w = .ok (.tuple #[]) (w.setCells b o z.cells.toList) := by
  have hzc : (Builtin.zeroCells z.cells 1).toList = z.cells.toList := by
    apply List.ext_getElem?
    intro j
    by_cases hj : j < z.cells.size
    · simp [Builtin.zeroCells, hj, Nat.mod_eq_of_lt hj]
    · simp [Builtin.zeroCells, hj]
  have hst := run_storeCells_cells (P := P) b o z.cells.toList 0 w (by simpa using hc) (by simpa using hf) (by intro u hu; exact h1 u (by simpa using hu))
  simp only [Nat.add_zero] at hst
  simp [Builtin.clear_, run_underlying ht, hv, hzc, hst]
end Mm
end Go.Proofs.Ytpmeagchkcffoaa

/-
  append of a whole slice of flat elements to a slice that the call owns; slices cut from the right and from the left. No program in sight. No conditions.
-/
namespace Go.Proofs.Ytpmeagchkcffoaa
open Go.RowKit
namespace Mm
section
variable {P : Program} {α : Type} {E : Rep α} {enc : α → List Value} {F : List Nat} {w0 wr : World} {ts : List Thing} {xs ys : List α} {A : Option Addr} {n c B : Nat} {e : TypeId} {v : Value} {fp : List Nat}
theorem SepF.appMany (hF : Flat E enc) (hN : FlatN E enc) (t ty : TypeId) (i : TypeInfo) (z : Value) (bytes : Nat) (ht : P.underlying t = some (.slice e)) (hi : P.info? e = some i) (hz : i.zero = some z) (hsize : i.size = E.size) (hby : i.bytes = bytes) (hzs : z.cells.size = E.size)
    (h : SepF F w0 wr ts) (k : Nat) (hk : ts[k]? = some (tsl E e ys v fp)) (hl : SlAt E wr B xs A n c) (hn : ys.length + n ≤ maxLen) (hbytes : (ys.length + n) * bytes ≤ 140737488355328) :
    ∃ A2 c2 fp' w1, (Builtin.append_ #[t, t] ty #[v, .slice A n c]).run P wr = .ok (.slice A2 (ys.length + n) c2) w1 ∧ SepF F w0 w1 (ts.set k (tsl E e (ys ++ xs) (.slice A2 (ys.length + n) c2) fp')) := by
  have hs : SlOwn E e wr ys v fp := h.at_ k hk
  obtain ⟨hown, hfp, hys, hlen⟩ := hN.owns hs
  have hE : ∀ w1 x, x ∈ xs → E.own w1 x (enc x) [] := fun w1 x hx => by
    obtain ⟨k, hk, rfl⟩ := List.mem_iff_getElem.1 hx
    obtain ⟨y, b, off, cs, hy, _, _, ha, _⟩ := hl.get (k := k) (by rw [← hl.1]; exact hk)
    rw [List.getElem?_eq_getElem hk] at hy
    injection hy with hy
    subst hy
    exact hF.own ha w1
  have main : ∀ v' w1, w1.ownsRow 0 e E.size v' (ys.length + n) (ys.flatMap enc ++ xs.flatMap enc) → wr.grownBy w1 v.ownBlock → (v'.ownBlock = v.ownBlock ∨ v'.ownBlock = some wr.heap.size) → ∃ A2 c2 fp', v' = .slice A2 (ys.length + n) c2 ∧ SepF F w0 w1 (ts.set k (tsl E e (ys ++ xs) (.slice A2 (ys.length + n) c2) fp')) := fun v' w1 k1 k2 k3 => by
    rw [← List.flatMap_append] at k1
    have hs1 : SlOwn E e w1 (ys ++ xs) v' v'.ownBlock.toList := SlOwn.of_row (enc := enc) (by rw [List.length_append, hl.1]; exact k1) (fun x hx => by
      rcases List.mem_append.1 hx with hx | hx
      · exact hys x hx w1
      · exact hE w1 x hx) rfl
    obtain ⟨A2, n2, c2, hv, hn2, _⟩ := hs1.form
    subst hv
    rw [List.length_append, hl.1] at hn2
    subst hn2
    refine ⟨A2, c2, _, rfl, h.upd hk (Chg.mk k2.os k2.tape k2.output k2.size fun b hb hn => k2.block b hb (fun hh => hn (row_in hs hh.symm))) (t' := tsl E e (ys ++ xs) (.slice A2 (ys.length + n) c2) _) hs1 (by simp only [tsl]; cases (Value.slice A2 (ys.length + n) c2).ownBlock <;> simp) (fun b hb => ?_)⟩
    simp only [tsl, Option.mem_toList] at hb
    rcases k3 with h3 | h3
    · rw [h3] at hb; exact .inl (row_in hs (by rw [Option.mem_def.1 hb]))
    · rw [h3] at hb; injection hb with hb; exact .inr (by omega)
  cases A with
  | none =>
    have hc0 : c = 0 := hl.2.2.2.1 rfl
    have hn0 : n = 0 := by have := hl.2.1; omega
    subst hc0; subst hn0
    have hx0 : xs = [] := List.length_eq_zero_iff.1 hl.1
    have hr := run_append_owned_none (P := P) wr 0 t ty e i E.size ht hi _ _ _ hown
    obtain ⟨A2, c2, fp', hv, hS⟩ := main _ wr (by rw [hx0]; simpa using hown) ⟨rfl, rfl, rfl, Nat.le_refl _, fun _ _ _ => rfl⟩ (.inl rfl)
    exact ⟨A2, c2, fp', wr, by rw [hr, hv], hS⟩
  | some a =>
    obtain ⟨v', w1, hr, h2, h3, _, h5⟩ := run_append_own_at (P := P) wr 0 t ty e i z E.size bytes ht hi hz hsize hby hzs hN.pos _ _ _ hown a n c (xs.flatMap enc) (flat_len (fun x cs h => hF.at_ h) hl) (flat_cells' (fun x cs h => hF.at_ h) hl) (fun u hu => by
      obtain ⟨x, hx, hu⟩ := List.mem_flatMap.1 hu
      exact E.one (hE wr x hx) u hu) hn hbytes (Nat.zero_le _)
    obtain ⟨A2, c2, fp', hv, hS⟩ := main v' w1 h2 h3 h5
    exact ⟨A2, c2, fp', w1, by rw [hr, hv], hS⟩
theorem wpList_appMany {ops : Array Oper} {rest : List Oper} {o : Oper} {a : Act} {Q : Exit → Act → World → Prop} {m : Nat} (hgd : o.guard = none) (s x : Operand) (t : TypeId)
    (ho : o.op = .call { callee := .builtin .append, args := #[s, x], argTypes := #[t, t] })
    (hF : Flat E enc) (hN : FlatN E enc) (i : TypeInfo) (z : Value) (bytes : Nat) (ht : P.underlying t = some (.slice e)) (hi : P.info? e = some i) (hz : i.zero = some z) (hsize : i.size = E.size) (hby : i.bytes = bytes) (hzs : z.cells.size = E.size)
    (h : SepF F w0 wr ts) (k : Nat) (hk : ts[k]? = some (tsl E e ys v fp)) (hl : SlAt E wr B xs A n c) (hm : ys.length + n = m) (hn : m ≤ maxLen) (hbytes : m * bytes ≤ 140737488355328) (hs : a.eval s = v) (hx : a.eval x = .slice A n c)
    (hnext : ∀ A2 c2 fp' w1, SepF F w0 w1 (ts.set k (tsl E e (ys ++ xs) (.slice A2 m c2) fp')) → wpList P ops Q rest (a.put o.dst (.slice A2 m c2)) w1) : wpList P ops Q (o :: rest) a wr := by
  subst hm
  refine wpList_plain hgd fun K hK => ?_
  obtain ⟨A2, c2, fp', w1, hr, h2⟩ := h.appMany (P := P) hF hN t o.type i z bytes ht hi hz hsize hby hzs k hk hl hn hbytes
  unfold Oper.wp execOp
  simp only [ho, resolve, invoke, builtin, Sem.run_bind, Sem.run_pure, Result.andThen_ok, List.map_toArray, List.map_cons, List.map_nil, hs, hx, hr]
  exact hK _ _ (hnext A2 c2 fp' w1 h2)
/-- a slice that is owned, read -/
theorem SepF.rdSl (h : SepF F w0 wr ts) (k : Nat) (hk : ts[k]? = some (tsl E e ys (.slice A n c) fp)) : SlAt E wr wr.heap.size ys A n c := (h.sl k hk).weak fun b hb => (h.sl k hk).olt b hb
/-- cut from the left, as Go lays it -/
theorem SlAt.cut {w : World} {g j : Nat} (h : SlAt E w B xs (some ⟨g, 0, none⟩) n c) (hj : j ≤ n) {s : Nat} (hs : E.size = s) : ∃ A', (if c = j then (some ⟨g, 0, none⟩ : Option Addr) else some ⟨g, j * s, none⟩) = A' ∧ SlAt E w B (xs.drop j) A' (n - j) (c - j) := by
  subst hs
  by_cases hc : c = j
  · rw [if_pos hc]
    have hn : n = j := by have := h.2.1; omega
    subst hn
    have hx : xs.drop n = [] := List.drop_eq_nil_of_le (by rw [h.1]; exact Nat.le_refl _)
    rw [hx, Nat.sub_self]
    exact ⟨_, rfl, SlAt.nil (by have := h.2.2.1; omega) (fun hh => by cases hh)⟩
  · rw [if_neg hc]
    have := h.drop hj
    rw [Nat.zero_add] at this
    exact ⟨_, rfl, this⟩
/-- 's[j:]', the bound an int, as one equation -/
theorem run_cut {P : Program} {t : TypeId} {s : Nat} (ht : P.underlying t = some (.slice (P.elem t))) (hs : ∀ W, (sizeOf (P.elem t)).run P W = .ok s W) {g n c : Nat} {j : Nat} {i : Int} (hi : i = j) (hj : j ≤ n) (W : World) :
    (Instr.slice t (.slice (some ⟨g, 0, none⟩) n c) (some (.int .i64 i)) none none).run P W = .ok (.slice (if c = j then (some ⟨g, 0, none⟩ : Option Addr) else some ⟨g, j * s, none⟩) (n - j) (c - j)) W := by
  subst hi
  rw [run_slice_l W t _ n c ht .i64 (j : Int) (by omega) (by omega), hs]
  simp only [Result.andThen_ok, sliced, Int.toNat_natCast]
  congr 1
  by_cases h : c = j
  · simp [h]
  · simp only [h, if_false, Option.map_some, Addr.add]
    by_cases h0 : j * s = 0
    · simp [h0]
    · simp [h0]
/-- an empty slice, just laid -/
theorem SepF.fresh {g : Nat} (h : SepF F w0 wr ts) (hg : wr.heap.size = g) (E : Rep α) (e : TypeId) : SepF F w0 (wr.alloc (.cells #[] e)) (tsl E e [] (.slice (some ⟨g, 0, none⟩) 0 0) [g] :: ts) := by
  have h1 := h.alloc' hg e []
  refine h1.conv (by simp [tblk, tsl]) (List.forall_mem_cons.2 ⟨?_, fun u hu => h1.hold u (List.mem_cons_of_mem _ hu)⟩)
  have hb : Blk (wr.alloc (.cells #[] e)) g e [] := h1.at_ 0 rfl
  exact ⟨[], ⟨rfl, fun i x y h => by simp at h⟩, ⟨by simp, .inr ⟨g, 0, #[], rfl, Nat.zero_le _, hb, Nat.le_refl _, Nat.zero_le _, by simp, by simp⟩⟩, by simp [Value.ownBlock]⟩
end
end Mm
end Go.Proofs.Ytpmeagchkcffoaa

/-
  'append([]T{}, l...)' inside a region that draws its order and gives; an empty slice just laid; the two ways of telling what a call owns. No program in sight. No conditions.
-/
namespace Go.Proofs.Ytpmeagchkcffoaa
open Go.RowKit
namespace Mm
theorem Sep.toF {w0 wr : World} {ts : List Thing} (h : Sep w0 wr ts) : SepF [] w0 wr ts := ⟨Chg.of_below h.bel, h.nd, fun b hb => .inr (h.new b hb), h.hold⟩
theorem SepF.toSep {w0 wr : World} {ts : List Thing} (h : SepF [] w0 wr ts) : Sep w0 wr ts := ⟨h.bel0, h.nd, fun b hb => (h.new b hb).resolve_left (fun h => by cases h), h.hold⟩
section
variable {P : Program} {F : List Nat} {w X : World} {ops : Array Oper} {o : Oper} {a a' : Act} {others tk : List Thing} {vals : List Value} {α : Type} {E : Rep α} {enc : α → List Value} {e : TypeId} {xs : List α} {v : Value} {fp : List Nat} {A : Option Addr} {n c B : Nat}
theorem clone_gvq (hgd : o.guard = none) (s y : Operand) (t : TypeId) (ho : o.op = .call { callee := .builtin .append, args := #[s, y], argTypes := #[t, t] }) (d : Nat) (hd : o.dst = some d) (hs : Nat.blt d a.tmps.size = true)
    (hF : Flat E enc) (hN : FlatN E enc) (i : TypeInfo) (z : Value) (bytes : Nat) (ht : P.underlying t = some (.slice e)) (hi : P.info? e = some i) (hz : i.zero = some z) (hsize : i.size = E.size) (hby : i.bytes = bytes) (hzs : z.cells.size = E.size)
    (hsv : a.eval s = v) (hyv : a.eval y = .slice A n c) (hl : SlAt E X B xs A n c) (hn : n ≤ maxLen) (hbytes : n * bytes ≤ 140737488355328)
    (hS : SepF F w X ([tsl E e [] v fp] ++ others)) : wpList P ops (GvQ F w (gSl E e xs vals tk) d a.defers others) [o] a X := by
  refine wpList_appMany hgd s y t ho hF hN i z bytes ht hi hz hsize hby hzs hS 0 rfl hl (m := n) (by simp) hn hbytes hsv hyv ?_
  intro A2 c2 fp' w1 h1
  have e1 : ((a.put o.dst (.slice A2 n c2)).tmps.getD d undef) = .slice A2 n c2 := by
    rw [hd]; exact put_get (by simpa [Nat.blt_eq] using hs) _
  unfold wpList
  exact ⟨rfl, by rw [hd]; rfl, _, ⟨A2, n, c2, fp', e1, rfl, hl.1.symm⟩, h1⟩
theorem gvq_fresh {g d : Nat} {df : List Deferred} (h : SepF F w X others) (hg : X.heap.size = g) (hv : a'.tmps.getD d undef = .slice (some ⟨g, 0, none⟩) 0 0) (hdf : a'.defers = df) : GvQ F w (gSl E e [] vals tk) d df others .normal a' (X.alloc (.cells #[] e)) :=
  ⟨rfl, hdf, _, ⟨_, _, _, _, hv, rfl, rfl⟩, h.fresh hg E e⟩
end
end Mm
end Go.Proofs.Ytpmeagchkcffoaa

/-
  From the form's own reading of an argument to the readings of Mm: for numbers, strings, structs and slices of whatever depth. No program in sight. No conditions.
-/
namespace Go.Proofs.Ytpmeagchkcffoaa
open Go.ChangeShapes Go.WideShapes Go.RowKit Go.Deep
namespace Mm

def Opens {α : Type} (P : Program) (t : TypeId) (E : Rep α) : Prop :=
  P.cellsOf t = E.size ∧ ∀ (H : Type) (enc : TypeId × Value → H) (w : World) (base : Nat) (spare : Nat → Bool) (held : Bool) (fuel : Nat) (cs : List Value) (x : DataW H × List MemPlace),
    DataW.trod enc P w base spare held fuel t cs = some x → ∃ y, E.at_ w w.heap.size y cs

variable {P : Program} {t e : TypeId}

theorem opens_int (ht : P.underlying t = some (.int .i64)) (hc : P.cellsOf t = 1) : Opens P t int := ⟨hc, fun H enc w base spare held fuel cs x h => by
  obtain ⟨n, rfl, _, hw⟩ := DataW.trod_int ht h
  refine ⟨n, rfl, ?_⟩
  simp [Lit.wf, IntKind.min, IntKind.max, IntKind.signed, IntKind.bits] at hw
  unfold I64
  omega⟩
theorem opens_bool (ht : P.underlying t = some .bool) (hc : P.cellsOf t = 1) : Opens P t bool := ⟨hc, fun H enc w base spare held fuel cs x h => by
  obtain ⟨n, rfl, _⟩ := DataW.trod_bool ht h
  exact ⟨n, rfl, trivial⟩⟩
theorem opens_str (ht : P.underlying t = some .string) (hc : P.cellsOf t = 1) : Opens P t str := ⟨hc, fun H enc w base spare held fuel cs x h => by
  obtain ⟨n, rfl, _, hw⟩ := DataW.trod_string ht h
  exact ⟨n, rfl, hw⟩⟩
theorem opens_map {α β : Type} {E : Rep α} {F : Rep β} (h : Opens P t E) (hs : E.size = F.size) (hc : ∀ w B x cs, E.at_ w B x cs → ∃ y, F.at_ w B y cs) : Opens P t F :=
  ⟨h.1.trans hs, fun H enc w base spare held fuel cs x hx => by
    obtain ⟨y, hy⟩ := h.2 H enc w base spare held fuel cs x hx
    exact hc _ _ _ _ hy⟩
theorem opens_slice {α : Type} {E : Rep α} (ht : P.underlying t = some (.slice e)) (hc : P.cellsOf t = 1) (h0 : 0 < E.size) (hE : Opens P e E) : Opens P t (slice E e) := ⟨hc, fun H enc w base spare held fuel cs x h => by
  rcases open_slice ht h with ⟨rfl, _⟩ | ⟨a, len, cap, m, n, D, Pl, rfl, hb, hl, hm, hmm, _, hi⟩
  · exact ⟨[], none, 0, 0, rfl, SlAt.nil (Nat.zero_le _) (fun _ => rfl)⟩
  · have hle : len ≤ m := by rw [hmm]; split <;> omega
    have hex : ∀ i : Fin len, ∃ y : α, ∃ cs', E.at_ w w.heap.size y cs' ∧ cs'.length = E.size ∧ ∀ j, j < E.size → w.cell? (a.add (i.1 * E.size + j)) = cs'[j]? := by
      intro i
      obtain ⟨cs', h1, h2⟩ := hi i.1 (by have := i.2; omega)
      obtain ⟨y, hy⟩ := hE.2 H enc w base spare held n cs' _ h2
      obtain ⟨_, hln, hcell⟩ := World.cells?_some h1
      rw [hE.1] at hln hcell
      exact ⟨y, cs', hy, hln, fun j hj => by rw [← Go.Deep.add_add]; exact hcell j hj⟩
    refine ⟨List.ofFn fun i : Fin len => Classical.choose (hex i), some a, len, cap, rfl, by simp, hl, hm, (fun h => by cases h), fun i y hy => ?_⟩
    have hil : i < len := by
      have := (List.getElem?_eq_some_iff.1 hy).1
      simpa using this
    obtain ⟨cs', h1, h2, h3⟩ := Classical.choose_spec (hex ⟨i, hil⟩)
    have hey : Classical.choose (hex ⟨i, hil⟩) = y := by
      rw [List.getElem?_ofFn] at hy
      simpa [hil] using hy
    rw [hey] at h1
    obtain ⟨cs0, _, h20, h30⟩ := Classical.choose_spec (hex ⟨0, by omega⟩)
    have hc0 := h30 0 h0
    rw [List.getElem?_eq_getElem (by omega)] at hc0
    obtain ⟨b, off, spot⟩ := a
    have hsp : spot = none := by
      have := World.cell?_spot hc0
      simpa [Addr.add] using this
    subst hsp
    have hadd : ∀ k : Nat, (⟨b, off, none⟩ : Addr).add k = ⟨b, off + k, none⟩ := fun k => by unfold Addr.add; split <;> simp_all
    refine ⟨b, off, cs', rfl, ?_, h1, fun j u hu => ?_⟩
    · have := World.block_lt_of_cell? w _ hc0
      rw [hadd] at this
      exact this
    · have hj : j < cs'.length := (List.getElem?_eq_some_iff.1 hu).1
      have := h3 j (by omega)
      rw [hu, hadd] at this
      rw [Nat.add_assoc]
      exact this⟩

def OpensF {α : Type} (P : Program) (l : List Field) (off : Nat) (E : Rep α) : Prop :=
  ∀ (H : Type) (enc : TypeId × Value → H) (w : World) (base : Nat) (spare : Nat → Bool) (held : Bool) (n : Nat) (cs : List Value), cs.length = off + E.size →
    (∀ (i : Nat) (f : Field), l[i]? = some f → ∃ x, DataW.trod enc P w base spare held n f.type ((cs.drop f.offset).take (P.cellsOf f.type)) = some x) → ∃ y, E.at_ w w.heap.size y (cs.drop off)
theorem opensF_one {α : Type} {E : Rep α} {f : Field} {off : Nat} (ho : f.offset = off) (h : Opens P f.type E) : OpensF P [f] off E := fun H enc w base spare held n cs hl hf => by
  obtain ⟨x, hx⟩ := hf 0 f rfl
  obtain ⟨y, hy⟩ := h.2 H enc w base spare held n _ x hx
  rw [ho, h.1, List.take_of_length_le (by rw [List.length_drop]; omega)] at hy
  exact ⟨y, hy⟩
theorem opensF_cons {α β : Type} {E : Rep α} {F : Rep β} {f : Field} {l : List Field} {off : Nat} (ho : f.offset = off) (h : Opens P f.type E) (hr : OpensF P l (off + E.size) F) : OpensF P (f :: l) off (pair E F) :=
  fun H enc w base spare held n cs hl hf => by
    obtain ⟨x, hx⟩ := hf 0 f rfl
    obtain ⟨y, hy⟩ := h.2 H enc w base spare held n _ x hx
    rw [ho, h.1] at hy
    have hl' : cs.length = off + E.size + F.size := by rw [hl]; show off + (E.size + F.size) = _; omega
    obtain ⟨z, hz⟩ := hr H enc w base spare held n cs hl' (fun i g hg => hf (i + 1) g (by simpa using hg))
    refine ⟨(y, z), _, _, ?_, hy, hz⟩
    rw [← List.drop_drop, List.take_append_drop]
theorem opens_struct {α : Type} {E : Rep α} {fs : Array Field} (ht : P.underlying t = some (.struct fs)) (hc : P.cellsOf t = E.size) (h : OpensF P fs.toList 0 E) : Opens P t E := ⟨hc, fun H enc w base spare held fuel cs x hx => by
  obtain ⟨ys, n, _, _, hlen, hyl, hf⟩ := DataW.trod_struct ht hx
  have := h H enc w base spare held n cs (by rw [hlen, hc]; omega) (fun i f hi => by
    have hi' : i < fs.size := by
      have := (List.getElem?_eq_some_iff.1 hi).1
      simpa using this
    have h2 := hf i f (by rw [← Array.getElem?_toList]; exact hi)
    rw [List.getElem?_eq_getElem (by omega)] at h2
    exact ⟨_, h2⟩)
  simpa using this⟩

/-- a parameter that is a slice -/
theorem open_sl {H : Type} {enc : TypeId × Value → H} {w : World} {base : Nat} {spare : Nat → Bool} {held : Bool} {r : Reach} {b0 : Nat} {v : Value} {d : DataW H} {p : List MemPlace} {α : Type} {E : Rep α}
    (ho : Opens P t (slice E e)) (ht : P.underlying t = some (.slice e)) (hv : Value.okWide P w r b0 t v) (h : DataW.Trod enc P w base spare held t v d p) :
    ∃ A n c xs, v = .slice A n c ∧ SlAt E w w.heap.size xs A n c := by
  obtain ⟨A, n, c, rfl⟩ := okWide_slice ht hv
  obtain ⟨fuel, hf⟩ := h
  obtain ⟨xs, A', n', c', he, hx⟩ := ho.2 H enc w base spare held fuel _ _ hf
  simp [Value.cells] at he
  obtain ⟨rfl, rfl, rfl⟩ := he
  exact ⟨A, n, c, xs, rfl, hx⟩
/-- a parameter that is a struct -/
theorem open_st {H : Type} {enc : TypeId × Value → H} {w : World} {base : Nat} {spare : Nat → Bool} {held : Bool} {r : Reach} {b0 : Nat} {v : Value} {d : DataW H} {p : List MemPlace} {α : Type} {E : Rep α} {fs : Array Field}
    (ho : Opens P t E) (ht : P.underlying t = some (.struct fs)) (hv : Value.okWide P w r b0 t v) (h : DataW.Trod enc P w base spare held t v d p) :
    ∃ (cs : List Value) (x : α), v = .agg cs.toArray ∧ E.at_ w w.heap.size x cs := by
  obtain ⟨cs, rfl, _⟩ := okWide_struct ht hv
  obtain ⟨fuel, hf⟩ := h
  obtain ⟨x, hx⟩ := ho.2 H enc w base spare held fuel _ _ hf
  exact ⟨cs.toList, x, by simp, hx⟩
end Mm
end Go.Proofs.Ytpmeagchkcffoaa

/-
  Contracts: slices.Insert with one element, at ints; slices.Delete likewise. No conditions beyond those named.
-/
namespace Go.Proofs.Ytpmeagchkcffoaa
open Go.RowKit
theorem Mm.Chg.grown {g : Nat} {w w' : World} (h : Mm.Chg [g] w w') : w.grownBy w' (some g) := ⟨h.os, h.tape, h.output, h.size, fun k hk hn => h.block k hk (fun hm => hn (by rw [List.mem_singleton.1 hm]))⟩
theorem Mm.Chg.grown0 {row : Option Nat} {w w' : World} (h : Below w.heap.size w w') : w.grownBy w' row := ⟨h.os, h.tape, h.output, h.size, fun k hk _ => h.block k hk⟩
theorem Mm.zeroCells_len (z : Array Value) (m : Nat) : (Builtin.zeroCells z m).size = m * z.size := by simp [Builtin.zeroCells]
theorem Mm.flatN_int' : Mm.FlatN Mm.int (fun x : Int => [Value.int .i64 x]) := ⟨by decide, fun h => by
  obtain ⟨rfl, h1, rfl⟩ := h
  exact ⟨rfl, rfl, fun w' => ⟨rfl, h1, rfl⟩⟩⟩
end Go.Proofs.Ytpmeagchkcffoaa

/-
  Contracts: the reference's bank by value: an item taken (l12Take). No conditions beyond those named.
-/
namespace Go.Proofs.Ytpmeagchkcffoaa
open Go.RowKit
attribute [local go_sem] und_cell cha_cell World.cell?_alloc_some
theorem boxV {F : List Nat} {w0 w : World} {gb n : Nat} {b : Bank} {g0 g1 g2 g3 g4 c0 c1 c2 c3 c4 : Nat} {f0 f1 f2 f3 f4 : List Nat} {t : Mm.Thing} {rest : List Mm.Thing} (h : Mm.SepF F w0 w (t :: Mm.tsl Mm.int 3 b.Coins (.slice (some ⟨g0, 0, none⟩) n c0) f0 :: Mm.tsl Mm.way 22 b.Ways (.slice (some ⟨g1, 0, none⟩) (n * n) c1) f1 :: Mm.tsl Mm.int 3 b.Kept (.slice (some ⟨g2, 0, none⟩) n c2) f2 :: Mm.tsl bools 29 b.Heard (.slice (some ⟨g3, 0, none⟩) n c3) f3 :: Mm.tsl ints 22 b.Found (.slice (some ⟨g4, 0, none⟩) n c4) f4 :: rest)) :
    BankV F w0 w n b [.slice (some ⟨g0, 0, none⟩) n c0, .slice (some ⟨g1, 0, none⟩) (n * n) c1, .slice (some ⟨g2, 0, none⟩) n c2, .slice (some ⟨g3, 0, none⟩) n c3, .slice (some ⟨g4, 0, none⟩) n c4] (t :: rest) :=
  ⟨g0, g1, g2, g3, g4, c0, c1, c2, c3, c4, f0, f1, f2, f3, f4, rfl, h.permE (List.perm_middle (l₁ := [_, _, _, _, _]))⟩
theorem boxF {F : List Nat} {w0 w : World} {t a0 a1 a2 a3 a4 : Mm.Thing} {rest : List Mm.Thing} (h : Mm.SepF F w0 w (a0 :: a1 :: a2 :: a3 :: a4 :: t :: rest)) : Mm.SepF F w0 w (t :: a0 :: a1 :: a2 :: a3 :: a4 :: rest) :=
  h.permE (List.perm_middle (l₁ := [a0, a1, a2, a3, a4]) (a := t) (l₂ := rest)).symm
set_option maxRecDepth 100000 in
set_option maxHeartbeats 4000000 in
theorem l12Take_c (b : Bank) (q n f t p : Nat) (x : Int) (r : List Int) (cs : List Value) (F : List Nat) (w0 w : World) (rest : List Mm.Thing) (hV : BankV F w0 w n b cs rest) (hI : Pl.BI q b) (hn : b.Coins.length = n) (hf : f < n) (ht : t < n) (hp : f * n + t = p) (hrow : b.Ways[p]? = some (x :: r)) (hq : q ≤ 900) :
    Calls Try.prog 55 #[.agg cs.toArray, .int .i64 f, .int .i64 t] w fun e w' => ∃ cs', e = .returned (.agg cs'.toArray) ∧ BankV F w0 w' n (Pl.btake (Pl.setWay b p r) f t x) cs' rest := by
  obtain ⟨g0, g1, g2, g3, g4, c0, c1, c2, c3, c4, f0, f1, f2, f3, f4, rfl, hs⟩ := hV
  obtain ⟨ga, hga⟩ : ∃ g, w.heap.size = g := ⟨_, rfl⟩
  obtain ⟨gc, hgc⟩ : ∃ g, ga + 1 = g := ⟨_, rfl⟩
  obtain ⟨W0, hW0⟩ : ∃ W, (w.alloc (.cells #[.slice (some ⟨g0, 0, none⟩) n c0, .slice (some ⟨g1, 0, none⟩) (n * n) c1, .slice (some ⟨g2, 0, none⟩) n c2, .slice (some ⟨g3, 0, none⟩) n c3, .slice (some ⟨g4, 0, none⟩) n c4] 28)).alloc (.cells #[.slice none 0 0, .slice none 0 0, .slice none 0 0, .slice none 0 0, .slice none 0 0] 28) = W := ⟨_, rfl⟩
  have HS := Lib.hid ((((hs.alloc' hga 28 [.slice (some ⟨g0, 0, none⟩) n c0, .slice (some ⟨g1, 0, none⟩) (n * n) c1, .slice (some ⟨g2, 0, none⟩) n c2, .slice (some ⟨g3, 0, none⟩) n c3, .slice (some ⟨g4, 0, none⟩) n c4]).alloc' (g := gc) (by rw [Mm.sz1, hga, hgc]) 28 zBk).permE (List.perm_middle (l₁ := [_, _, _, _, _, _]))).atW hW0)
  clear hs
  have HI := Lib.hid hI
  have HN := Lib.hid hn
  have HROW := Lib.hid hrow
  have hn5 : n ≤ 5 := by rw [← hn]; exact hI.n5
  have hn25 := sq_le hn5
  obtain ⟨p0, hp0⟩ : ∃ p, f * n = p := ⟨_, rfl⟩
  have hpn : p < n * n := by rw [← hp]; exact sq_lt hf ht
  have m1 : IntKind.i64.wrap ((f : Int) * (n : Nat)) = (p0 : Nat) := by
    rw [show (f : Int) * (n : Nat) = ((f * n : Nat) : Int) by push_cast; rfl, hp0]
    exact IntWalk.i64_in _ (by omega)
  have m2 : IntKind.i64.wrap ((p0 : Int) + (t : Nat)) = (p : Nat) := by
    rw [show (p0 : Int) + (t : Nat) = ((p0 + t : Nat) : Int) by push_cast; rfl, ← hp0, hp]
    exact IntWalk.i64_in _ (by omega)
  have m3 : (0 : Int) ≤ (p : Nat) := by omega
  have m4 : ((p : Nat) : Int).toNat = p := by omega
  have m5 : (p : Int) < ((n * n : Nat) : Int) := by omega
  have hx50 := hI.wb _ (List.mem_of_getElem? hrow) x List.mem_cons_self
  have hrl0 := hI.wl _ (List.mem_of_getElem? hrow)
  rw [List.length_cons] at hrl0
  have ff1 : (0 : Int) ≤ (f : Nat) := by omega
  have ff2 : ((f : Nat) : Int).toNat = f := by omega
  have ff3 : (f : Int) < (n : Nat) := by omega
  have ft1 : (0 : Int) ≤ (t : Nat) := by omega
  have ft2 : ((t : Nat) : Int).toNat = t := by omega
  have ft3 : (t : Int) < (n : Nat) := by omega
  obtain ⟨iI, qI, qI0, qI1, qI2⟩ := info_parts Try.infoIntB
  obtain ⟨cs, fx, ⟨v, rfl, hown⟩, hfn, hfs, hc, hnext⟩ := HS.out.swap 2 rfl hrow
  have ec := hc 0 _ rfl
  rw [show p * Mm.way.size + 0 = p by show p * 1 + 0 = p; omega] at ec
  obtain ⟨A5, nw, c5, rfl, hnw, _⟩ := hown.form
  obtain ⟨g, o, rfl, hn6, hnc6, hxi, hcell, hpop, hpop1⟩ := hown.pop
  have HNX := Lib.hid hnext
  have HGO := Lib.hid (And.intro hown hfn)
  have EC := Lib.hid ec
  have h1n : 1 ≤ nw := by omega
  have h1n' : (0 : Int) < (nw : Nat) := by omega
  have b0 := HS.out.cell (k := 0) 0 rfl rfl
  have b1 := HS.out.cell (k := 1) 0 rfl rfl
  have HP1 := Lib.hid hpop
  have HP2 := Lib.hid hpop1
  have hn900 : nw ≤ 900 := by omega
  have hlt := Lib.hid hown.olt
  clear hI hn hrow hp hp0 hpn hown hfn hfs hc hnext hnw hxi hpop hpop1 hn6 hrl0
  go_enter Try.func55, Try.ntmps55
  go_upto_region 1 with fail
  clear hW0 hga hgc
  go_upto_region 2 with fail
  by_cases hc1 : c5 = 1
  · as_aux_lemma =>
    subst hc1
    obtain rfl : nw = 1 := by omega
    have HRD := Lib.hid ((HP2.out rfl).weak (B := W0.heap.size) hlt.out)
    go_upto_region 3 with fail
    refine Mm.wp_region_give 20 (fun i => match i with | 7 => some (Mm.gSl Mm.int 3 []) | 18 => some (Mm.gSl Mm.int 3 r) | _ => none) (fun i => match i with | 18 => [7] | _ => []) (fun _ => []) (F := []) (D := fun w' => ∃ z : Und W0, w' = und W0 z) (fun X us h => Mm.sep_und h) (by kernel_rfl) (by kernel_rfl) (by kernel_rfl) (Mm.SepF.startDrew _) ?_
    repeat (refine Mm.give_det (by rfl) (by rfl) (by rfl) (fun K hK => ?_); go_big_quiet_op; refine hK _ ?_; clear hK K)
    refine Mm.give_op0 30 (by rfl) rfl (by rfl) (by rfl) (by rfl) (by rfl) Mm.gSl_in (fun others X hX => ?_) ?_
    · go_wp2
      exact Mm.gvq_fresh hX rfl rfl rfl
    rintro v ds ⟨A7, n7, c7, f7, rfl, rfl, hn7⟩
    simp only [Act.put, List.setIfInBounds_toArray, List.set_cons_succ, List.set_cons_zero]
    repeat (refine Mm.give_det (by rfl) (by rfl) (by rfl) (fun K hK => ?_); go_big_quiet_op; refine hK _ ?_; clear hK K)
    refine Mm.give_op1 41 7 (by rfl) rfl (by rfl) (by rfl) (by rfl) rfl (by rfl) _ rfl Mm.gSl_in (fun others X hX => Mm.clone_gvq rfl (.tmp 30) (.tmp 40) 22 rfl 41 rfl (by rfl) Mm.flat_int Mm.flatN_int' iI _ 8 Try.underlying22 qI qI0 qI1 qI2 rfl rfl rfl (HRD.out.keep (fun b hb => hX.bel0.block b (by omega))) (by unfold maxLen; omega) (by omega) hX) ?_
    rintro v ds ⟨A8, n8, c8, f8, rfl, rfl, hn8⟩
    simp only [Act.put, List.setIfInBounds_toArray, List.set_cons_succ, List.set_cons_zero]
    repeat (refine Mm.give_det (by rfl) (by rfl) (by rfl) (fun K hK => ?_); go_big_quiet_op; refine hK _ ?_; clear hK K)
    refine Mm.give_nil ?_
    rintro X hX
    have hx7 : Mm.SepF [] W0 X [Mm.tsl Mm.int 3 r (.slice A8 n8 c8) f8] := Mm.sep_eq hX rfl
    have d4 : X.cell? ⟨g1, p, none⟩ = some (.slice (some ⟨g, o, none⟩) 1 1) := below_some hx7.bel0 EC.out
    have z4 : X.frozen? ⟨g1, p, none⟩ = false := below_fz hx7.bel0 (by rw [EC.out]; rfl) ((HS.out.sl 2 rfl).frozen p)
    obtain ⟨fp5, hs5⟩ := HNX.out X r 0 (.slice A8 n8 c8) f8 (hx7.chg.more (fun b hb => by cases hb)) (by decide) ⟨_, rfl, Mm.OffOwn.of_sl (hx7.at_ 0 rfl)⟩ (hx7.ndat (i := 0) rfl) (fun b hb => (hx7.new b (Mm.SepF.mem (i := 0) rfl hb)).elim (fun h => by cases h) .inr)
    rw [show p * Mm.way.size + 0 = p by show p * 1 + 0 = p; omega] at hs5
    obtain ⟨W3, hW3⟩ : ∃ WQ : World, X.setCell ⟨g1, p, none⟩ (.slice A8 n8 c8) = WQ := ⟨_, rfl⟩
    have hs6 := hs5.atW hW3
    obtain ⟨b1, hb1⟩ : ∃ b1, b1 = Pl.setWay b p r := ⟨_, rfl⟩
    have HS3 : Hid (Mm.SepF F w0 W3 (Mm.tblk ga 28 [.slice (some ⟨g0, 0, none⟩) n c0, .slice (some ⟨g1, 0, none⟩) (n * n) c1, .slice (some ⟨g2, 0, none⟩) n c2, .slice (some ⟨g3, 0, none⟩) n c3, .slice (some ⟨g4, 0, none⟩) n c4] :: Mm.tsl Mm.int 3 b1.Coins (.slice (some ⟨g0, 0, none⟩) n c0) f0 :: Mm.tsl Mm.way 22 b1.Ways (.slice (some ⟨g1, 0, none⟩) (n * n) c1) fp5 :: Mm.tsl Mm.int 3 b1.Kept (.slice (some ⟨g2, 0, none⟩) n c2) f2 :: Mm.tsl bools 29 b1.Heard (.slice (some ⟨g3, 0, none⟩) n c3) f3 :: Mm.tsl ints 22 b1.Found (.slice (some ⟨g4, 0, none⟩) n c4) f4 :: Mm.tblk gc 28 zBk :: rest)) := by rw [hb1]; exact Lib.hid hs6
    have HI1 : Hid (Pl.BI q b1) := Lib.hid (by rw [hb1]; exact HI.out.pop HROW.out)
    have HN1 : Hid (b1.Coins.length = n) := Lib.hid (by rw [hb1]; exact HN.out)
    have HB1 := Lib.hid hb1
    clear hb1 hs5 hs6 hx7 hX
    go_upto_region 4 with fail
    clear d4 z4 hW3
    obtain ⟨cv, hcv⟩ : ∃ cv, b1.Coins[t]? = some cv := ⟨_, List.getElem?_eq_getElem (by rw [HN1.out]; exact ht)⟩
    obtain ⟨kv, hkv⟩ : ∃ kv, b1.Kept[t]? = some kv := ⟨_, List.getElem?_eq_getElem (by rw [HI1.out.ke, HN1.out]; exact ht)⟩
    obtain ⟨hr, hhr⟩ : ∃ r, b1.Heard[t]? = some r := ⟨_, List.getElem?_eq_getElem (by rw [HI1.out.he, HN1.out]; exact ht)⟩
    obtain ⟨fr, hfr⟩ : ∃ r, b1.Found[f]? = some r := ⟨_, List.getElem?_eq_getElem (by rw [HI1.out.fo, HN1.out]; exact hf)⟩
    have hrl := HI1.out.hr hr (List.mem_of_getElem? hhr)
    have frl := HI1.out.fr fr (List.mem_of_getElem? hfr)
    obtain ⟨hv, hhv⟩ : ∃ v, hr[f]? = some v := ⟨_, List.getElem?_eq_getElem (by rw [hrl, HN1.out]; exact hf)⟩
    obtain ⟨fv, hfv⟩ : ∃ v, fr[t]? = some v := ⟨_, List.getElem?_eq_getElem (by rw [frl, HN1.out]; exact ht)⟩
    have HCV := Lib.hid hcv
    have HKV := Lib.hid hkv
    have HHR := Lib.hid hhr
    have HFR := Lib.hid hfr
    have HHV := Lib.hid hhv
    have HFV := Lib.hid hfv
    have hcb := HI1.out.cb cv (List.mem_of_getElem? hcv)
    have hfb := HI1.out.fb fr (List.mem_of_getElem? hfr) fv (List.mem_of_getElem? hfv)
    have HKA := Lib.hid (Pl.keptAt_of hkv)
    have HHA := Lib.hid (Pl.heardAt_of hhr hhv)
    clear hcv hkv hhr hfr hhv hfv
    by_cases hx0 : 0 < x
    · have b0 := HS3.out.cell (k := 0) 0 rfl rfl
      have d0 := int_ocell (HS3.out.sl 1 rfl) (HS3.out.ndat (i := 1) rfl) HCV.out
      have z0 := (HS3.out.sl 1 rfl).frozen t
      obtain ⟨cw, hcw⟩ : ∃ cw, cv + x = cw := ⟨_, rfl⟩
      have m1 : IntKind.i64.wrap (cv + x) = cw := by rw [IntWalk.i64_in _ (by omega)]; exact hcw
      have HCI : Hid (Mm.I64 cw) := Lib.hid (by unfold Mm.I64; omega)
      have HAC : Hid (Pl.addCoin b1 t x = ⟨b1.Coins.set t cw, b1.Ways, b1.Kept, b1.Heard, b1.Found⟩) := Lib.hid (by unfold Pl.addCoin; rw [Pl.coinAt_of HCV.out, hcw])
      obtain ⟨W1, hW1⟩ : ∃ W, W3.setCell ⟨g0, t, none⟩ (.int .i64 cw) = W := ⟨_, rfl⟩
      have HS1 := Lib.hid ((HS3.out.putInt (y := cw) 1 rfl HCV.out HCI.out).atW hW1)
      obtain ⟨fw, hfw⟩ : ∃ fw, fv + x = fw := ⟨_, rfl⟩
      have m2 : IntKind.i64.wrap (fv + x) = fw := by rw [IntWalk.i64_in _ (by omega)]; exact hfw
      have HFI : Hid (Mm.I64 fw) := Lib.hid (by unfold Mm.I64; omega)
      have HFA : Hid (Pl.foundAt b1 f t + x = fw) := Lib.hid (by rw [Pl.foundAt_of HFR.out HFV.out, hfw])
      clear hcw hfw hcb hfb
      go_upto_region 6 with fail
      clear hW1 b0 d0 z0 m1 HS3
      have b2 := HS1.out.cell (k := 2) 0 rfl rfl
      have b3 := HS1.out.cell (k := 3) 0 rfl rfl
      have d2 := int_ocell (HS1.out.sl 3 rfl) (HS1.out.ndat (i := 3) rfl) HKV.out
      obtain ⟨gh, nh, ch, u0, fx0, e3, hnh, ⟨hu0, -, -⟩, e4, -, -⟩ := HS1.out.row (E := Mm.bool) (e' := 4) rfl 4 rfl HHR.out HHV.out
      injection hu0 with hu0 _
      subst hu0
      have fh1 : (f : Int) < (nh : Nat) := by have := HN1.out; omega
      clear hnh
      by_cases hk0 : 0 ≤ kv
      · cases hvv : hv with
        | true =>
          as_aux_lemma =>
          have HF : Hid (Pl.btake (Pl.setWay b p r) f t x = ⟨b1.Coins.set t cw, b1.Ways, b1.Kept, b1.Heard, b1.Found⟩) := Lib.hid (by
            rw [← HB1.out]
            unfold Pl.btake
            rw [if_pos hx0, if_neg (by rw [HHA.out, hvv]; simp), HAC.out])
          rw [hvv] at e4
          clear hvv
          go_upto_region 8 with fail
          clear b2 b3 d2 e3 e4 fh1
          have z0 := HS1.out.frz (k := 0) 6 rfl
          have z1 := HS1.out.frz (k := 1) 6 rfl
          have z2 := HS1.out.frz (k := 2) 6 rfl
          have z3 := HS1.out.frz (k := 3) 6 rfl
          have z4 := HS1.out.frz (k := 4) 6 rfl
          have r0 := HS1.out.cell (k := 0) 6 rfl rfl
          have r1 := HS1.out.cell (k := 1) 6 rfl rfl
          have r2 := HS1.out.cell (k := 2) 6 rfl rfl
          have r3 := HS1.out.cell (k := 3) 6 rfl rfl
          have r4 := HS1.out.cell (k := 4) 6 rfl rfl
          have b0 := HS1.out.cell (k := 0) 0 rfl rfl
          have b1 := HS1.out.cell (k := 1) 0 rfl rfl
          have b2 := HS1.out.cell (k := 2) 0 rfl rfl
          have b3 := HS1.out.cell (k := 3) 0 rfl rfl
          have b4 := HS1.out.cell (k := 4) 0 rfl rfl
          obtain ⟨WF, hWF⟩ : ∃ WQ : World, (((((W1.setCell ⟨gc, 0, none⟩ (.slice (some ⟨g0, 0, none⟩) n c0)).setCell ⟨gc, 1, none⟩ (.slice (some ⟨g1, 0, none⟩) (n * n) c1)).setCell ⟨gc, 2, none⟩ (.slice (some ⟨g2, 0, none⟩) n c2)).setCell ⟨gc, 3, none⟩ (.slice (some ⟨g3, 0, none⟩) n c3)).setCell ⟨gc, 4, none⟩ (.slice (some ⟨g4, 0, none⟩) n c4)) = WQ := ⟨_, rfl⟩
          have HSF := Lib.hid ((((((HS1.out.setBlk (k := 0) 6 rfl (.slice (some ⟨g0, 0, none⟩) n c0)).setBlk (k := 1) 6 rfl (.slice (some ⟨g1, 0, none⟩) (n * n) c1)).setBlk (k := 2) 6 rfl (.slice (some ⟨g2, 0, none⟩) n c2)).setBlk (k := 3) 6 rfl (.slice (some ⟨g3, 0, none⟩) n c3)).setBlk (k := 4) 6 rfl (.slice (some ⟨g4, 0, none⟩) n c4)).atW hWF)
          have u0 := HSF.out.cell (k := 0) 6 rfl rfl
          have u1 := HSF.out.cell (k := 1) 6 rfl rfl
          have u2 := HSF.out.cell (k := 2) 6 rfl rfl
          have u3 := HSF.out.cell (k := 3) 6 rfl rfl
          have u4 := HSF.out.cell (k := 4) 6 rfl rfl
          go_wp2
          exact bodyPost_ret (v := .agg #[.slice (some ⟨g0, 0, none⟩) n c0, .slice (some ⟨g1, 0, none⟩) (n * n) c1, .slice (some ⟨g2, 0, none⟩) n c2, .slice (some ⟨g3, 0, none⟩) n c3, .slice (some ⟨g4, 0, none⟩) n c4]) (by simp [results, Try.results55, go_sem, u0, u1, u2, u3, u4]) rfl ⟨_, rfl, by rw [HF.out]; exact ⟨g0, g1, g2, g3, g4, c0, c1, c2, c3, c4, _, _, _, _, _, rfl, unboxB HSF.out⟩⟩
        | false =>
          as_aux_lemma =>
          have HF : Hid (Pl.btake (Pl.setWay b p r) f t x = ⟨b1.Coins.set t cw, b1.Ways, b1.Kept, b1.Heard, b1.Found.set f (fr.set t fw)⟩) := Lib.hid (by
            rw [← HB1.out]
            unfold Pl.btake
            rw [if_pos hx0, if_pos ⟨by rw [HKA.out]; exact hk0, by rw [HHA.out, hvv]⟩, HAC.out]
            unfold Pl.addFound
            rw [show Pl.foundAt ⟨b1.Coins.set t cw, b1.Ways, b1.Kept, b1.Heard, b1.Found⟩ f t + x = fw from HFA.out]
            show Bank.mk _ _ _ _ (b1.Found.set f (((b1.Found[f]?).getD []).set t fw)) = _
            rw [HFR.out]; rfl)
          rw [hvv] at e4
          clear hvv
          go_upto_region 7 with fail
          clear b2 b3 d2 e3 e4 fh1
          have b4 := HS1.out.cell (k := 4) 0 rfl rfl
          obtain ⟨gq, nq, cq, u1, fx1, e5, hnq, ⟨hu1, -, -⟩, e6, z6, hnext⟩ := HS1.out.row (E := Mm.int) (e' := 3) rfl 5 rfl HFR.out HFV.out
          injection hu1 with hu1 _
          subst hu1
          have ft4 : (t : Int) < (nq : Nat) := by have := HN1.out; omega
          obtain ⟨fp', hs5⟩ := hnext fw (.int .i64 fw) (fun cs fx ho => by obtain ⟨rfl, _, rfl⟩ := ho; exact ⟨rfl, HFI.out, rfl⟩)
          obtain ⟨W8, hW8⟩ : ∃ WQ : World, W1.setCell ⟨gq, t, none⟩ (.int .i64 fw) = WQ := ⟨_, rfl⟩
          have HS5 := Lib.hid (hs5.atW hW8)
          clear hnext hs5 hnq
          go_upto_region 8 with fail
          clear hW8 b4 e5 e6 z6 ft4
          have z0 := HS5.out.frz (k := 0) 6 rfl
          have z1 := HS5.out.frz (k := 1) 6 rfl
          have z2 := HS5.out.frz (k := 2) 6 rfl
          have z3 := HS5.out.frz (k := 3) 6 rfl
          have z4 := HS5.out.frz (k := 4) 6 rfl
          have r0 := HS5.out.cell (k := 0) 6 rfl rfl
          have r1 := HS5.out.cell (k := 1) 6 rfl rfl
          have r2 := HS5.out.cell (k := 2) 6 rfl rfl
          have r3 := HS5.out.cell (k := 3) 6 rfl rfl
          have r4 := HS5.out.cell (k := 4) 6 rfl rfl
          have b0 := HS5.out.cell (k := 0) 0 rfl rfl
          have b1 := HS5.out.cell (k := 1) 0 rfl rfl
          have b2 := HS5.out.cell (k := 2) 0 rfl rfl
          have b3 := HS5.out.cell (k := 3) 0 rfl rfl
          have b4 := HS5.out.cell (k := 4) 0 rfl rfl
          obtain ⟨WF, hWF⟩ : ∃ WQ : World, (((((W8.setCell ⟨gc, 0, none⟩ (.slice (some ⟨g0, 0, none⟩) n c0)).setCell ⟨gc, 1, none⟩ (.slice (some ⟨g1, 0, none⟩) (n * n) c1)).setCell ⟨gc, 2, none⟩ (.slice (some ⟨g2, 0, none⟩) n c2)).setCell ⟨gc, 3, none⟩ (.slice (some ⟨g3, 0, none⟩) n c3)).setCell ⟨gc, 4, none⟩ (.slice (some ⟨g4, 0, none⟩) n c4)) = WQ := ⟨_, rfl⟩
          have HSF := Lib.hid ((((((HS5.out.setBlk (k := 0) 6 rfl (.slice (some ⟨g0, 0, none⟩) n c0)).setBlk (k := 1) 6 rfl (.slice (some ⟨g1, 0, none⟩) (n * n) c1)).setBlk (k := 2) 6 rfl (.slice (some ⟨g2, 0, none⟩) n c2)).setBlk (k := 3) 6 rfl (.slice (some ⟨g3, 0, none⟩) n c3)).setBlk (k := 4) 6 rfl (.slice (some ⟨g4, 0, none⟩) n c4)).atW hWF)
          have u0 := HSF.out.cell (k := 0) 6 rfl rfl
          have u1 := HSF.out.cell (k := 1) 6 rfl rfl
          have u2 := HSF.out.cell (k := 2) 6 rfl rfl
          have u3 := HSF.out.cell (k := 3) 6 rfl rfl
          have u4 := HSF.out.cell (k := 4) 6 rfl rfl
          go_wp2
          exact bodyPost_ret (v := .agg #[.slice (some ⟨g0, 0, none⟩) n c0, .slice (some ⟨g1, 0, none⟩) (n * n) c1, .slice (some ⟨g2, 0, none⟩) n c2, .slice (some ⟨g3, 0, none⟩) n c3, .slice (some ⟨g4, 0, none⟩) n c4]) (by simp [results, Try.results55, go_sem, u0, u1, u2, u3, u4]) rfl ⟨_, rfl, by rw [HF.out]; exact ⟨g0, g1, g2, g3, g4, c0, c1, c2, c3, c4, _, _, _, _, _, rfl, unboxB HSF.out⟩⟩
      · as_aux_lemma =>
        have HF : Hid (Pl.btake (Pl.setWay b p r) f t x = ⟨b1.Coins.set t cw, b1.Ways, b1.Kept, b1.Heard, b1.Found⟩) := Lib.hid (by
          rw [← HB1.out]
          unfold Pl.btake
          rw [if_pos hx0, if_neg (by rw [HKA.out]; exact fun hh => hk0 hh.1), HAC.out])
        go_upto_region 8 with fail
        clear b2 b3 d2 e3 e4 fh1
        have z0 := HS1.out.frz (k := 0) 6 rfl
        have z1 := HS1.out.frz (k := 1) 6 rfl
        have z2 := HS1.out.frz (k := 2) 6 rfl
        have z3 := HS1.out.frz (k := 3) 6 rfl
        have z4 := HS1.out.frz (k := 4) 6 rfl
        have r0 := HS1.out.cell (k := 0) 6 rfl rfl
        have r1 := HS1.out.cell (k := 1) 6 rfl rfl
        have r2 := HS1.out.cell (k := 2) 6 rfl rfl
        have r3 := HS1.out.cell (k := 3) 6 rfl rfl
        have r4 := HS1.out.cell (k := 4) 6 rfl rfl
        have b0 := HS1.out.cell (k := 0) 0 rfl rfl
        have b1 := HS1.out.cell (k := 1) 0 rfl rfl
        have b2 := HS1.out.cell (k := 2) 0 rfl rfl
        have b3 := HS1.out.cell (k := 3) 0 rfl rfl
        have b4 := HS1.out.cell (k := 4) 0 rfl rfl
        obtain ⟨WF, hWF⟩ : ∃ WQ : World, (((((W1.setCell ⟨gc, 0, none⟩ (.slice (some ⟨g0, 0, none⟩) n c0)).setCell ⟨gc, 1, none⟩ (.slice (some ⟨g1, 0, none⟩) (n * n) c1)).setCell ⟨gc, 2, none⟩ (.slice (some ⟨g2, 0, none⟩) n c2)).setCell ⟨gc, 3, none⟩ (.slice (some ⟨g3, 0, none⟩) n c3)).setCell ⟨gc, 4, none⟩ (.slice (some ⟨g4, 0, none⟩) n c4)) = WQ := ⟨_, rfl⟩
        have HSF := Lib.hid ((((((HS1.out.setBlk (k := 0) 6 rfl (.slice (some ⟨g0, 0, none⟩) n c0)).setBlk (k := 1) 6 rfl (.slice (some ⟨g1, 0, none⟩) (n * n) c1)).setBlk (k := 2) 6 rfl (.slice (some ⟨g2, 0, none⟩) n c2)).setBlk (k := 3) 6 rfl (.slice (some ⟨g3, 0, none⟩) n c3)).setBlk (k := 4) 6 rfl (.slice (some ⟨g4, 0, none⟩) n c4)).atW hWF)
        have u0 := HSF.out.cell (k := 0) 6 rfl rfl
        have u1 := HSF.out.cell (k := 1) 6 rfl rfl
        have u2 := HSF.out.cell (k := 2) 6 rfl rfl
        have u3 := HSF.out.cell (k := 3) 6 rfl rfl
        have u4 := HSF.out.cell (k := 4) 6 rfl rfl
        go_wp2
        exact bodyPost_ret (v := .agg #[.slice (some ⟨g0, 0, none⟩) n c0, .slice (some ⟨g1, 0, none⟩) (n * n) c1, .slice (some ⟨g2, 0, none⟩) n c2, .slice (some ⟨g3, 0, none⟩) n c3, .slice (some ⟨g4, 0, none⟩) n c4]) (by simp [results, Try.results55, go_sem, u0, u1, u2, u3, u4]) rfl ⟨_, rfl, by rw [HF.out]; exact ⟨g0, g1, g2, g3, g4, c0, c1, c2, c3, c4, _, _, _, _, _, rfl, unboxB HSF.out⟩⟩
    · have b2 := HS3.out.cell (k := 2) 0 rfl rfl
      have d2 := int_ocell (HS3.out.sl 3 rfl) (HS3.out.ndat (i := 3) rfl) HKV.out
      by_cases hk0 : kv < 0
      · as_aux_lemma =>
        go_upto_region 10 with fail
        clear b2 d2
        have CR := l12Picture_c b1 q n t _ F w0 W3 _ (boxV (gb := ga) HS3.out) HI1.out HN1.out ht hq
        have b0 := HS3.out.cell (k := 0) 0 rfl rfl
        have b1' := HS3.out.cell (k := 1) 0 rfl rfl
        have b2 := HS3.out.cell (k := 2) 0 rfl rfl
        have b3 := HS3.out.cell (k := 3) 0 rfl rfl
        have b4 := HS3.out.cell (k := 4) 0 rfl rfl
        have HF : Hid (Pl.btake (Pl.setWay b p r) f t x = ⟨(Pl.brec b1 t).Coins, (Pl.brec b1 t).Ways, (Pl.brec b1 t).Kept, b1.Heard.set t (hr.set f true), (Pl.brec b1 t).Found⟩) := Lib.hid (by
          rw [← HB1.out]
          unfold Pl.btake
          rw [if_neg hx0, if_pos (by rw [HKA.out]; exact hk0)]
          show Bank.mk _ _ _ (b1.Heard.set t (((b1.Heard[t]?).getD []).set f true)) _ = _
          rw [HHR.out]; rfl)
        go_upto_region 11 with (go_at_call 53; (with_reducible refine CR.mono ?_); clear CR; rintro e w3 ⟨cs', rfl, h0, h1, h2, h3, h4, e0, e1, e2, e3, e4, k0, k1, k2, k3, k4, rfl, hs⟩; (have HS6 := Lib.hid hs); clear hs; clear b0 b1' b2 b3 b4; (have z0 := HS6.out.frz (k := 0) 5 rfl); (have z1 := HS6.out.frz (k := 1) 5 rfl); (have z2 := HS6.out.frz (k := 2) 5 rfl); (have z3 := HS6.out.frz (k := 3) 5 rfl); (have z4 := HS6.out.frz (k := 4) 5 rfl); (have r0 := HS6.out.cell (k := 0) 5 rfl rfl); (have r1 := HS6.out.cell (k := 1) 5 rfl rfl); (have r2 := HS6.out.cell (k := 2) 5 rfl rfl); (have r3 := HS6.out.cell (k := 3) 5 rfl rfl); (have r4 := HS6.out.cell (k := 4) 5 rfl rfl); obtain ⟨W7, hW7⟩ : ∃ WQ : World, (((((w3.setCell ⟨ga, 0, none⟩ (.slice (some ⟨h0, 0, none⟩) n e0)).setCell ⟨ga, 1, none⟩ (.slice (some ⟨h1, 0, none⟩) (n * n) e1)).setCell ⟨ga, 2, none⟩ (.slice (some ⟨h2, 0, none⟩) n e2)).setCell ⟨ga, 3, none⟩ (.slice (some ⟨h3, 0, none⟩) n e3)).setCell ⟨ga, 4, none⟩ (.slice (some ⟨h4, 0, none⟩) n e4)) = WQ := ⟨_, rfl⟩; (have HS := Lib.hid (boxF ((((((HS6.out.setBlk (k := 0) 5 rfl (.slice (some ⟨h0, 0, none⟩) n e0)).setBlk (k := 1) 5 rfl (.slice (some ⟨h1, 0, none⟩) (n * n) e1)).setBlk (k := 2) 5 rfl (.slice (some ⟨h2, 0, none⟩) n e2)).setBlk (k := 3) 5 rfl (.slice (some ⟨h3, 0, none⟩) n e3)).setBlk (k := 4) 5 rfl (.slice (some ⟨h4, 0, none⟩) n e4)).atW hW7))))
        clear z0 z1 z2 z3 z4 r0 r1 r2 r3 r4 hW7 HS6 HS3
        have b3 := HS.out.cell (k := 3) 0 rfl rfl
        obtain ⟨gh, nh, ch, u0, fx0, e3, hnh, ⟨hu0, -, -⟩, e4, z4, hnext⟩ := HS.out.row (E := Mm.bool) (e' := 4) rfl 4 rfl HHR.out HHV.out
        injection hu0 with hu0 _
        subst hu0
        have fh1 : (f : Int) < (nh : Nat) := by have := HN1.out; omega
        obtain ⟨fp', hs5⟩ := hnext true (.bool true) (fun cs fx ho => by obtain ⟨rfl, _, rfl⟩ := ho; exact ⟨rfl, trivial, rfl⟩)
        obtain ⟨W8, hW8⟩ : ∃ WQ : World, W7.setCell ⟨gh, f, none⟩ (.bool true) = WQ := ⟨_, rfl⟩
        have HS5 := Lib.hid (hs5.atW hW8)
        clear hnext hs5 hnh
        go_upto_region 12 with fail
        clear hW8 b3 e3 e4 z4 fh1
        have z0 := HS5.out.frz (k := 0) 6 rfl
        have z1 := HS5.out.frz (k := 1) 6 rfl
        have z2 := HS5.out.frz (k := 2) 6 rfl
        have z3 := HS5.out.frz (k := 3) 6 rfl
        have z4 := HS5.out.frz (k := 4) 6 rfl
        have r0 := HS5.out.cell (k := 0) 6 rfl rfl
        have r1 := HS5.out.cell (k := 1) 6 rfl rfl
        have r2 := HS5.out.cell (k := 2) 6 rfl rfl
        have r3 := HS5.out.cell (k := 3) 6 rfl rfl
        have r4 := HS5.out.cell (k := 4) 6 rfl rfl
        have b0 := HS5.out.cell (k := 0) 0 rfl rfl
        have b1 := HS5.out.cell (k := 1) 0 rfl rfl
        have b2 := HS5.out.cell (k := 2) 0 rfl rfl
        have b3 := HS5.out.cell (k := 3) 0 rfl rfl
        have b4 := HS5.out.cell (k := 4) 0 rfl rfl
        obtain ⟨WF, hWF⟩ : ∃ WQ : World, (((((W8.setCell ⟨gc, 0, none⟩ (.slice (some ⟨h0, 0, none⟩) n e0)).setCell ⟨gc, 1, none⟩ (.slice (some ⟨h1, 0, none⟩) (n * n) e1)).setCell ⟨gc, 2, none⟩ (.slice (some ⟨h2, 0, none⟩) n e2)).setCell ⟨gc, 3, none⟩ (.slice (some ⟨h3, 0, none⟩) n e3)).setCell ⟨gc, 4, none⟩ (.slice (some ⟨h4, 0, none⟩) n e4)) = WQ := ⟨_, rfl⟩
        have HSF := Lib.hid ((((((HS5.out.setBlk (k := 0) 6 rfl (.slice (some ⟨h0, 0, none⟩) n e0)).setBlk (k := 1) 6 rfl (.slice (some ⟨h1, 0, none⟩) (n * n) e1)).setBlk (k := 2) 6 rfl (.slice (some ⟨h2, 0, none⟩) n e2)).setBlk (k := 3) 6 rfl (.slice (some ⟨h3, 0, none⟩) n e3)).setBlk (k := 4) 6 rfl (.slice (some ⟨h4, 0, none⟩) n e4)).atW hWF)
        have u0 := HSF.out.cell (k := 0) 6 rfl rfl
        have u1 := HSF.out.cell (k := 1) 6 rfl rfl
        have u2 := HSF.out.cell (k := 2) 6 rfl rfl
        have u3 := HSF.out.cell (k := 3) 6 rfl rfl
        have u4 := HSF.out.cell (k := 4) 6 rfl rfl
        go_wp2
        exact bodyPost_ret (v := .agg #[.slice (some ⟨h0, 0, none⟩) n e0, .slice (some ⟨h1, 0, none⟩) (n * n) e1, .slice (some ⟨h2, 0, none⟩) n e2, .slice (some ⟨h3, 0, none⟩) n e3, .slice (some ⟨h4, 0, none⟩) n e4]) (by simp [results, Try.results55, go_sem, u0, u1, u2, u3, u4]) rfl ⟨_, rfl, by rw [HF.out]; exact ⟨h0, h1, h2, h3, h4, e0, e1, e2, e3, e4, _, _, _, _, _, rfl, unboxB HSF.out⟩⟩
      · as_aux_lemma =>
        go_upto_region 11 with fail
        clear b2 d2
        have HF : Hid (Pl.btake (Pl.setWay b p r) f t x = ⟨b1.Coins, b1.Ways, b1.Kept, b1.Heard.set t (hr.set f true), b1.Found⟩) := Lib.hid (by
          rw [← HB1.out]
          unfold Pl.btake
          rw [if_neg hx0, if_neg (by rw [HKA.out]; exact hk0)]
          show Bank.mk _ _ _ (b1.Heard.set t (((b1.Heard[t]?).getD []).set f true)) _ = _
          rw [HHR.out]; rfl)
        have HS := HS3
        clear HS3
        have b3 := HS.out.cell (k := 3) 0 rfl rfl
        obtain ⟨gh, nh, ch, u0, fx0, e3, hnh, ⟨hu0, -, -⟩, e4, z4, hnext⟩ := HS.out.row (E := Mm.bool) (e' := 4) rfl 4 rfl HHR.out HHV.out
        injection hu0 with hu0 _
        subst hu0
        have fh1 : (f : Int) < (nh : Nat) := by have := HN1.out; omega
        obtain ⟨fp', hs5⟩ := hnext true (.bool true) (fun cs fx ho => by obtain ⟨rfl, _, rfl⟩ := ho; exact ⟨rfl, trivial, rfl⟩)
        obtain ⟨W8, hW8⟩ : ∃ WQ : World, W3.setCell ⟨gh, f, none⟩ (.bool true) = WQ := ⟨_, rfl⟩
        have HS5 := Lib.hid (hs5.atW hW8)
        clear hnext hs5 hnh
        go_upto_region 12 with fail
        clear hW8 b3 e3 e4 z4 fh1
        have z0 := HS5.out.frz (k := 0) 6 rfl
        have z1 := HS5.out.frz (k := 1) 6 rfl
        have z2 := HS5.out.frz (k := 2) 6 rfl
        have z3 := HS5.out.frz (k := 3) 6 rfl
        have z4 := HS5.out.frz (k := 4) 6 rfl
        have r0 := HS5.out.cell (k := 0) 6 rfl rfl
        have r1 := HS5.out.cell (k := 1) 6 rfl rfl
        have r2 := HS5.out.cell (k := 2) 6 rfl rfl
        have r3 := HS5.out.cell (k := 3) 6 rfl rfl
        have r4 := HS5.out.cell (k := 4) 6 rfl rfl
        have b0 := HS5.out.cell (k := 0) 0 rfl rfl
        have b1 := HS5.out.cell (k := 1) 0 rfl rfl
        have b2 := HS5.out.cell (k := 2) 0 rfl rfl
        have b3 := HS5.out.cell (k := 3) 0 rfl rfl
        have b4 := HS5.out.cell (k := 4) 0 rfl rfl
        obtain ⟨WF, hWF⟩ : ∃ WQ : World, (((((W8.setCell ⟨gc, 0, none⟩ (.slice (some ⟨g0, 0, none⟩) n c0)).setCell ⟨gc, 1, none⟩ (.slice (some ⟨g1, 0, none⟩) (n * n) c1)).setCell ⟨gc, 2, none⟩ (.slice (some ⟨g2, 0, none⟩) n c2)).setCell ⟨gc, 3, none⟩ (.slice (some ⟨g3, 0, none⟩) n c3)).setCell ⟨gc, 4, none⟩ (.slice (some ⟨g4, 0, none⟩) n c4)) = WQ := ⟨_, rfl⟩
        have HSF := Lib.hid ((((((HS5.out.setBlk (k := 0) 6 rfl (.slice (some ⟨g0, 0, none⟩) n c0)).setBlk (k := 1) 6 rfl (.slice (some ⟨g1, 0, none⟩) (n * n) c1)).setBlk (k := 2) 6 rfl (.slice (some ⟨g2, 0, none⟩) n c2)).setBlk (k := 3) 6 rfl (.slice (some ⟨g3, 0, none⟩) n c3)).setBlk (k := 4) 6 rfl (.slice (some ⟨g4, 0, none⟩) n c4)).atW hWF)
        have u0 := HSF.out.cell (k := 0) 6 rfl rfl
        have u1 := HSF.out.cell (k := 1) 6 rfl rfl
        have u2 := HSF.out.cell (k := 2) 6 rfl rfl
        have u3 := HSF.out.cell (k := 3) 6 rfl rfl
        have u4 := HSF.out.cell (k := 4) 6 rfl rfl
        go_wp2
        exact bodyPost_ret (v := .agg #[.slice (some ⟨g0, 0, none⟩) n c0, .slice (some ⟨g1, 0, none⟩) (n * n) c1, .slice (some ⟨g2, 0, none⟩) n c2, .slice (some ⟨g3, 0, none⟩) n c3, .slice (some ⟨g4, 0, none⟩) n c4]) (by simp [results, Try.results55, go_sem, u0, u1, u2, u3, u4]) rfl ⟨_, rfl, by rw [HF.out]; exact ⟨g0, g1, g2, g3, g4, c0, c1, c2, c3, c4, _, _, _, _, _, rfl, unboxB HSF.out⟩⟩
  · as_aux_lemma =>
    have h2c : ¬ (1 = c5) := fun hh => hc1 hh.symm
    have HRD := Lib.hid (HP1.out.weak (B := W0.heap.size) hlt.out)
    clear hc1
    go_upto_region 3 with fail
    refine Mm.wp_region_give 20 (fun i => match i with | 7 => some (Mm.gSl Mm.int 3 []) | 18 => some (Mm.gSl Mm.int 3 r) | _ => none) (fun i => match i with | 18 => [7] | _ => []) (fun _ => []) (F := []) (D := fun w' => ∃ z : Und W0, w' = und W0 z) (fun X us h => Mm.sep_und h) (by kernel_rfl) (by kernel_rfl) (by kernel_rfl) (Mm.SepF.startDrew _) ?_
    repeat (refine Mm.give_det (by rfl) (by rfl) (by rfl) (fun K hK => ?_); go_big_quiet_op; refine hK _ ?_; clear hK K)
    refine Mm.give_op0 30 (by rfl) rfl (by rfl) (by rfl) (by rfl) (by rfl) Mm.gSl_in (fun others X hX => ?_) ?_
    · go_wp2
      exact Mm.gvq_fresh hX rfl rfl rfl
    rintro v ds ⟨A7, n7, c7, f7, rfl, rfl, hn7⟩
    simp only [Act.put, List.setIfInBounds_toArray, List.set_cons_succ, List.set_cons_zero]
    repeat (refine Mm.give_det (by rfl) (by rfl) (by rfl) (fun K hK => ?_); go_big_quiet_op; refine hK _ ?_; clear hK K)
    refine Mm.give_op1 41 7 (by rfl) rfl (by rfl) (by rfl) (by rfl) rfl (by rfl) _ rfl Mm.gSl_in (fun others X hX => Mm.clone_gvq rfl (.tmp 30) (.tmp 40) 22 rfl 41 rfl (by rfl) Mm.flat_int Mm.flatN_int' iI _ 8 Try.underlying22 qI qI0 qI1 qI2 rfl rfl rfl (HRD.out.keep (fun b hb => hX.bel0.block b (by omega))) (by unfold maxLen; omega) (by omega) hX) ?_
    rintro v ds ⟨A8, n8, c8, f8, rfl, rfl, hn8⟩
    simp only [Act.put, List.setIfInBounds_toArray, List.set_cons_succ, List.set_cons_zero]
    repeat (refine Mm.give_det (by rfl) (by rfl) (by rfl) (fun K hK => ?_); go_big_quiet_op; refine hK _ ?_; clear hK K)
    refine Mm.give_nil ?_
    rintro X hX
    have hx7 : Mm.SepF [] W0 X [Mm.tsl Mm.int 3 r (.slice A8 n8 c8) f8] := Mm.sep_eq hX rfl
    have d4 : X.cell? ⟨g1, p, none⟩ = some (.slice (some ⟨g, o, none⟩) nw c5) := below_some hx7.bel0 EC.out
    have z4 : X.frozen? ⟨g1, p, none⟩ = false := below_fz hx7.bel0 (by rw [EC.out]; rfl) ((HS.out.sl 2 rfl).frozen p)
    obtain ⟨fp5, hs5⟩ := HNX.out X r 0 (.slice A8 n8 c8) f8 (hx7.chg.more (fun b hb => by cases hb)) (by decide) ⟨_, rfl, Mm.OffOwn.of_sl (hx7.at_ 0 rfl)⟩ (hx7.ndat (i := 0) rfl) (fun b hb => (hx7.new b (Mm.SepF.mem (i := 0) rfl hb)).elim (fun h => by cases h) .inr)
    rw [show p * Mm.way.size + 0 = p by show p * 1 + 0 = p; omega] at hs5
    obtain ⟨W3, hW3⟩ : ∃ WQ : World, X.setCell ⟨g1, p, none⟩ (.slice A8 n8 c8) = WQ := ⟨_, rfl⟩
    have hs6 := hs5.atW hW3
    obtain ⟨b1, hb1⟩ : ∃ b1, b1 = Pl.setWay b p r := ⟨_, rfl⟩
    have HS3 : Hid (Mm.SepF F w0 W3 (Mm.tblk ga 28 [.slice (some ⟨g0, 0, none⟩) n c0, .slice (some ⟨g1, 0, none⟩) (n * n) c1, .slice (some ⟨g2, 0, none⟩) n c2, .slice (some ⟨g3, 0, none⟩) n c3, .slice (some ⟨g4, 0, none⟩) n c4] :: Mm.tsl Mm.int 3 b1.Coins (.slice (some ⟨g0, 0, none⟩) n c0) f0 :: Mm.tsl Mm.way 22 b1.Ways (.slice (some ⟨g1, 0, none⟩) (n * n) c1) fp5 :: Mm.tsl Mm.int 3 b1.Kept (.slice (some ⟨g2, 0, none⟩) n c2) f2 :: Mm.tsl bools 29 b1.Heard (.slice (some ⟨g3, 0, none⟩) n c3) f3 :: Mm.tsl ints 22 b1.Found (.slice (some ⟨g4, 0, none⟩) n c4) f4 :: Mm.tblk gc 28 zBk :: rest)) := by rw [hb1]; exact Lib.hid hs6
    have HI1 : Hid (Pl.BI q b1) := Lib.hid (by rw [hb1]; exact HI.out.pop HROW.out)
    have HN1 : Hid (b1.Coins.length = n) := Lib.hid (by rw [hb1]; exact HN.out)
    have HB1 := Lib.hid hb1
    clear hb1 hs5 hs6 hx7 hX
    go_upto_region 4 with fail
    clear d4 z4 hW3
    obtain ⟨cv, hcv⟩ : ∃ cv, b1.Coins[t]? = some cv := ⟨_, List.getElem?_eq_getElem (by rw [HN1.out]; exact ht)⟩
    obtain ⟨kv, hkv⟩ : ∃ kv, b1.Kept[t]? = some kv := ⟨_, List.getElem?_eq_getElem (by rw [HI1.out.ke, HN1.out]; exact ht)⟩
    obtain ⟨hr, hhr⟩ : ∃ r, b1.Heard[t]? = some r := ⟨_, List.getElem?_eq_getElem (by rw [HI1.out.he, HN1.out]; exact ht)⟩
    obtain ⟨fr, hfr⟩ : ∃ r, b1.Found[f]? = some r := ⟨_, List.getElem?_eq_getElem (by rw [HI1.out.fo, HN1.out]; exact hf)⟩
    have hrl := HI1.out.hr hr (List.mem_of_getElem? hhr)
    have frl := HI1.out.fr fr (List.mem_of_getElem? hfr)
    obtain ⟨hv, hhv⟩ : ∃ v, hr[f]? = some v := ⟨_, List.getElem?_eq_getElem (by rw [hrl, HN1.out]; exact hf)⟩
    obtain ⟨fv, hfv⟩ : ∃ v, fr[t]? = some v := ⟨_, List.getElem?_eq_getElem (by rw [frl, HN1.out]; exact ht)⟩
    have HCV := Lib.hid hcv
    have HKV := Lib.hid hkv
    have HHR := Lib.hid hhr
    have HFR := Lib.hid hfr
    have HHV := Lib.hid hhv
    have HFV := Lib.hid hfv
    have hcb := HI1.out.cb cv (List.mem_of_getElem? hcv)
    have hfb := HI1.out.fb fr (List.mem_of_getElem? hfr) fv (List.mem_of_getElem? hfv)
    have HKA := Lib.hid (Pl.keptAt_of hkv)
    have HHA := Lib.hid (Pl.heardAt_of hhr hhv)
    clear hcv hkv hhr hfr hhv hfv
    by_cases hx0 : 0 < x
    · have b0 := HS3.out.cell (k := 0) 0 rfl rfl
      have d0 := int_ocell (HS3.out.sl 1 rfl) (HS3.out.ndat (i := 1) rfl) HCV.out
      have z0 := (HS3.out.sl 1 rfl).frozen t
      obtain ⟨cw, hcw⟩ : ∃ cw, cv + x = cw := ⟨_, rfl⟩
      have m1 : IntKind.i64.wrap (cv + x) = cw := by rw [IntWalk.i64_in _ (by omega)]; exact hcw
      have HCI : Hid (Mm.I64 cw) := Lib.hid (by unfold Mm.I64; omega)
      have HAC : Hid (Pl.addCoin b1 t x = ⟨b1.Coins.set t cw, b1.Ways, b1.Kept, b1.Heard, b1.Found⟩) := Lib.hid (by unfold Pl.addCoin; rw [Pl.coinAt_of HCV.out, hcw])
      obtain ⟨W1, hW1⟩ : ∃ W, W3.setCell ⟨g0, t, none⟩ (.int .i64 cw) = W := ⟨_, rfl⟩
      have HS1 := Lib.hid ((HS3.out.putInt (y := cw) 1 rfl HCV.out HCI.out).atW hW1)
      obtain ⟨fw, hfw⟩ : ∃ fw, fv + x = fw := ⟨_, rfl⟩
      have m2 : IntKind.i64.wrap (fv + x) = fw := by rw [IntWalk.i64_in _ (by omega)]; exact hfw
      have HFI : Hid (Mm.I64 fw) := Lib.hid (by unfold Mm.I64; omega)
      have HFA : Hid (Pl.foundAt b1 f t + x = fw) := Lib.hid (by rw [Pl.foundAt_of HFR.out HFV.out, hfw])
      clear hcw hfw hcb hfb
      go_upto_region 6 with fail
      clear hW1 b0 d0 z0 m1 HS3
      have b2 := HS1.out.cell (k := 2) 0 rfl rfl
      have b3 := HS1.out.cell (k := 3) 0 rfl rfl
      have d2 := int_ocell (HS1.out.sl 3 rfl) (HS1.out.ndat (i := 3) rfl) HKV.out
      obtain ⟨gh, nh, ch, u0, fx0, e3, hnh, ⟨hu0, -, -⟩, e4, -, -⟩ := HS1.out.row (E := Mm.bool) (e' := 4) rfl 4 rfl HHR.out HHV.out
      injection hu0 with hu0 _
      subst hu0
      have fh1 : (f : Int) < (nh : Nat) := by have := HN1.out; omega
      clear hnh
      by_cases hk0 : 0 ≤ kv
      · cases hvv : hv with
        | true =>
          as_aux_lemma =>
          have HF : Hid (Pl.btake (Pl.setWay b p r) f t x = ⟨b1.Coins.set t cw, b1.Ways, b1.Kept, b1.Heard, b1.Found⟩) := Lib.hid (by
            rw [← HB1.out]
            unfold Pl.btake
            rw [if_pos hx0, if_neg (by rw [HHA.out, hvv]; simp), HAC.out])
          rw [hvv] at e4
          clear hvv
          go_upto_region 8 with fail
          clear b2 b3 d2 e3 e4 fh1
          have z0 := HS1.out.frz (k := 0) 6 rfl
          have z1 := HS1.out.frz (k := 1) 6 rfl
          have z2 := HS1.out.frz (k := 2) 6 rfl
          have z3 := HS1.out.frz (k := 3) 6 rfl
          have z4 := HS1.out.frz (k := 4) 6 rfl
          have r0 := HS1.out.cell (k := 0) 6 rfl rfl
          have r1 := HS1.out.cell (k := 1) 6 rfl rfl
          have r2 := HS1.out.cell (k := 2) 6 rfl rfl
          have r3 := HS1.out.cell (k := 3) 6 rfl rfl
          have r4 := HS1.out.cell (k := 4) 6 rfl rfl
          have b0 := HS1.out.cell (k := 0) 0 rfl rfl
          have b1 := HS1.out.cell (k := 1) 0 rfl rfl
          have b2 := HS1.out.cell (k := 2) 0 rfl rfl
          have b3 := HS1.out.cell (k := 3) 0 rfl rfl
          have b4 := HS1.out.cell (k := 4) 0 rfl rfl
          obtain ⟨WF, hWF⟩ : ∃ WQ : World, (((((W1.setCell ⟨gc, 0, none⟩ (.slice (some ⟨g0, 0, none⟩) n c0)).setCell ⟨gc, 1, none⟩ (.slice (some ⟨g1, 0, none⟩) (n * n) c1)).setCell ⟨gc, 2, none⟩ (.slice (some ⟨g2, 0, none⟩) n c2)).setCell ⟨gc, 3, none⟩ (.slice (some ⟨g3, 0, none⟩) n c3)).setCell ⟨gc, 4, none⟩ (.slice (some ⟨g4, 0, none⟩) n c4)) = WQ := ⟨_, rfl⟩
          have HSF := Lib.hid ((((((HS1.out.setBlk (k := 0) 6 rfl (.slice (some ⟨g0, 0, none⟩) n c0)).setBlk (k := 1) 6 rfl (.slice (some ⟨g1, 0, none⟩) (n * n) c1)).setBlk (k := 2) 6 rfl (.slice (some ⟨g2, 0, none⟩) n c2)).setBlk (k := 3) 6 rfl (.slice (some ⟨g3, 0, none⟩) n c3)).setBlk (k := 4) 6 rfl (.slice (some ⟨g4, 0, none⟩) n c4)).atW hWF)
          have u0 := HSF.out.cell (k := 0) 6 rfl rfl
          have u1 := HSF.out.cell (k := 1) 6 rfl rfl
          have u2 := HSF.out.cell (k := 2) 6 rfl rfl
          have u3 := HSF.out.cell (k := 3) 6 rfl rfl
          have u4 := HSF.out.cell (k := 4) 6 rfl rfl
          go_wp2
          exact bodyPost_ret (v := .agg #[.slice (some ⟨g0, 0, none⟩) n c0, .slice (some ⟨g1, 0, none⟩) (n * n) c1, .slice (some ⟨g2, 0, none⟩) n c2, .slice (some ⟨g3, 0, none⟩) n c3, .slice (some ⟨g4, 0, none⟩) n c4]) (by simp [results, Try.results55, go_sem, u0, u1, u2, u3, u4]) rfl ⟨_, rfl, by rw [HF.out]; exact ⟨g0, g1, g2, g3, g4, c0, c1, c2, c3, c4, _, _, _, _, _, rfl, unboxB HSF.out⟩⟩
        | false =>
          as_aux_lemma =>
          have HF : Hid (Pl.btake (Pl.setWay b p r) f t x = ⟨b1.Coins.set t cw, b1.Ways, b1.Kept, b1.Heard, b1.Found.set f (fr.set t fw)⟩) := Lib.hid (by
            rw [← HB1.out]
            unfold Pl.btake
            rw [if_pos hx0, if_pos ⟨by rw [HKA.out]; exact hk0, by rw [HHA.out, hvv]⟩, HAC.out]
            unfold Pl.addFound
            rw [show Pl.foundAt ⟨b1.Coins.set t cw, b1.Ways, b1.Kept, b1.Heard, b1.Found⟩ f t + x = fw from HFA.out]
            show Bank.mk _ _ _ _ (b1.Found.set f (((b1.Found[f]?).getD []).set t fw)) = _
            rw [HFR.out]; rfl)
          rw [hvv] at e4
          clear hvv
          go_upto_region 7 with fail
          clear b2 b3 d2 e3 e4 fh1
          have b4 := HS1.out.cell (k := 4) 0 rfl rfl
          obtain ⟨gq, nq, cq, u1, fx1, e5, hnq, ⟨hu1, -, -⟩, e6, z6, hnext⟩ := HS1.out.row (E := Mm.int) (e' := 3) rfl 5 rfl HFR.out HFV.out
          injection hu1 with hu1 _
          subst hu1
          have ft4 : (t : Int) < (nq : Nat) := by have := HN1.out; omega
          obtain ⟨fp', hs5⟩ := hnext fw (.int .i64 fw) (fun cs fx ho => by obtain ⟨rfl, _, rfl⟩ := ho; exact ⟨rfl, HFI.out, rfl⟩)
          obtain ⟨W8, hW8⟩ : ∃ WQ : World, W1.setCell ⟨gq, t, none⟩ (.int .i64 fw) = WQ := ⟨_, rfl⟩
          have HS5 := Lib.hid (hs5.atW hW8)
          clear hnext hs5 hnq
          go_upto_region 8 with fail
          clear hW8 b4 e5 e6 z6 ft4
          have z0 := HS5.out.frz (k := 0) 6 rfl
          have z1 := HS5.out.frz (k := 1) 6 rfl
          have z2 := HS5.out.frz (k := 2) 6 rfl
          have z3 := HS5.out.frz (k := 3) 6 rfl
          have z4 := HS5.out.frz (k := 4) 6 rfl
          have r0 := HS5.out.cell (k := 0) 6 rfl rfl
          have r1 := HS5.out.cell (k := 1) 6 rfl rfl
          have r2 := HS5.out.cell (k := 2) 6 rfl rfl
          have r3 := HS5.out.cell (k := 3) 6 rfl rfl
          have r4 := HS5.out.cell (k := 4) 6 rfl rfl
          have b0 := HS5.out.cell (k := 0) 0 rfl rfl
          have b1 := HS5.out.cell (k := 1) 0 rfl rfl
          have b2 := HS5.out.cell (k := 2) 0 rfl rfl
          have b3 := HS5.out.cell (k := 3) 0 rfl rfl
          have b4 := HS5.out.cell (k := 4) 0 rfl rfl
          obtain ⟨WF, hWF⟩ : ∃ WQ : World, (((((W8.setCell ⟨gc, 0, none⟩ (.slice (some ⟨g0, 0, none⟩) n c0)).setCell ⟨gc, 1, none⟩ (.slice (some ⟨g1, 0, none⟩) (n * n) c1)).setCell ⟨gc, 2, none⟩ (.slice (some ⟨g2, 0, none⟩) n c2)).setCell ⟨gc, 3, none⟩ (.slice (some ⟨g3, 0, none⟩) n c3)).setCell ⟨gc, 4, none⟩ (.slice (some ⟨g4, 0, none⟩) n c4)) = WQ := ⟨_, rfl⟩
          have HSF := Lib.hid ((((((HS5.out.setBlk (k := 0) 6 rfl (.slice (some ⟨g0, 0, none⟩) n c0)).setBlk (k := 1) 6 rfl (.slice (some ⟨g1, 0, none⟩) (n * n) c1)).setBlk (k := 2) 6 rfl (.slice (some ⟨g2, 0, none⟩) n c2)).setBlk (k := 3) 6 rfl (.slice (some ⟨g3, 0, none⟩) n c3)).setBlk (k := 4) 6 rfl (.slice (some ⟨g4, 0, none⟩) n c4)).atW hWF)
          have u0 := HSF.out.cell (k := 0) 6 rfl rfl
          have u1 := HSF.out.cell (k := 1) 6 rfl rfl
          have u2 := HSF.out.cell (k := 2) 6 rfl rfl
          have u3 := HSF.out.cell (k := 3) 6 rfl rfl
          have u4 := HSF.out.cell (k := 4) 6 rfl rfl
          go_wp2
          exact bodyPost_ret (v := .agg #[.slice (some ⟨g0, 0, none⟩) n c0, .slice (some ⟨g1, 0, none⟩) (n * n) c1, .slice (some ⟨g2, 0, none⟩) n c2, .slice (some ⟨g3, 0, none⟩) n c3, .slice (some ⟨g4, 0, none⟩) n c4]) (by simp [results, Try.results55, go_sem, u0, u1, u2, u3, u4]) rfl ⟨_, rfl, by rw [HF.out]; exact ⟨g0, g1, g2, g3, g4, c0, c1, c2, c3, c4, _, _, _, _, _, rfl, unboxB HSF.out⟩⟩
      · as_aux_lemma =>
        have HF : Hid (Pl.btake (Pl.setWay b p r) f t x = ⟨b1.Coins.set t cw, b1.Ways, b1.Kept, b1.Heard, b1.Found⟩) := Lib.hid (by
          rw [← HB1.out]
          unfold Pl.btake
          rw [if_pos hx0, if_neg (by rw [HKA.out]; exact fun hh => hk0 hh.1), HAC.out])
        go_upto_region 8 with fail
        clear b2 b3 d2 e3 e4 fh1
        have z0 := HS1.out.frz (k := 0) 6 rfl
        have z1 := HS1.out.frz (k := 1) 6 rfl
        have z2 := HS1.out.frz (k := 2) 6 rfl
        have z3 := HS1.out.frz (k := 3) 6 rfl
        have z4 := HS1.out.frz (k := 4) 6 rfl
        have r0 := HS1.out.cell (k := 0) 6 rfl rfl
        have r1 := HS1.out.cell (k := 1) 6 rfl rfl
        have r2 := HS1.out.cell (k := 2) 6 rfl rfl
        have r3 := HS1.out.cell (k := 3) 6 rfl rfl
        have r4 := HS1.out.cell (k := 4) 6 rfl rfl
        have b0 := HS1.out.cell (k := 0) 0 rfl rfl
        have b1 := HS1.out.cell (k := 1) 0 rfl rfl
        have b2 := HS1.out.cell (k := 2) 0 rfl rfl
        have b3 := HS1.out.cell (k := 3) 0 rfl rfl
        have b4 := HS1.out.cell (k := 4) 0 rfl rfl
        obtain ⟨WF, hWF⟩ : ∃ WQ : World, (((((W1.setCell ⟨gc, 0, none⟩ (.slice (some ⟨g0, 0, none⟩) n c0)).setCell ⟨gc, 1, none⟩ (.slice (some ⟨g1, 0, none⟩) (n * n) c1)).setCell ⟨gc, 2, none⟩ (.slice (some ⟨g2, 0, none⟩) n c2)).setCell ⟨gc, 3, none⟩ (.slice (some ⟨g3, 0, none⟩) n c3)).setCell ⟨gc, 4, none⟩ (.slice (some ⟨g4, 0, none⟩) n c4)) = WQ := ⟨_, rfl⟩
        have HSF := Lib.hid ((((((HS1.out.setBlk (k := 0) 6 rfl (.slice (some ⟨g0, 0, none⟩) n c0)).setBlk (k := 1) 6 rfl (.slice (some ⟨g1, 0, none⟩) (n * n) c1)).setBlk (k := 2) 6 rfl (.slice (some ⟨g2, 0, none⟩) n c2)).setBlk (k := 3) 6 rfl (.slice (some ⟨g3, 0, none⟩) n c3)).setBlk (k := 4) 6 rfl (.slice (some ⟨g4, 0, none⟩) n c4)).atW hWF)
        have u0 := HSF.out.cell (k := 0) 6 rfl rfl
        have u1 := HSF.out.cell (k := 1) 6 rfl rfl
        have u2 := HSF.out.cell (k := 2) 6 rfl rfl
        have u3 := HSF.out.cell (k := 3) 6 rfl rfl
        have u4 := HSF.out.cell (k := 4) 6 rfl rfl
        go_wp2
        exact bodyPost_ret (v := .agg #[.slice (some ⟨g0, 0, none⟩) n c0, .slice (some ⟨g1, 0, none⟩) (n * n) c1, .slice (some ⟨g2, 0, none⟩) n c2, .slice (some ⟨g3, 0, none⟩) n c3, .slice (some ⟨g4, 0, none⟩) n c4]) (by simp [results, Try.results55, go_sem, u0, u1, u2, u3, u4]) rfl ⟨_, rfl, by rw [HF.out]; exact ⟨g0, g1, g2, g3, g4, c0, c1, c2, c3, c4, _, _, _, _, _, rfl, unboxB HSF.out⟩⟩
    · have b2 := HS3.out.cell (k := 2) 0 rfl rfl
      have d2 := int_ocell (HS3.out.sl 3 rfl) (HS3.out.ndat (i := 3) rfl) HKV.out
      by_cases hk0 : kv < 0
      · as_aux_lemma =>
        go_upto_region 10 with fail
        clear b2 d2
        have CR := l12Picture_c b1 q n t _ F w0 W3 _ (boxV (gb := ga) HS3.out) HI1.out HN1.out ht hq
        have b0 := HS3.out.cell (k := 0) 0 rfl rfl
        have b1' := HS3.out.cell (k := 1) 0 rfl rfl
        have b2 := HS3.out.cell (k := 2) 0 rfl rfl
        have b3 := HS3.out.cell (k := 3) 0 rfl rfl
        have b4 := HS3.out.cell (k := 4) 0 rfl rfl
        have HF : Hid (Pl.btake (Pl.setWay b p r) f t x = ⟨(Pl.brec b1 t).Coins, (Pl.brec b1 t).Ways, (Pl.brec b1 t).Kept, b1.Heard.set t (hr.set f true), (Pl.brec b1 t).Found⟩) := Lib.hid (by
          rw [← HB1.out]
          unfold Pl.btake
          rw [if_neg hx0, if_pos (by rw [HKA.out]; exact hk0)]
          show Bank.mk _ _ _ (b1.Heard.set t (((b1.Heard[t]?).getD []).set f true)) _ = _
          rw [HHR.out]; rfl)
        go_upto_region 11 with (go_at_call 53; (with_reducible refine CR.mono ?_); clear CR; rintro e w3 ⟨cs', rfl, h0, h1, h2, h3, h4, e0, e1, e2, e3, e4, k0, k1, k2, k3, k4, rfl, hs⟩; (have HS6 := Lib.hid hs); clear hs; clear b0 b1' b2 b3 b4; (have z0 := HS6.out.frz (k := 0) 5 rfl); (have z1 := HS6.out.frz (k := 1) 5 rfl); (have z2 := HS6.out.frz (k := 2) 5 rfl); (have z3 := HS6.out.frz (k := 3) 5 rfl); (have z4 := HS6.out.frz (k := 4) 5 rfl); (have r0 := HS6.out.cell (k := 0) 5 rfl rfl); (have r1 := HS6.out.cell (k := 1) 5 rfl rfl); (have r2 := HS6.out.cell (k := 2) 5 rfl rfl); (have r3 := HS6.out.cell (k := 3) 5 rfl rfl); (have r4 := HS6.out.cell (k := 4) 5 rfl rfl); obtain ⟨W7, hW7⟩ : ∃ WQ : World, (((((w3.setCell ⟨ga, 0, none⟩ (.slice (some ⟨h0, 0, none⟩) n e0)).setCell ⟨ga, 1, none⟩ (.slice (some ⟨h1, 0, none⟩) (n * n) e1)).setCell ⟨ga, 2, none⟩ (.slice (some ⟨h2, 0, none⟩) n e2)).setCell ⟨ga, 3, none⟩ (.slice (some ⟨h3, 0, none⟩) n e3)).setCell ⟨ga, 4, none⟩ (.slice (some ⟨h4, 0, none⟩) n e4)) = WQ := ⟨_, rfl⟩; (have HS := Lib.hid (boxF ((((((HS6.out.setBlk (k := 0) 5 rfl (.slice (some ⟨h0, 0, none⟩) n e0)).setBlk (k := 1) 5 rfl (.slice (some ⟨h1, 0, none⟩) (n * n) e1)).setBlk (k := 2) 5 rfl (.slice (some ⟨h2, 0, none⟩) n e2)).setBlk (k := 3) 5 rfl (.slice (some ⟨h3, 0, none⟩) n e3)).setBlk (k := 4) 5 rfl (.slice (some ⟨h4, 0, none⟩) n e4)).atW hW7))))
        clear z0 z1 z2 z3 z4 r0 r1 r2 r3 r4 hW7 HS6 HS3
        have b3 := HS.out.cell (k := 3) 0 rfl rfl
        obtain ⟨gh, nh, ch, u0, fx0, e3, hnh, ⟨hu0, -, -⟩, e4, z4, hnext⟩ := HS.out.row (E := Mm.bool) (e' := 4) rfl 4 rfl HHR.out HHV.out
        injection hu0 with hu0 _
        subst hu0
        have fh1 : (f : Int) < (nh : Nat) := by have := HN1.out; omega
        obtain ⟨fp', hs5⟩ := hnext true (.bool true) (fun cs fx ho => by obtain ⟨rfl, _, rfl⟩ := ho; exact ⟨rfl, trivial, rfl⟩)
        obtain ⟨W8, hW8⟩ : ∃ WQ : World, W7.setCell ⟨gh, f, none⟩ (.bool true) = WQ := ⟨_, rfl⟩
        have HS5 := Lib.hid (hs5.atW hW8)
        clear hnext hs5 hnh
        go_upto_region 12 with fail
        clear hW8 b3 e3 e4 z4 fh1
        have z0 := HS5.out.frz (k := 0) 6 rfl
        have z1 := HS5.out.frz (k := 1) 6 rfl
        have z2 := HS5.out.frz (k := 2) 6 rfl
        have z3 := HS5.out.frz (k := 3) 6 rfl
        have z4 := HS5.out.frz (k := 4) 6 rfl
        have r0 := HS5.out.cell (k := 0) 6 rfl rfl
        have r1 := HS5.out.cell (k := 1) 6 rfl rfl
        have r2 := HS5.out.cell (k := 2) 6 rfl rfl
        have r3 := HS5.out.cell (k := 3) 6 rfl rfl
        have r4 := HS5.out.cell (k := 4) 6 rfl rfl
        have b0 := HS5.out.cell (k := 0) 0 rfl rfl
        have b1 := HS5.out.cell (k := 1) 0 rfl rfl
        have b2 := HS5.out.cell (k := 2) 0 rfl rfl
        have b3 := HS5.out.cell (k := 3) 0 rfl rfl
        have b4 := HS5.out.cell (k := 4) 0 rfl rfl
        obtain ⟨WF, hWF⟩ : ∃ WQ : World, (((((W8.setCell ⟨gc, 0, none⟩ (.slice (some ⟨h0, 0, none⟩) n e0)).setCell ⟨gc, 1, none⟩ (.slice (some ⟨h1, 0, none⟩) (n * n) e1)).setCell ⟨gc, 2, none⟩ (.slice (some ⟨h2, 0, none⟩) n e2)).setCell ⟨gc, 3, none⟩ (.slice (some ⟨h3, 0, none⟩) n e3)).setCell ⟨gc, 4, none⟩ (.slice (some ⟨h4, 0, none⟩) n e4)) = WQ := ⟨_, rfl⟩
        have HSF := Lib.hid ((((((HS5.out.setBlk (k := 0) 6 rfl (.slice (some ⟨h0, 0, none⟩) n e0)).setBlk (k := 1) 6 rfl (.slice (some ⟨h1, 0, none⟩) (n * n) e1)).setBlk (k := 2) 6 rfl (.slice (some ⟨h2, 0, none⟩) n e2)).setBlk (k := 3) 6 rfl (.slice (some ⟨h3, 0, none⟩) n e3)).setBlk (k := 4) 6 rfl (.slice (some ⟨h4, 0, none⟩) n e4)).atW hWF)
        have u0 := HSF.out.cell (k := 0) 6 rfl rfl
        have u1 := HSF.out.cell (k := 1) 6 rfl rfl
        have u2 := HSF.out.cell (k := 2) 6 rfl rfl
        have u3 := HSF.out.cell (k := 3) 6 rfl rfl
        have u4 := HSF.out.cell (k := 4) 6 rfl rfl
        go_wp2
        exact bodyPost_ret (v := .agg #[.slice (some ⟨h0, 0, none⟩) n e0, .slice (some ⟨h1, 0, none⟩) (n * n) e1, .slice (some ⟨h2, 0, none⟩) n e2, .slice (some ⟨h3, 0, none⟩) n e3, .slice (some ⟨h4, 0, none⟩) n e4]) (by simp [results, Try.results55, go_sem, u0, u1, u2, u3, u4]) rfl ⟨_, rfl, by rw [HF.out]; exact ⟨h0, h1, h2, h3, h4, e0, e1, e2, e3, e4, _, _, _, _, _, rfl, unboxB HSF.out⟩⟩
      · as_aux_lemma =>
        go_upto_region 11 with fail
        clear b2 d2
        have HF : Hid (Pl.btake (Pl.setWay b p r) f t x = ⟨b1.Coins, b1.Ways, b1.Kept, b1.Heard.set t (hr.set f true), b1.Found⟩) := Lib.hid (by
          rw [← HB1.out]
          unfold Pl.btake
          rw [if_neg hx0, if_neg (by rw [HKA.out]; exact hk0)]
          show Bank.mk _ _ _ (b1.Heard.set t (((b1.Heard[t]?).getD []).set f true)) _ = _
          rw [HHR.out]; rfl)
        have HS := HS3
        clear HS3
        have b3 := HS.out.cell (k := 3) 0 rfl rfl
        obtain ⟨gh, nh, ch, u0, fx0, e3, hnh, ⟨hu0, -, -⟩, e4, z4, hnext⟩ := HS.out.row (E := Mm.bool) (e' := 4) rfl 4 rfl HHR.out HHV.out
        injection hu0 with hu0 _
        subst hu0
        have fh1 : (f : Int) < (nh : Nat) := by have := HN1.out; omega
        obtain ⟨fp', hs5⟩ := hnext true (.bool true) (fun cs fx ho => by obtain ⟨rfl, _, rfl⟩ := ho; exact ⟨rfl, trivial, rfl⟩)
        obtain ⟨W8, hW8⟩ : ∃ WQ : World, W3.setCell ⟨gh, f, none⟩ (.bool true) = WQ := ⟨_, rfl⟩
        have HS5 := Lib.hid (hs5.atW hW8)
        clear hnext hs5 hnh
        go_upto_region 12 with fail
        clear hW8 b3 e3 e4 z4 fh1
        have z0 := HS5.out.frz (k := 0) 6 rfl
        have z1 := HS5.out.frz (k := 1) 6 rfl
        have z2 := HS5.out.frz (k := 2) 6 rfl
        have z3 := HS5.out.frz (k := 3) 6 rfl
        have z4 := HS5.out.frz (k := 4) 6 rfl
        have r0 := HS5.out.cell (k := 0) 6 rfl rfl
        have r1 := HS5.out.cell (k := 1) 6 rfl rfl
        have r2 := HS5.out.cell (k := 2) 6 rfl rfl
        have r3 := HS5.out.cell (k := 3) 6 rfl rfl
        have r4 := HS5.out.cell (k := 4) 6 rfl rfl
        have b0 := HS5.out.cell (k := 0) 0 rfl rfl
        have b1 := HS5.out.cell (k := 1) 0 rfl rfl
        have b2 := HS5.out.cell (k := 2) 0 rfl rfl
        have b3 := HS5.out.cell (k := 3) 0 rfl rfl
        have b4 := HS5.out.cell (k := 4) 0 rfl rfl
        obtain ⟨WF, hWF⟩ : ∃ WQ : World, (((((W8.setCell ⟨gc, 0, none⟩ (.slice (some ⟨g0, 0, none⟩) n c0)).setCell ⟨gc, 1, none⟩ (.slice (some ⟨g1, 0, none⟩) (n * n) c1)).setCell ⟨gc, 2, none⟩ (.slice (some ⟨g2, 0, none⟩) n c2)).setCell ⟨gc, 3, none⟩ (.slice (some ⟨g3, 0, none⟩) n c3)).setCell ⟨gc, 4, none⟩ (.slice (some ⟨g4, 0, none⟩) n c4)) = WQ := ⟨_, rfl⟩
        have HSF := Lib.hid ((((((HS5.out.setBlk (k := 0) 6 rfl (.slice (some ⟨g0, 0, none⟩) n c0)).setBlk (k := 1) 6 rfl (.slice (some ⟨g1, 0, none⟩) (n * n) c1)).setBlk (k := 2) 6 rfl (.slice (some ⟨g2, 0, none⟩) n c2)).setBlk (k := 3) 6 rfl (.slice (some ⟨g3, 0, none⟩) n c3)).setBlk (k := 4) 6 rfl (.slice (some ⟨g4, 0, none⟩) n c4)).atW hWF)
        have u0 := HSF.out.cell (k := 0) 6 rfl rfl
        have u1 := HSF.out.cell (k := 1) 6 rfl rfl
        have u2 := HSF.out.cell (k := 2) 6 rfl rfl
        have u3 := HSF.out.cell (k := 3) 6 rfl rfl
        have u4 := HSF.out.cell (k := 4) 6 rfl rfl
        go_wp2
        exact bodyPost_ret (v := .agg #[.slice (some ⟨g0, 0, none⟩) n c0, .slice (some ⟨g1, 0, none⟩) (n * n) c1, .slice (some ⟨g2, 0, none⟩) n c2, .slice (some ⟨g3, 0, none⟩) n c3, .slice (some ⟨g4, 0, none⟩) n c4]) (by simp [results, Try.results55, go_sem, u0, u1, u2, u3, u4]) rfl ⟨_, rfl, by rw [HF.out]; exact ⟨g0, g1, g2, g3, g4, c0, c1, c2, c3, c4, _, _, _, _, _, rfl, unboxB HSF.out⟩⟩
end Go.Proofs.Ytpmeagchkcffoaa
