/-
  Joined texts, in build order: Y1, Y2, M7, He, Hs. Each part says what it proves; no conditions beyond those that a part names.
-/
import Derived.Test.YtbhmdnjammnlnaaGreatDoorZ01
import Derived.Test.YtbhmdnjammnlnaaGreatDoorZ02
import Derived.Test.YtbhmdnjammnlnaaGreatDoorZ08
import Derived.Lib.Hide
import Derived.Deep.DeepFit
set_option linter.unusedVariables false
set_option linter.unusedSimpArgs false
/-
  Contract: spec.l17Step: a step by value. No conditions beyond those named.
-/
namespace Go.Proofs.YtbhmdnjammnlnaaGreatDoor
open Go.RowKit
attribute [local go_sem] und_cell cha_cell World.cell?_alloc_some
/-- the pieces of element k of a slice of logs -/
theorem Mm.SepF.logPieces {F : List Nat} {w0 wr : World} {ts : List Mm.Thing} {xs : List Log} {g n c k : Nat} {x : Log} {fp : List Nat} (h : Mm.SepF F w0 wr ts) (i : Nat) (hi : ts[i]? = some (Mm.tsl rLog 80 xs (.slice (some ⟨g, 0, none⟩) n c) fp)) (hk : xs[k]? = some x) :
    ∃ A m d fx, wr.cell? ⟨g, k * 2, none⟩ = some (.slice A m d) ∧ wr.cell? ⟨g, k * 2 + 1, none⟩ = some (.int .i64 x.Begin) ∧ Mm.SlOwn rPiece 164 wr x.Pieces (.slice A m d) fx ∧ fx.Nodup ∧ (∀ b, b ∈ fx → b ∈ fp ∧ b ≠ g) ∧ Mm.I64 x.Begin ∧
      (∀ W l A' m' d' fx', Mm.SepF fx wr W [Mm.tsl rPiece 164 l (.slice A' m' d') fx'] →
        ∃ fp', Mm.SepF F w0 ((W.setCell ⟨g, k * 2, none⟩ (.slice A' m' d')).setCell ⟨g, k * 2 + 1, none⟩ (.int .i64 x.Begin)) (ts.set i (Mm.tsl rLog 80 (xs.set k ⟨l, x.Begin⟩) (.slice (some ⟨g, 0, none⟩) n c) fp'))) := by
  obtain ⟨cs, fx, hown, hfn, hfs, hc, hnext⟩ := h.swap i hi hk
  obtain ⟨A, m, d, f, rfl, rfl, h0, h1⟩ := rLog_own hown
  refine ⟨A, m, d, fx, hc 0 _ rfl, hc 1 _ rfl, h0, hfn, hfs, h1, fun W l A' m' d' fx' hS => ?_⟩
  obtain ⟨fp1, hs1⟩ := hnext W ⟨l, x.Begin⟩ 0 (.slice A' m' d') fx' hS.chg (by decide) (rLog_own_mk (x := ⟨l, x.Begin⟩) (hS.sl 0 rfl) h1) (hS.ndat (i := 0) rfl) (fun b hb => hS.new b (Mm.SepF.mem (i := 0) rfl hb))
  have hlt := (List.getElem?_eq_some_iff.1 hk).1
  have hil := (List.getElem?_eq_some_iff.1 hi).1
  have hs2 := hs1.putSl (k := k) (m := 1) (u := .int .i64 x.Begin) (x := ⟨l, x.Begin⟩) (x' := ⟨l, x.Begin⟩) i (List.getElem?_set_self hil) (List.getElem?_set_self hlt) (by decide) (fun cs fx ho => by
    obtain ⟨A9, n9, c9, f9, rfl, rfl, r0, r1⟩ := rLog_own ho
    exact rLog_own_mk (x := ⟨l, x.Begin⟩) r0 h1)
  rw [show k * rLog.size + 1 = k * 2 + 1 from rfl] at hs2
  rw [List.set_set, List.set_set] at hs2
  exact ⟨_, hs2⟩
def gL6 (g : Log) (s : ByteArray) : Mm.Rel := fun _ _ v ds => ∃ A n c f, v = .tuple #[.agg #[.slice A n c, .int .i64 g.Begin], .bool (Pl.appOk g s)] ∧ ds = [Mm.tsl rPiece 164 (Pl.appG g s).Pieces (.slice A n c) f]
theorem gL6_in {g : Log} {s : ByteArray} {vals : List Value} {tk : List Mm.Thing} : ∃ v ds, gL6 g s vals tk v ds := ⟨_, _, none, 0, 0, [], rfl, rfl⟩
theorem Pl.appG_eta (g : Log) (s : ByteArray) : (⟨(Pl.appG g s).Pieces, g.Begin⟩ : Log) = Pl.appG g s := by
  unfold Pl.appG
  split
  · rw [← Pl.logOut_bg g s]
  · rfl
theorem Pl.set_same {α : Type} {l : List α} {k : Nat} {x : α} (h : l[k]? = some x) : l.set k x = l := by
  apply List.ext_getElem?
  intro i
  by_cases hi : k = i
  · subst hi; rw [List.getElem?_set_self (List.getElem?_eq_some_iff.1 h).1, h]
  · rw [List.getElem?_set_ne hi]
theorem Mm.SepF.rot {F : List Nat} {w0 w : World} {xs ys r : List Mm.Thing} (h : Mm.SepF F w0 w (xs ++ (ys ++ r))) : Mm.SepF F w0 w (ys ++ (xs ++ r)) :=
  have hp : (ys ++ (xs ++ r)).Perm (xs ++ (ys ++ r)) := by
    rw [← List.append_assoc, ← List.append_assoc]
    exact List.perm_append_comm.append_right r
  h.conv (hp.flatMap_right _) fun u hu => h.hold u (hp.mem_iff.1 hu)
set_option maxRecDepth 100000 in
set_option maxHeartbeats 8000000 in
theorem l17Step_c (h : House) (s : HouseStep) (rest : List Mm.Thing) (H : Pl.HouseOk h) (hi : StepI s) (cs : List Value) (w0 w : World) (hs : HoVal w0 w h cs rest) :
    Calls Tryz.prog 53 #[.agg cs.toArray, .agg #[.int .i64 s.Kind, .int .i64 s.Part, .string s.What.Name, .int .i64 s.What.At, .int .i64 s.What.Value]] w fun e w' => e = .returned (.tuple #[.agg cs.toArray, .bool (Pl.stepS h s).2]) ∧ HoVal w0 w' (Pl.stepS h s).1 cs rest := by
  obtain ⟨n, AL, cL, fL, AH, cH, fH, AK, cK, fK, rfl, hS⟩ := hs
  have HNN : Hid (h.Logs.length = n) := (hS.sl 0 rfl).nlen
  have hn1 : 1 ≤ n ∧ n ≤ 3 := by have h1 := H.n1; have h2 := H.n3; have h3 := HNN.out; omega
  obtain ⟨hn1, hn3⟩ := hn1
  obtain ⟨gL, rfl, -, -⟩ := Mm.sl_addr (hS.sl 0 rfl) (by have := HNN.out; omega)
  obtain ⟨gH, rfl, -, -⟩ := Mm.sl_addr (hS.sl 1 rfl) (by have := HNN.out; have := H.hdn; omega)
  obtain ⟨gK, rfl, -, -⟩ := Mm.sl_addr (hS.sl 2 rfl) (by have := HNN.out; have := H.kpn; omega)
  obtain ⟨kd, pt, x⟩ := s
  obtain ⟨ik, ip, inm, iat, ivl⟩ := hi
  dsimp only at ik ip inm iat ivl ⊢
  have HK := Lib.hid H
  have HIK := Lib.hid (And.intro ik ip)
  obtain ⟨gb, hgb⟩ : ∃ g, w.heap.size = g := ⟨_, rfl⟩
  obtain ⟨ga, hga⟩ : ∃ g, gb + 1 = g := ⟨_, rfl⟩
  obtain ⟨gz, hgz⟩ : ∃ g, ga + 1 = g := ⟨_, rfl⟩
  obtain ⟨W1, hW1⟩ : ∃ W, ((w.alloc (.cells #[.slice (some ⟨gL, 0, none⟩) n cL, .slice (some ⟨gH, 0, none⟩) n cH, .slice (some ⟨gK, 0, none⟩) n cK] 27)).alloc (.cells #[.int .i64 kd, .int .i64 pt, .string x.Name, .int .i64 x.At, .int .i64 x.Value] 57)).alloc (.cells #[.slice none 0 0, .slice none 0 0, .slice none 0 0] 27) = W := ⟨_, rfl⟩
  have HS1 := Lib.hid ((((hS.alloc' hgb 27 [.slice (some ⟨gL, 0, none⟩) n cL, .slice (some ⟨gH, 0, none⟩) n cH, .slice (some ⟨gK, 0, none⟩) n cK]).alloc' (g := ga) (by rw [Mm.sz1, hgb, hga]) 57 [.int .i64 kd, .int .i64 pt, .string x.Name, .int .i64 x.At, .int .i64 x.Value]).alloc' (g := gz) (by rw [Mm.sz1, Mm.sz1, hgb, hga, hgz]) 27 [.slice none 0 0, .slice none 0 0, .slice none 0 0]).atW hW1)
  clear hS H ik ip
  go_enter Tryz.func53, Tryz.ntmps53
  go_upto_region 1 with fail
  clear hW1 hgb hga hgz
  have d0 := HS1.out.cell (k := 0) 1 rfl rfl
  have d1 := HS1.out.cell (k := 1) 1 rfl rfl
  have d2 := HS1.out.cell (k := 2) 1 rfl rfl
  have d3 := HS1.out.cell (k := 3) 1 rfl rfl
  have d4 := HS1.out.cell (k := 4) 1 rfl rfl
  have p0 := HS1.out.cell (k := 0) 2 rfl rfl
  by_cases hpt : pt < 0
  · have hpd : decide (pt < 0) = true := decide_eq_true hpt
    have HF : Hid (Pl.stepS h ⟨kd, pt, x⟩ = (h, false)) := by
      show _ = _
      unfold Pl.stepS
      rw [if_neg (fun hh => by dsimp only at hh; omega)]
    go_upto_region 3 with fail
    have p0 := HS1.out.cell (k := 0) 2 rfl rfl
    have p1 := HS1.out.cell (k := 1) 2 rfl rfl
    have p2 := HS1.out.cell (k := 2) 2 rfl rfl
    obtain ⟨WR, hWR⟩ : ∃ V, ((W1.setCell ⟨gz, 0, none⟩ (.slice (some ⟨gL, 0, none⟩) n cL)).setCell ⟨gz, 1, none⟩ (.slice (some ⟨gH, 0, none⟩) n cH)).setCell ⟨gz, 2, none⟩ (.slice (some ⟨gK, 0, none⟩) n cK) = V := ⟨_, rfl⟩
    have HSF := Lib.hid ((((HS1.out.setBlk (k := 0) 0 rfl (.slice (some ⟨gL, 0, none⟩) n cL)).setBlk (k := 1) 0 rfl (.slice (some ⟨gH, 0, none⟩) n cH)).setBlk (k := 2) 0 rfl (.slice (some ⟨gK, 0, none⟩) n cK)).atW hWR)
    have u0 := HSF.out.cell (k := 0) 0 rfl rfl
    have u1 := HSF.out.cell (k := 1) 0 rfl rfl
    have u2 := HSF.out.cell (k := 2) 0 rfl rfl
    have z0 := HS1.out.cell (k := 0) 0 rfl rfl
    have z1 := HS1.out.cell (k := 1) 0 rfl rfl
    have z2 := HS1.out.cell (k := 2) 0 rfl rfl
    have y0 := HS1.out.frz (k := 0) 0 rfl
    have y1 := HS1.out.frz (k := 1) 0 rfl
    have y2 := HS1.out.frz (k := 2) 0 rfl
    go_wp2
    rw [HF.out]
    exact bodyPost_ret (v := .tuple #[.agg #[.slice (some ⟨gL, 0, none⟩) n cL, .slice (some ⟨gH, 0, none⟩) n cH, .slice (some ⟨gK, 0, none⟩) n cK], .bool false]) (by simp [results, Tryz.results53, go_sem, u0, u1, u2]) rfl ⟨rfl, n, _, cL, _, _, cH, _, _, cK, _, rfl, HSF.out.tail.tail.tail⟩
  · have hpd : decide (pt < 0) = false := decide_eq_false hpt
    by_cases hpn : (n : Int) ≤ pt
    · have hpd2 : decide ((n : Int) ≤ pt) = true := decide_eq_true hpn
      have HF : Hid (Pl.stepS h ⟨kd, pt, x⟩ = (h, false)) := by
        show _ = _
        unfold Pl.stepS
        rw [if_neg (fun hh => by dsimp only at hh; have := HNN.out; omega)]
      go_upto_region 3 with fail
      have p0 := HS1.out.cell (k := 0) 2 rfl rfl
      have p1 := HS1.out.cell (k := 1) 2 rfl rfl
      have p2 := HS1.out.cell (k := 2) 2 rfl rfl
      obtain ⟨WR, hWR⟩ : ∃ V, ((W1.setCell ⟨gz, 0, none⟩ (.slice (some ⟨gL, 0, none⟩) n cL)).setCell ⟨gz, 1, none⟩ (.slice (some ⟨gH, 0, none⟩) n cH)).setCell ⟨gz, 2, none⟩ (.slice (some ⟨gK, 0, none⟩) n cK) = V := ⟨_, rfl⟩
      have HSF := Lib.hid ((((HS1.out.setBlk (k := 0) 0 rfl (.slice (some ⟨gL, 0, none⟩) n cL)).setBlk (k := 1) 0 rfl (.slice (some ⟨gH, 0, none⟩) n cH)).setBlk (k := 2) 0 rfl (.slice (some ⟨gK, 0, none⟩) n cK)).atW hWR)
      have u0 := HSF.out.cell (k := 0) 0 rfl rfl
      have u1 := HSF.out.cell (k := 1) 0 rfl rfl
      have u2 := HSF.out.cell (k := 2) 0 rfl rfl
      have z0 := HS1.out.cell (k := 0) 0 rfl rfl
      have z1 := HS1.out.cell (k := 1) 0 rfl rfl
      have z2 := HS1.out.cell (k := 2) 0 rfl rfl
      have y0 := HS1.out.frz (k := 0) 0 rfl
      have y1 := HS1.out.frz (k := 1) 0 rfl
      have y2 := HS1.out.frz (k := 2) 0 rfl
      go_wp2
      rw [HF.out]
      exact bodyPost_ret (v := .tuple #[.agg #[.slice (some ⟨gL, 0, none⟩) n cL, .slice (some ⟨gH, 0, none⟩) n cH, .slice (some ⟨gK, 0, none⟩) n cK], .bool false]) (by simp [results, Tryz.results53, go_sem, u0, u1, u2]) rfl ⟨rfl, n, _, cL, _, _, cH, _, _, cK, _, rfl, HSF.out.tail.tail.tail⟩
    · have hpd2 : decide ((n : Int) ≤ pt) = false := decide_eq_false hpn
      obtain ⟨k, rfl⟩ : ∃ k : Nat, pt = k := ⟨pt.toNat, by omega⟩
      have hkn : k < n := by omega
      have HPT : Hid (0 ≤ ((k : Nat) : Int) ∧ ((k : Nat) : Int) < h.Logs.length) := by have := HNN.out; constructor <;> omega
      obtain ⟨g, a, b, l, hat⟩ := HK.out.at_ (k := k) (by have := HNN.out; omega)
      have HAT := Lib.hid hat
      have fk0 : (0 : Int) ≤ (k : Nat) := by omega
      have fkt : ((k : Nat) : Int).toNat = k := by omega
      have fkn : (k : Int) < (n : Nat) := by omega
      clear hat hpt hpn
      by_cases hk1 : kd = 1
      · subst hk1
        have hnn1 : (1 : Int) ≤ (n : Nat) := by omega
        have CS := fun z : Und W1 => und_call z (l13Say_c x (und W1 z) inm)
        obtain ⟨so, hso⟩ : ∃ b, Pl.sayOk x = b := ⟨_, rfl⟩
        rw [hso] at CS
        have HSO := Lib.hid hso
        clear hso
        have CH := fun z : Und W1 => und_same z (l3Hash_c x.Name (und W1 z) inm)
        have hh := Pl.hash_bd x.Name.data.toList
        have HPN : Hid (Pl.partN (n : Int) x.Name = Pl.hash x.Name.data.toList % (n : Int)) := rfl
        obtain ⟨hv, hhv⟩ : ∃ v, Pl.hash x.Name.data.toList = v := ⟨_, rfl⟩
        rw [hhv] at CH hh HPN
        obtain ⟨hh1, hh2⟩ := hh
        have htm : hv.tmod (n : Int) = hv % (n : Int) := Int.tmod_eq_emod_of_nonneg hh1
        obtain ⟨pv, hpv⟩ : ∃ v, hv % (n : Int) = v := ⟨_, rfl⟩
        rw [hpv] at htm HPN
        have hn0 : ¬ ((n : Nat) : Int) = 0 := by omega
        clear hhv hpv
        go_upto_region 5 with fail
        cases so with
        | false =>
          have HF : Hid (Pl.stepS h ⟨1, k, x⟩ = (h, false)) := by
            show _ = _
            unfold Pl.stepS
            rw [if_pos HPT.out, if_pos rfl, if_neg (fun hh => by have := HSO.out.symm.trans hh.1; cases this)]
          refine wp_region_und (by kernel_rfl) (by kernel_rfl) ?_
          repeat (go_big_quiet_step ((first | (first | (go_at_call 104; with_reducible exact CS _) | (go_at_call 83; with_reducible exact CH _)))))
          refine wpQuiet_nil ?_
          intro X hX
          replace HS1 := Lib.hid (HS1.out.step hX)
          clear hX d0 d1 d2 d3 d4 p0 CS CH
          go_upto_region 6 with fail
          have p0 := HS1.out.cell (k := 0) 2 rfl rfl
          have p1 := HS1.out.cell (k := 1) 2 rfl rfl
          have p2 := HS1.out.cell (k := 2) 2 rfl rfl
          obtain ⟨WR, hWR⟩ : ∃ V, ((X.setCell ⟨gz, 0, none⟩ (.slice (some ⟨gL, 0, none⟩) n cL)).setCell ⟨gz, 1, none⟩ (.slice (some ⟨gH, 0, none⟩) n cH)).setCell ⟨gz, 2, none⟩ (.slice (some ⟨gK, 0, none⟩) n cK) = V := ⟨_, rfl⟩
          have HSF := Lib.hid ((((HS1.out.setBlk (k := 0) 0 rfl (.slice (some ⟨gL, 0, none⟩) n cL)).setBlk (k := 1) 0 rfl (.slice (some ⟨gH, 0, none⟩) n cH)).setBlk (k := 2) 0 rfl (.slice (some ⟨gK, 0, none⟩) n cK)).atW hWR)
          have u0 := HSF.out.cell (k := 0) 0 rfl rfl
          have u1 := HSF.out.cell (k := 1) 0 rfl rfl
          have u2 := HSF.out.cell (k := 2) 0 rfl rfl
          have z0 := HS1.out.cell (k := 0) 0 rfl rfl
          have z1 := HS1.out.cell (k := 1) 0 rfl rfl
          have z2 := HS1.out.cell (k := 2) 0 rfl rfl
          have y0 := HS1.out.frz (k := 0) 0 rfl
          have y1 := HS1.out.frz (k := 1) 0 rfl
          have y2 := HS1.out.frz (k := 2) 0 rfl
          go_wp2
          rw [HF.out]
          exact bodyPost_ret (v := .tuple #[.agg #[.slice (some ⟨gL, 0, none⟩) n cL, .slice (some ⟨gH, 0, none⟩) n cH, .slice (some ⟨gK, 0, none⟩) n cK], .bool false]) (by simp [results, Tryz.results53, go_sem, u0, u1, u2]) rfl ⟨rfl, n, _, cL, _, _, cH, _, _, cK, _, rfl, HSF.out.tail.tail.tail⟩
        | true =>
          by_cases hpk : pv = k
          · have hpk' : (pv != (k : Int)) = false := by simp [hpk]
            have HPK : Hid (Pl.partN h.Logs.length x.Name = k) := by show _ = _; rw [HNN.out]; exact HPN.out.trans hpk
            clear hpk
            refine wp_region_und (by kernel_rfl) (by kernel_rfl) ?_
            repeat (go_big_quiet_step ((first | (first | (go_at_call 104; with_reducible exact CS _) | (go_at_call 83; with_reducible exact CH _)))))
            refine wpQuiet_nil ?_
            intro X hX
            replace HS1 := Lib.hid (HS1.out.step hX)
            clear hX d0 d1 d2 d3 d4 p0 CS CH
            obtain ⟨W2, rfl⟩ : ∃ W : World, W = X := ⟨_, rfl⟩
            go_upto_region 7 with fail
            have d2 := HS1.out.cell (k := 2) 1 rfl rfl
            have d3 := HS1.out.cell (k := 3) 1 rfl rfl
            have d4 := HS1.out.cell (k := 4) 1 rfl rfl
            have p0 := HS1.out.cell (k := 0) 2 rfl rfl
            obtain ⟨Ap, mp, dp, fx, e0, e1, hso, hfn, hfs, hbi, hmain⟩ := HS1.out.logPieces 3 rfl HAT.out.lg
            have HMAIN := Lib.hid hmain
            have HSO9 := Lib.hid (And.intro hso hfn)
            have HBI := Lib.hid hbi
            have nA : ga ∉ fx := fun hh => HS1.out.apart (i := 1) (j := 3) rfl rfl (by decide) ga (by simp [Mm.tblk]) (hfs _ hh).1
            have nB : gb ∉ fx := fun hh => HS1.out.apart (i := 2) (j := 3) rfl rfl (by decide) gb (by simp [Mm.tblk]) (hfs _ hh).1
            have nL : gL ∉ fx := fun hh => (hfs _ hh).2 rfl
            have hgLl : gL < W2.heap.size := (HS1.out.sl 3 rfl).olt _ (HS1.out.sl 3 rfl).mem_block
            have hgBl : gb < W2.heap.size := (HS1.out.blk 2 rfl).1
            have HZF := Lib.hid (HS1.out.sl 3 rfl).frozen
            clear hmain hso hfn hfs hbi
            have hsb := Pl.sayOk_bounds HSO.out
            have hsn := Pl.sayOk_name HSO.out
            obtain ⟨tx, htx⟩ : ∃ t, Pl.sayTxt x = t := ⟨_, rfl⟩
            have HTX := Lib.hid htx
            have htz : tx.size ≤ 1000 := by rw [← htx]; exact Pl.sayTxt_size HSO.out
            have CT := l13Text_c x (by omega) (by omega) (by omega)
            rw [htx] at CT
            clear htx
            refine Mm.wp_region_give 14 (fun i => match i with | 7 => some (Mm.gVal (.string tx)) | 8 => some (gL6 g tx) | 12 => some (Mm.gPtr 80 [.slice none 0 0, .int .i64 0]) | 13 => some (Mm.gSto 80) | _ => none) (fun i => match i with | 8 => [15] | 13 => [12] | _ => []) (fun i => match i with | 15 => [Mm.tsl rPiece 164 g.Pieces (.slice Ap mp dp) fx] | _ => []) (F := fx) (D := fun w' => ∃ q : Cha fx W2, w' = cha fx W2 q) (fun X us h => Mm.sep_cha h) (by kernel_rfl) (by kernel_rfl) (by kernel_rfl) (Mm.sep_eq ((Mm.SepF.one (Mm.tsl rPiece 164 g.Pieces (.slice Ap mp dp) fx) W2 HSO9.out.1 HSO9.out.2).step (Below.refl _ _).drew) rfl) ?_
            repeat (refine Mm.give_det (by rfl) (by rfl) (by rfl) (fun K hK => ?_); go_big_quiet_op; refine hK _ ?_; clear hK K)
            refine Mm.give_op0 49 (by rfl) rfl (by rfl) (by rfl) (by rfl) (by rfl) Mm.gVal_in (fun others X hX => ?_) ?_
            · go_wp2_with (go_at_call 106; refine (CT _).mono ?_; rintro e w7 ⟨rfl, hb7⟩)
              exact Mm.gvq_val hX hb7 rfl rfl
            rintro v ds ⟨rfl, rfl⟩
            simp only [Act.put, List.setIfInBounds_toArray, List.set_cons_succ, List.set_cons_zero]
            repeat (refine Mm.give_det (by rfl) (by rfl) (by rfl) (fun K hK => ?_); go_big_quiet_op; refine hK _ ?_; clear hK K)
            refine Mm.give_op1 50 15 (by rfl) rfl (by rfl) (by rfl) (by rfl) rfl (by rfl) _ rfl gL6_in (fun others X hX => ?_) ?_
            · go_wp2_with (go_at_call 105; refine (l6Append_c g tx Ap mp dp fx X (hX.sl 0 rfl) (hX.ndat (i := 0) rfl) HAT.out.p.log HBI.out htz).mono ?_; rintro e w5 ⟨A2, m2, d9, f2, rfl, hS9⟩)
              exact ⟨rfl, rfl, _, ⟨A2, m2, d9, f2, rfl, rfl⟩, hX.call 0 rfl hS9.left⟩
            rintro v ds ⟨A3, m3, c3, f3, rfl, rfl⟩
            simp only [Act.put, List.setIfInBounds_toArray, List.set_cons_succ, List.set_cons_zero]
            repeat (refine Mm.give_det (by rfl) (by rfl) (by rfl) (fun K hK => ?_); go_big_quiet_op; refine hK _ ?_; clear hK K)
            refine Mm.give_op0 7 (by rfl) rfl (by rfl) (by rfl) (by rfl) (by rfl) Mm.gPtr_in (fun others X hX => ?_) ?_
            · go_wp2
              exact Mm.gvq_ptr hX rfl rfl rfl
            rintro v ds ⟨gy, rfl, rfl⟩
            simp only [Act.put, List.setIfInBounds_toArray, List.set_cons_succ, List.set_cons_zero]
            refine Mm.give_store 80 gy [.slice none 0 0, .int .i64 0] [.slice A3 m3 c3, .int .i64 g.Begin] 12 (by rfl) rfl rfl (by rfl) rfl (by rfl) rfl rfl (fun others X hX => ?_) ?_
            · have y0 := hX.cell (k := 0) 0 rfl rfl
              have y1 := hX.cell (k := 1) 0 rfl rfl
              have x0 := hX.frz (k := 0) 0 rfl
              have x1 := hX.frz (k := 1) 0 rfl
              have hX9 := (hX.setBlk (k := 0) 0 rfl (.slice A3 m3 c3)).setBlk (k := 1) 0 rfl (.int .i64 g.Begin)
              go_wp2
              exact ⟨rfl, rfl, _, rfl, hX9⟩
            refine Mm.give_nil ?_
            rintro X2 hX
            have HX2 : Hid (Mm.SepF fx W2 X2 [Mm.tsl rPiece 164 (Pl.appG g tx).Pieces (.slice A3 m3 c3) f3, Mm.tblk gy 80 [.slice A3 m3 c3, .int .i64 g.Begin]]) := Mm.sep_eq hX rfl
            clear hX d2 d3 d4 p0 e0 e1
            go_upto_region 8 with fail
            have y0 := HX2.out.cell (k := 0) 1 rfl rfl
            have y1 := HX2.out.cell (k := 1) 1 rfl rfl
            have p0 := (World.cell?_of_block (a := ⟨gb, 0, none⟩) (HX2.out.chg.block gb hgBl nB)).trans (HS1.out.cell (k := 0) 2 rfl rfl)
            obtain ⟨_, _, _, v0, v1⟩ := rLog_ocell (HS1.out.sl 3 rfl) (HS1.out.ndat (i := 3) rfl) HAT.out.lg
            have t0 := (World.cell?_of_block (a := ⟨gL, k * 2, none⟩) (HX2.out.chg.block gL hgLl nL)).trans v0
            have t1 := (World.cell?_of_block (a := ⟨gL, k * 2 + 1, none⟩) (HX2.out.chg.block gL hgLl nL)).trans v1
            have z0 := (World.frozen?_of_block (a := ⟨gL, k * 2, none⟩) (HX2.out.chg.block gL hgLl nL)).trans (HZF.out _)
            have z1 := (World.frozen?_of_block (a := ⟨gL, k * 2 + 1, none⟩) (HX2.out.chg.block gL hgLl nL)).trans (HZF.out _)
            clear v0 v1
            obtain ⟨fp', hM⟩ := HMAIN.out X2 _ A3 m3 c3 f3 (HX2.out.sel [0] (by decide) rfl)
            rw [Pl.appG_eta] at hM
            obtain ⟨X3, hX3⟩ : ∃ W, (X2.setCell ⟨gL, k * 2, none⟩ (.slice A3 m3 c3)).setCell ⟨gL, k * 2 + 1, none⟩ (.int .i64 g.Begin) = W := ⟨_, rfl⟩
            have HS9 := Lib.hid (hM.atW hX3)
            clear hM
            obtain ⟨ok, hok⟩ : ∃ b, Pl.appOk g tx = b := ⟨_, rfl⟩
            have HF : Hid (Pl.stepS h ⟨1, k, x⟩ = (⟨h.Logs.set k (Pl.appG g tx), h.Heads, h.Kept⟩, ok)) := by
              show _ = _
              unfold Pl.stepS
              rw [if_pos HPT.out, if_pos rfl, Int.toNat_natCast, Pl.logK_of HAT.out.lg, HTX.out]
              cases ok with
              | true => rw [if_pos ⟨HSO.out, HPK.out, hok⟩, show Pl.appG g tx = Pl.logOut g tx from if_pos hok]
              | false =>
                rw [if_neg (fun hh => by have := hok.symm.trans hh.2.2; cases this), show Pl.appG g tx = g from if_neg (by rw [hok]; simp), Pl.set_same HAT.out.lg]
            rw [hok]
            clear hok
            go_upto_region 9 with fail
            clear hX3 y0 y1 p0 t0 t1 z0 z1
            have p0 := HS9.out.cell (k := 0) 2 rfl rfl
            have p1 := HS9.out.cell (k := 1) 2 rfl rfl
            have p2 := HS9.out.cell (k := 2) 2 rfl rfl
            obtain ⟨WR, hWR⟩ : ∃ V, ((X3.setCell ⟨gz, 0, none⟩ (.slice (some ⟨gL, 0, none⟩) n cL)).setCell ⟨gz, 1, none⟩ (.slice (some ⟨gH, 0, none⟩) n cH)).setCell ⟨gz, 2, none⟩ (.slice (some ⟨gK, 0, none⟩) n cK) = V := ⟨_, rfl⟩
            have HSF := Lib.hid ((((HS9.out.setBlk (k := 0) 0 rfl (.slice (some ⟨gL, 0, none⟩) n cL)).setBlk (k := 1) 0 rfl (.slice (some ⟨gH, 0, none⟩) n cH)).setBlk (k := 2) 0 rfl (.slice (some ⟨gK, 0, none⟩) n cK)).atW hWR)
            have u0 := HSF.out.cell (k := 0) 0 rfl rfl
            have u1 := HSF.out.cell (k := 1) 0 rfl rfl
            have u2 := HSF.out.cell (k := 2) 0 rfl rfl
            have z0 := HS9.out.cell (k := 0) 0 rfl rfl
            have z1 := HS9.out.cell (k := 1) 0 rfl rfl
            have z2 := HS9.out.cell (k := 2) 0 rfl rfl
            have y0 := HS9.out.frz (k := 0) 0 rfl
            have y1 := HS9.out.frz (k := 1) 0 rfl
            have y2 := HS9.out.frz (k := 2) 0 rfl
            go_wp2
            rw [HF.out]
            exact bodyPost_ret (v := .tuple #[.agg #[.slice (some ⟨gL, 0, none⟩) n cL, .slice (some ⟨gH, 0, none⟩) n cH, .slice (some ⟨gK, 0, none⟩) n cK], .bool ok]) (by simp [results, Tryz.results53, go_sem, u0, u1, u2]) rfl ⟨rfl, n, _, cL, _, _, cH, _, _, cK, _, rfl, HSF.out.tail.tail.tail⟩
          · have hpk' : (pv != (k : Int)) = true := by simpa using hpk
            have HF : Hid (Pl.stepS h ⟨1, k, x⟩ = (h, false)) := by
              show _ = _
              unfold Pl.stepS
              rw [if_pos HPT.out, if_pos rfl, if_neg (fun hh => hpk (HPN.out.symm.trans (by rw [← HNN.out]; exact hh.2.1)))]
            clear hpk
            refine wp_region_und (by kernel_rfl) (by kernel_rfl) ?_
            repeat (go_big_quiet_step ((first | (first | (go_at_call 104; with_reducible exact CS _) | (go_at_call 83; with_reducible exact CH _)))))
            refine wpQuiet_nil ?_
            intro X hX
            replace HS1 := Lib.hid (HS1.out.step hX)
            clear hX d0 d1 d2 d3 d4 p0 CS CH
            go_upto_region 6 with fail
            have p0 := HS1.out.cell (k := 0) 2 rfl rfl
            have p1 := HS1.out.cell (k := 1) 2 rfl rfl
            have p2 := HS1.out.cell (k := 2) 2 rfl rfl
            obtain ⟨WR, hWR⟩ : ∃ V, ((X.setCell ⟨gz, 0, none⟩ (.slice (some ⟨gL, 0, none⟩) n cL)).setCell ⟨gz, 1, none⟩ (.slice (some ⟨gH, 0, none⟩) n cH)).setCell ⟨gz, 2, none⟩ (.slice (some ⟨gK, 0, none⟩) n cK) = V := ⟨_, rfl⟩
            have HSF := Lib.hid ((((HS1.out.setBlk (k := 0) 0 rfl (.slice (some ⟨gL, 0, none⟩) n cL)).setBlk (k := 1) 0 rfl (.slice (some ⟨gH, 0, none⟩) n cH)).setBlk (k := 2) 0 rfl (.slice (some ⟨gK, 0, none⟩) n cK)).atW hWR)
            have u0 := HSF.out.cell (k := 0) 0 rfl rfl
            have u1 := HSF.out.cell (k := 1) 0 rfl rfl
            have u2 := HSF.out.cell (k := 2) 0 rfl rfl
            have z0 := HS1.out.cell (k := 0) 0 rfl rfl
            have z1 := HS1.out.cell (k := 1) 0 rfl rfl
            have z2 := HS1.out.cell (k := 2) 0 rfl rfl
            have y0 := HS1.out.frz (k := 0) 0 rfl
            have y1 := HS1.out.frz (k := 1) 0 rfl
            have y2 := HS1.out.frz (k := 2) 0 rfl
            go_wp2
            rw [HF.out]
            exact bodyPost_ret (v := .tuple #[.agg #[.slice (some ⟨gL, 0, none⟩) n cL, .slice (some ⟨gH, 0, none⟩) n cH, .slice (some ⟨gK, 0, none⟩) n cK], .bool false]) (by simp [results, Tryz.results53, go_sem, u0, u1, u2]) rfl ⟨rfl, n, _, cL, _, _, cH, _, _, cK, _, rfl, HSF.out.tail.tail.tail⟩
      · have hk1' : ((kd : Int) == 1) = false := by simpa using hk1
        have CN := fun W => run_neSay x W
        obtain ⟨ns, hns⟩ : ∃ b, Pl.noSay x = b := ⟨_, rfl⟩
        rw [hns] at CN
        have HNS := Lib.hid hns
        clear hns
        cases ns with
        | false =>
          have HF : Hid (Pl.stepS h ⟨kd, k, x⟩ = (h, false)) := by
            show _ = _
            unfold Pl.stepS
            rw [if_pos HPT.out, if_neg hk1, if_neg (by rw [HNS.out]; simp)]
          go_upto_region 11 with fail
          have p0 := HS1.out.cell (k := 0) 2 rfl rfl
          have p1 := HS1.out.cell (k := 1) 2 rfl rfl
          have p2 := HS1.out.cell (k := 2) 2 rfl rfl
          obtain ⟨WR, hWR⟩ : ∃ V, ((W1.setCell ⟨gz, 0, none⟩ (.slice (some ⟨gL, 0, none⟩) n cL)).setCell ⟨gz, 1, none⟩ (.slice (some ⟨gH, 0, none⟩) n cH)).setCell ⟨gz, 2, none⟩ (.slice (some ⟨gK, 0, none⟩) n cK) = V := ⟨_, rfl⟩
          have HSF := Lib.hid ((((HS1.out.setBlk (k := 0) 0 rfl (.slice (some ⟨gL, 0, none⟩) n cL)).setBlk (k := 1) 0 rfl (.slice (some ⟨gH, 0, none⟩) n cH)).setBlk (k := 2) 0 rfl (.slice (some ⟨gK, 0, none⟩) n cK)).atW hWR)
          have u0 := HSF.out.cell (k := 0) 0 rfl rfl
          have u1 := HSF.out.cell (k := 1) 0 rfl rfl
          have u2 := HSF.out.cell (k := 2) 0 rfl rfl
          have z0 := HS1.out.cell (k := 0) 0 rfl rfl
          have z1 := HS1.out.cell (k := 1) 0 rfl rfl
          have z2 := HS1.out.cell (k := 2) 0 rfl rfl
          have y0 := HS1.out.frz (k := 0) 0 rfl
          have y1 := HS1.out.frz (k := 1) 0 rfl
          have y2 := HS1.out.frz (k := 2) 0 rfl
          go_wp2
          rw [HF.out]
          exact bodyPost_ret (v := .tuple #[.agg #[.slice (some ⟨gL, 0, none⟩) n cL, .slice (some ⟨gH, 0, none⟩) n cH, .slice (some ⟨gK, 0, none⟩) n cK], .bool false]) (by simp [results, Tryz.results53, go_sem, u0, u1, u2]) rfl ⟨rfl, n, _, cL, _, _, cH, _, _, cK, _, rfl, HSF.out.tail.tail.tail⟩
        | true =>
          have HSTP : Hid (Pl.stepS h ⟨kd, k, x⟩ = if kd = 2 then Pl.followS h k else if kd = 3 then (⟨h.Logs, h.Heads, h.Kept.set k (Pl.headK h k)⟩, true) else if kd = 4 then (⟨h.Logs, h.Heads.set k (Pl.keptK h k), h.Kept⟩, true) else (h, false)) := by
            show _ = _
            unfold Pl.stepS
            rw [if_pos HPT.out, if_neg hk1, if_pos (by rw [HNS.out]), Int.toNat_natCast]
          by_cases h2 : kd = 2
          · subst h2
            have HF : Hid (Pl.stepS h ⟨2, k, x⟩ = Pl.followS h k) := by show _ = _; rw [HSTP.out, if_pos rfl]
            have p1 := HS1.out.cell (k := 1) 2 rfl rfl
            have p2 := HS1.out.cell (k := 2) 2 rfl rfl
            obtain ⟨tz, htz⟩ : ∃ t, Mm.tblk gz 27 [.slice none 0 0, .slice none 0 0, .slice none 0 0] = t := ⟨_, rfl⟩
            obtain ⟨ta, hta⟩ : ∃ t, Mm.tblk ga 57 [.int .i64 2, .int .i64 (k : Nat), .string x.Name, .int .i64 x.At, .int .i64 x.Value] = t := ⟨_, rfl⟩
            obtain ⟨tb, htb⟩ : ∃ t, Mm.tblk gb 27 [.slice (some ⟨gL, 0, none⟩) n cL, .slice (some ⟨gH, 0, none⟩) n cH, .slice (some ⟨gK, 0, none⟩) n cK] = t := ⟨_, rfl⟩
            have hr := Mm.SepF.rot (xs := [tz, ta, tb]) (ys := [Mm.tsl rLog 80 h.Logs (.slice (some ⟨gL, 0, none⟩) n cL) fL, Mm.tsl rHead 73 h.Heads (.slice (some ⟨gH, 0, none⟩) n cH) fH, Mm.tsl rHead 73 h.Kept (.slice (some ⟨gK, 0, none⟩) n cK) fK]) (r := rest) (by rw [← htz, ← hta, ← htb]; exact HS1.out)
            have CF := l17Follow_c h k (tz :: ta :: tb :: rest) g a b l HAT.out [.slice (some ⟨gL, 0, none⟩) n cL, .slice (some ⟨gH, 0, none⟩) n cH, .slice (some ⟨gK, 0, none⟩) n cK] w0 W1 ⟨n, _, cL, fL, _, cH, fH, _, cK, fK, rfl, hr⟩
            have HTZ := Lib.hid htz
            have HTA := Lib.hid hta
            have HTB := Lib.hid htb
            clear hr htz hta htb
            go_wp2_with fail
            refine CF.mono ?_
            rintro e w2 ⟨rfl, hv2⟩
            obtain ⟨W2, rfl⟩ : ∃ W : World, W = w2 := ⟨_, rfl⟩
            obtain ⟨f2L, f2H, f2K, hs2⟩ := hv2.sep
            have hr2 := Mm.SepF.rot (xs := [Mm.tsl rLog 80 (Pl.followS h k).1.Logs (.slice (some ⟨gL, 0, none⟩) n cL) f2L, Mm.tsl rHead 73 (Pl.followS h k).1.Heads (.slice (some ⟨gH, 0, none⟩) n cH) f2H, Mm.tsl rHead 73 (Pl.followS h k).1.Kept (.slice (some ⟨gK, 0, none⟩) n cK) f2K]) (ys := [tz, ta, tb]) (r := rest) hs2
            rw [← HTZ.out, ← HTA.out, ← HTB.out] at hr2
            have HS2 := Lib.hid hr2
            clear CF hv2 hs2 hr2 d0 d1 d2 d3 d4 p0 p1 p2
            obtain ⟨WR, hWR⟩ : ∃ V, ((W2.setCell ⟨gz, 0, none⟩ (.slice (some ⟨gL, 0, none⟩) n cL)).setCell ⟨gz, 1, none⟩ (.slice (some ⟨gH, 0, none⟩) n cH)).setCell ⟨gz, 2, none⟩ (.slice (some ⟨gK, 0, none⟩) n cK) = V := ⟨_, rfl⟩
            have HSF := Lib.hid ((((HS2.out.setBlk (k := 0) 0 rfl (.slice (some ⟨gL, 0, none⟩) n cL)).setBlk (k := 1) 0 rfl (.slice (some ⟨gH, 0, none⟩) n cH)).setBlk (k := 2) 0 rfl (.slice (some ⟨gK, 0, none⟩) n cK)).atW hWR)
            have u0 := HSF.out.cell (k := 0) 0 rfl rfl
            have u1 := HSF.out.cell (k := 1) 0 rfl rfl
            have u2 := HSF.out.cell (k := 2) 0 rfl rfl
            have z0 := HS2.out.cell (k := 0) 0 rfl rfl
            have z1 := HS2.out.cell (k := 1) 0 rfl rfl
            have z2 := HS2.out.cell (k := 2) 0 rfl rfl
            have y0 := HS2.out.frz (k := 0) 0 rfl
            have y1 := HS2.out.frz (k := 1) 0 rfl
            have y2 := HS2.out.frz (k := 2) 0 rfl
            go_wp2
            rw [HF.out]
            exact bodyPost_ret (v := .tuple #[.agg #[.slice (some ⟨gL, 0, none⟩) n cL, .slice (some ⟨gH, 0, none⟩) n cH, .slice (some ⟨gK, 0, none⟩) n cK], .bool (Pl.followS h k).2]) (by simp [results, Tryz.results53, go_sem, u0, u1, u2]) rfl ⟨rfl, n, _, cL, _, _, cH, _, _, cK, _, rfl, HSF.out.tail.tail.tail⟩
          · have h2' : ((kd : Int) == 2) = false := by simpa using h2
            by_cases h3 : kd = 3
            · subst h3
              have HF : Hid (Pl.stepS h ⟨3, k, x⟩ = (⟨h.Logs, h.Heads, h.Kept.set k a⟩, true)) := by show _ = _; rw [HSTP.out, if_neg h2, if_pos rfl, Pl.headK_of HAT.out.hd]
              have p1 := HS1.out.cell (k := 1) 2 rfl rfl
              have p2 := HS1.out.cell (k := 2) 2 rfl rfl
              obtain ⟨a', A6, m6, c6, hx6, -, hrd6, hof6, e0, e1⟩ := rHead_get' (HS1.out.rdSl 4 rfl) hkn
              obtain rfl : a' = a := by have := HAT.out.hd; rw [hx6] at this; injection this
              rw [Nat.zero_add] at e0 e1
              have HRD := Lib.hid (rHead_at_mk hrd6 hof6)
              have HWK := Lib.hid HAT.out.p.head.hw
              clear hx6 hrd6 hof6
              go_wp2_with fail
              refine Mm.wp_region_give 10 (fun i => match i with | 8 => some (gFoldH a') | _ => none) (fun _ => []) (fun _ => []) (F := []) (D := fun w' => ∃ z : Und W1, w' = und W1 z) (fun X us h => Mm.sep_und h) (by kernel_rfl) (by kernel_rfl) (by kernel_rfl) (Mm.SepF.startDrew _) ?_
              repeat (refine Mm.give_det (by rfl) (by rfl) (by rfl) (fun K hK => ?_); go_big_quiet_op; refine hK _ ?_; clear hK K)
              refine Mm.give_op0 85 (by rfl) rfl (by rfl) (by rfl) (by rfl) (by rfl) gFoldH_in (fun others X hX => ?_) ?_
              · have CC := l13Own_c a' [.slice A6 m6 c6, .int .i64 a'.Offset] X W1.heap.size (rHead.keep HRD.out fun b hb => hX.bel0.block b hb) hX.bel0.size HWK.out
                go_wp2_with (go_at_call 107; refine CC.mono ?_; rintro e w5 ⟨cs5, f5, rfl, ho5, hnd5, hnew5, hb5⟩; obtain ⟨A5, n5, c5, g5, rfl, rfl, -, -⟩ := rHead_own ho5)
                exact ⟨rfl, rfl, _, ⟨A5, n5, c5, _, rfl, rfl⟩, hX.add hb5 (t := Mm.tow rHead a' [.slice A5 n5 c5, .int .i64 a'.Offset] _) ho5 hnd5 hnew5⟩
              rintro v ds ⟨A3, m3, c3, f3, rfl, rfl⟩
              simp only [Act.put, List.setIfInBounds_toArray, List.set_cons_succ, List.set_cons_zero]
              repeat (refine Mm.give_det (by rfl) (by rfl) (by rfl) (fun K hK => ?_); go_big_quiet_op; refine hK _ ?_; clear hK K)
              refine Mm.give_nil ?_
              rintro X8 hX8
              have hx8 : Mm.SepF [] W1 X8 [Mm.tow rHead a' [.slice A3 m3 c3, .int .i64 a'.Offset] f3] := Mm.sep_eq hX8 rfl
              clear hX8 p1 p2 e0 e1
              have hb8 := hx8.bel0
              obtain ⟨_, _, _, v0, v1⟩ := rHead_ocell (HS1.out.sl 5 rfl) (HS1.out.ndat (i := 5) rfl) HAT.out.kp
              have q0 := below_some hb8 v0
              have q1 := below_some hb8 v1
              have fl0 := ((HS1.out.step hb8).sl 5 rfl).frozen (k * 2)
              have fl1 := ((HS1.out.step hb8).sl 5 rfl).frozen (k * 2 + 1)
              obtain ⟨fp9, hs9⟩ := putHeadEl HS1.out 5 rfl HAT.out.kp hx8
              obtain ⟨W9, hW9⟩ : ∃ W, (X8.setCell ⟨gK, k * 2, none⟩ (.slice A3 m3 c3)).setCell ⟨gK, k * 2 + 1, none⟩ (.int .i64 a'.Offset) = W := ⟨_, rfl⟩
              have HS9 := Lib.hid (hs9.atW hW9)
              clear hs9 hx8 hb8 v0 v1
              go_upto_region 20 with fail
              clear hW9 q0 q1 fl0 fl1
              have p0 := HS9.out.cell (k := 0) 2 rfl rfl
              have p1 := HS9.out.cell (k := 1) 2 rfl rfl
              have p2 := HS9.out.cell (k := 2) 2 rfl rfl
              obtain ⟨WR, hWR⟩ : ∃ V, ((W9.setCell ⟨gz, 0, none⟩ (.slice (some ⟨gL, 0, none⟩) n cL)).setCell ⟨gz, 1, none⟩ (.slice (some ⟨gH, 0, none⟩) n cH)).setCell ⟨gz, 2, none⟩ (.slice (some ⟨gK, 0, none⟩) n cK) = V := ⟨_, rfl⟩
              have HSF := Lib.hid ((((HS9.out.setBlk (k := 0) 0 rfl (.slice (some ⟨gL, 0, none⟩) n cL)).setBlk (k := 1) 0 rfl (.slice (some ⟨gH, 0, none⟩) n cH)).setBlk (k := 2) 0 rfl (.slice (some ⟨gK, 0, none⟩) n cK)).atW hWR)
              have u0 := HSF.out.cell (k := 0) 0 rfl rfl
              have u1 := HSF.out.cell (k := 1) 0 rfl rfl
              have u2 := HSF.out.cell (k := 2) 0 rfl rfl
              have z0 := HS9.out.cell (k := 0) 0 rfl rfl
              have z1 := HS9.out.cell (k := 1) 0 rfl rfl
              have z2 := HS9.out.cell (k := 2) 0 rfl rfl
              have y0 := HS9.out.frz (k := 0) 0 rfl
              have y1 := HS9.out.frz (k := 1) 0 rfl
              have y2 := HS9.out.frz (k := 2) 0 rfl
              go_wp2
              rw [HF.out]
              exact bodyPost_ret (v := .tuple #[.agg #[.slice (some ⟨gL, 0, none⟩) n cL, .slice (some ⟨gH, 0, none⟩) n cH, .slice (some ⟨gK, 0, none⟩) n cK], .bool true]) (by simp [results, Tryz.results53, go_sem, u0, u1, u2]) rfl ⟨rfl, n, _, cL, _, _, cH, _, _, cK, _, rfl, HSF.out.tail.tail.tail⟩
            · have h3' : ((kd : Int) == 3) = false := by simpa using h3
              by_cases h4 : kd = 4
              · subst h4
                have HF : Hid (Pl.stepS h ⟨4, k, x⟩ = (⟨h.Logs, h.Heads.set k b, h.Kept⟩, true)) := by show _ = _; rw [HSTP.out, if_neg h2, if_neg h3, if_pos rfl, Pl.keptK_of HAT.out.kp]
                have p1 := HS1.out.cell (k := 1) 2 rfl rfl
                have p2 := HS1.out.cell (k := 2) 2 rfl rfl
                obtain ⟨a', A6, m6, c6, hx6, -, hrd6, hof6, e0, e1⟩ := rHead_get' (HS1.out.rdSl 5 rfl) hkn
                obtain rfl : a' = b := by have := HAT.out.kp; rw [hx6] at this; injection this
                rw [Nat.zero_add] at e0 e1
                have HRD := Lib.hid (rHead_at_mk hrd6 hof6)
                have HWK := Lib.hid HAT.out.p.kept.hw
                clear hx6 hrd6 hof6
                go_wp2_with fail
                refine Mm.wp_region_give 10 (fun i => match i with | 8 => some (gFoldH a') | _ => none) (fun _ => []) (fun _ => []) (F := []) (D := fun w' => ∃ z : Und W1, w' = und W1 z) (fun X us h => Mm.sep_und h) (by kernel_rfl) (by kernel_rfl) (by kernel_rfl) (Mm.SepF.startDrew _) ?_
                repeat (refine Mm.give_det (by rfl) (by rfl) (by rfl) (fun K hK => ?_); go_big_quiet_op; refine hK _ ?_; clear hK K)
                refine Mm.give_op0 97 (by rfl) rfl (by rfl) (by rfl) (by rfl) (by rfl) gFoldH_in (fun others X hX => ?_) ?_
                · have CC := l13Own_c a' [.slice A6 m6 c6, .int .i64 a'.Offset] X W1.heap.size (rHead.keep HRD.out fun b hb => hX.bel0.block b hb) hX.bel0.size HWK.out
                  go_wp2_with (go_at_call 107; refine CC.mono ?_; rintro e w5 ⟨cs5, f5, rfl, ho5, hnd5, hnew5, hb5⟩; obtain ⟨A5, n5, c5, g5, rfl, rfl, -, -⟩ := rHead_own ho5)
                  exact ⟨rfl, rfl, _, ⟨A5, n5, c5, _, rfl, rfl⟩, hX.add hb5 (t := Mm.tow rHead a' [.slice A5 n5 c5, .int .i64 a'.Offset] _) ho5 hnd5 hnew5⟩
                rintro v ds ⟨A3, m3, c3, f3, rfl, rfl⟩
                simp only [Act.put, List.setIfInBounds_toArray, List.set_cons_succ, List.set_cons_zero]
                repeat (refine Mm.give_det (by rfl) (by rfl) (by rfl) (fun K hK => ?_); go_big_quiet_op; refine hK _ ?_; clear hK K)
                refine Mm.give_nil ?_
                rintro X8 hX8
                have hx8 : Mm.SepF [] W1 X8 [Mm.tow rHead a' [.slice A3 m3 c3, .int .i64 a'.Offset] f3] := Mm.sep_eq hX8 rfl
                clear hX8 p1 p2 e0 e1
                have hb8 := hx8.bel0
                obtain ⟨_, _, _, v0, v1⟩ := rHead_ocell (HS1.out.sl 4 rfl) (HS1.out.ndat (i := 4) rfl) HAT.out.hd
                have q0 := below_some hb8 v0
                have q1 := below_some hb8 v1
                have fl0 := ((HS1.out.step hb8).sl 4 rfl).frozen (k * 2)
                have fl1 := ((HS1.out.step hb8).sl 4 rfl).frozen (k * 2 + 1)
                obtain ⟨fp9, hs9⟩ := putHeadEl HS1.out 4 rfl HAT.out.hd hx8
                obtain ⟨W9, hW9⟩ : ∃ W, (X8.setCell ⟨gH, k * 2, none⟩ (.slice A3 m3 c3)).setCell ⟨gH, k * 2 + 1, none⟩ (.int .i64 a'.Offset) = W := ⟨_, rfl⟩
                have HS9 := Lib.hid (hs9.atW hW9)
                clear hs9 hx8 hb8 v0 v1
                go_upto_region 20 with fail
                clear hW9 q0 q1 fl0 fl1
                have p0 := HS9.out.cell (k := 0) 2 rfl rfl
                have p1 := HS9.out.cell (k := 1) 2 rfl rfl
                have p2 := HS9.out.cell (k := 2) 2 rfl rfl
                obtain ⟨WR, hWR⟩ : ∃ V, ((W9.setCell ⟨gz, 0, none⟩ (.slice (some ⟨gL, 0, none⟩) n cL)).setCell ⟨gz, 1, none⟩ (.slice (some ⟨gH, 0, none⟩) n cH)).setCell ⟨gz, 2, none⟩ (.slice (some ⟨gK, 0, none⟩) n cK) = V := ⟨_, rfl⟩
                have HSF := Lib.hid ((((HS9.out.setBlk (k := 0) 0 rfl (.slice (some ⟨gL, 0, none⟩) n cL)).setBlk (k := 1) 0 rfl (.slice (some ⟨gH, 0, none⟩) n cH)).setBlk (k := 2) 0 rfl (.slice (some ⟨gK, 0, none⟩) n cK)).atW hWR)
                have u0 := HSF.out.cell (k := 0) 0 rfl rfl
                have u1 := HSF.out.cell (k := 1) 0 rfl rfl
                have u2 := HSF.out.cell (k := 2) 0 rfl rfl
                have z0 := HS9.out.cell (k := 0) 0 rfl rfl
                have z1 := HS9.out.cell (k := 1) 0 rfl rfl
                have z2 := HS9.out.cell (k := 2) 0 rfl rfl
                have y0 := HS9.out.frz (k := 0) 0 rfl
                have y1 := HS9.out.frz (k := 1) 0 rfl
                have y2 := HS9.out.frz (k := 2) 0 rfl
                go_wp2
                rw [HF.out]
                exact bodyPost_ret (v := .tuple #[.agg #[.slice (some ⟨gL, 0, none⟩) n cL, .slice (some ⟨gH, 0, none⟩) n cH, .slice (some ⟨gK, 0, none⟩) n cK], .bool true]) (by simp [results, Tryz.results53, go_sem, u0, u1, u2]) rfl ⟨rfl, n, _, cL, _, _, cH, _, _, cK, _, rfl, HSF.out.tail.tail.tail⟩
              · have h4' : ((kd : Int) == 4) = false := by simpa using h4
                have HF : Hid (Pl.stepS h ⟨kd, k, x⟩ = (h, false)) := by show _ = _; rw [HSTP.out, if_neg h2, if_neg h3, if_neg h4]
                go_upto_region 13 with fail
                have p0 := HS1.out.cell (k := 0) 2 rfl rfl
                have p1 := HS1.out.cell (k := 1) 2 rfl rfl
                have p2 := HS1.out.cell (k := 2) 2 rfl rfl
                obtain ⟨WR, hWR⟩ : ∃ V, ((W1.setCell ⟨gz, 0, none⟩ (.slice (some ⟨gL, 0, none⟩) n cL)).setCell ⟨gz, 1, none⟩ (.slice (some ⟨gH, 0, none⟩) n cH)).setCell ⟨gz, 2, none⟩ (.slice (some ⟨gK, 0, none⟩) n cK) = V := ⟨_, rfl⟩
                have HSF := Lib.hid ((((HS1.out.setBlk (k := 0) 0 rfl (.slice (some ⟨gL, 0, none⟩) n cL)).setBlk (k := 1) 0 rfl (.slice (some ⟨gH, 0, none⟩) n cH)).setBlk (k := 2) 0 rfl (.slice (some ⟨gK, 0, none⟩) n cK)).atW hWR)
                have u0 := HSF.out.cell (k := 0) 0 rfl rfl
                have u1 := HSF.out.cell (k := 1) 0 rfl rfl
                have u2 := HSF.out.cell (k := 2) 0 rfl rfl
                have z0 := HS1.out.cell (k := 0) 0 rfl rfl
                have z1 := HS1.out.cell (k := 1) 0 rfl rfl
                have z2 := HS1.out.cell (k := 2) 0 rfl rfl
                have y0 := HS1.out.frz (k := 0) 0 rfl
                have y1 := HS1.out.frz (k := 1) 0 rfl
                have y2 := HS1.out.frz (k := 2) 0 rfl
                go_wp2
                rw [HF.out]
                exact bodyPost_ret (v := .tuple #[.agg #[.slice (some ⟨gL, 0, none⟩) n cL, .slice (some ⟨gH, 0, none⟩) n cH, .slice (some ⟨gK, 0, none⟩) n cK], .bool false]) (by simp [results, Tryz.results53, go_sem, u0, u1, u2]) rfl ⟨rfl, n, _, cL, _, _, cH, _, _, cK, _, rfl, HSF.out.tail.tail.tail⟩
end Go.Proofs.YtbhmdnjammnlnaaGreatDoor

/-
  Contracts: StepHouse, both sides. Conditions: those named (Tab).
-/
namespace Go.Proofs.YtbhmdnjammnlnaaGreatDoor
open Go.RowKit
attribute [local go_sem] und_cell cha_cell World.cell?_alloc_some
def HoAns (x : House) (b : Bool) (w : World) (e : Ending) (w' : World) : Prop :=
  ∃ cs fp, e = .returned (.tuple #[.agg cs.toArray, .bool b]) ∧ Mm.SepF [] w w' [Mm.tow rHouse x cs fp]
def Pl.stepOf (b : Bool) (h : House) (s : HouseStep) : House × Bool := if b = true ∧ (Pl.stepS h s).2 = true then ((Pl.stepS h s).1, true) else (zHo, false)
theorem hoNo {w w' : World} (hb : Below w.heap.size w w') : HoAns zHo false w (.returned (.tuple #[.agg #[.slice none 0 0, .slice none 0 0, .slice none 0 0], .bool false])) w' :=
  ⟨[.slice none 0 0, .slice none 0 0, .slice none 0 0], [], rfl, (Mm.SepF.start w).add hb (t := Mm.tow rHouse zHo _ []) (zHo_own w') List.nodup_nil (fun b hb => by cases hb)⟩
def gHoA (h : House) : Mm.Rel := fun _ _ v ds => ∃ A0 n0 c0 A1 n1 c1 A2 n2 c2 f, v = .agg #[.slice A0 n0 c0, .slice A1 n1 c1, .slice A2 n2 c2] ∧ ds = [Mm.tow rHouse h [.slice A0 n0 c0, .slice A1 n1 c1, .slice A2 n2 c2] f]
theorem gHoA_in {h : House} {vals : List Value} {tk : List Mm.Thing} : ∃ v ds, gHoA h vals tk v ds := ⟨_, _, none, 0, 0, none, 0, 0, none, 0, 0, [], rfl, rfl⟩
def gHoS (h : House) (b : Bool) : Mm.Rel := fun _ _ v ds => ∃ A0 n0 c0 A1 n1 c1 A2 n2 c2 f, v = .tuple #[.agg #[.slice A0 n0 c0, .slice A1 n1 c1, .slice A2 n2 c2], .bool b] ∧ ds = [Mm.tow rHouse h [.slice A0 n0 c0, .slice A1 n1 c1, .slice A2 n2 c2] f]
theorem gHoS_in {h : House} {b : Bool} {vals : List Value} {tk : List Mm.Thing} : ∃ v ds, gHoS h b vals tk v ds := ⟨_, _, none, 0, 0, none, 0, 0, none, 0, 0, [], rfl, rfl⟩
set_option maxRecDepth 100000 in
set_option maxHeartbeats 4000000 in
theorem implStepHouse0_c (h : House) (b : Bool) (hb : b = true ↔ Pl.HouseOk h) (Bt : Nat) (cs : List Value) (s : HouseStep) (cs2 : List Value) (w : World) (B : Nat) (hh : rHouse.at_ w B h cs) (hst : rHouseStep.at_ w B s cs2) (hB : B ≤ w.heap.size) (ht : Tab Bt w) :
    Calls Tryz.prog 29 #[.agg cs.toArray, .agg cs2.toArray] w (HoAns (Pl.stepOf b h s).1 (Pl.stepOf b h s).2 w) := by
  obtain ⟨A0, n0, c0, A1, n1, c1, A2, n2, c2, rfl, -, -, -⟩ := rHouse_at hh
  obtain ⟨rfl, g0, g1, g2, g3, g4⟩ := rHouseStep_at hst
  have HR := Lib.hid hh
  have HSI : Hid (StepI s) := ⟨g0, g1, g2, g3, g4⟩
  have HBW := Lib.hid hB
  obtain ⟨ga, hga⟩ : ∃ g, w.heap.size = g := ⟨_, rfl⟩
  obtain ⟨gs, hgs⟩ : ∃ g, ga + 1 = g := ⟨_, rfl⟩
  obtain ⟨gz, hgz⟩ : ∃ g, gs + 1 = g := ⟨_, rfl⟩
  obtain ⟨W0, hW0⟩ : ∃ W, ((w.alloc (.cells #[.slice A0 n0 c0, .slice A1 n1 c1, .slice A2 n2 c2] 27)).alloc (.cells #[.int .i64 s.Kind, .int .i64 s.Part, .string s.What.Name, .int .i64 s.What.At, .int .i64 s.What.Value] 57)).alloc (.cells #[.slice none 0 0, .slice none 0 0, .slice none 0 0] 27) = W := ⟨_, rfl⟩
  have KS0 := Lib.hid (((((Mm.SepF.start w).alloc' hga 27 [.slice A0 n0 c0, .slice A1 n1 c1, .slice A2 n2 c2]).alloc' (g := gs) (by rw [Mm.sz1, hga, hgs]) 57 [.int .i64 s.Kind, .int .i64 s.Part, .string s.What.Name, .int .i64 s.What.At, .int .i64 s.What.Value]).alloc' (g := gz) (by rw [Mm.sz1, Mm.sz1, hga, hgs, hgz]) 27 [.slice none 0 0, .slice none 0 0, .slice none 0 0]).atW hW0)
  have d0 := KS0.out.cell (k := 0) 2 rfl rfl
  have d1 := KS0.out.cell (k := 1) 2 rfl rfl
  have d2 := KS0.out.cell (k := 2) 2 rfl rfl
  have CI := (BoolAns.fix hb (isHouse_c h _ W0 B Bt (rHouse.keep hh fun b hb => KS0.out.bel0.block b (by omega)) (by have := KS0.out.bel0.size; omega) (ht.on KS0.out.bel0)))
  have HBO := Lib.hid hb
  clear hh hB hb hst g0 g1 g2 g3 g4
  go_enter Tryz.func29, Tryz.ntmps29
  go_wp2_with fail
  refine CI.mono ?_
  rintro e w1 ⟨rfl, hb1⟩
  obtain ⟨W1, rfl⟩ : ∃ W : World, W = w1 := ⟨_, rfl⟩
  have HS1 := Lib.hid (KS0.out.step hb1)
  clear CI d0 d1 d2 hb1 KS0 hW0 hga hgz hgs
  cases b with
  | false =>
    have HF : Hid (Pl.stepOf false h s = (zHo, false)) := if_neg (fun hh => by cases hh.1)
    obtain ⟨WR, hWR⟩ : ∃ V, ((W1.setCell ⟨gz, 0, none⟩ (.slice none 0 0)).setCell ⟨gz, 1, none⟩ (.slice none 0 0)).setCell ⟨gz, 2, none⟩ (.slice none 0 0) = V := ⟨_, rfl⟩
    have HSF := Lib.hid ((((HS1.out.setBlk (k := 0) 0 rfl (.slice none 0 0)).setBlk (k := 1) 0 rfl (.slice none 0 0)).setBlk (k := 2) 0 rfl (.slice none 0 0)).atW hWR)
    have u0 := HSF.out.cell (k := 0) 0 rfl rfl
    have u1 := HSF.out.cell (k := 1) 0 rfl rfl
    have u2 := HSF.out.cell (k := 2) 0 rfl rfl
    have z0 := HS1.out.cell (k := 0) 0 rfl rfl
    have z1 := HS1.out.cell (k := 1) 0 rfl rfl
    have z2 := HS1.out.cell (k := 2) 0 rfl rfl
    have y0 := HS1.out.frz (k := 0) 0 rfl
    have y1 := HS1.out.frz (k := 1) 0 rfl
    have y2 := HS1.out.frz (k := 2) 0 rfl
    go_wp2
    rw [HF.out]
    exact bodyPost_ret (v := .tuple #[.agg #[.slice none 0 0, .slice none 0 0, .slice none 0 0], .bool false]) (by simp [results, Tryz.results29, go_sem, u0, u1, u2]) rfl (hoNo HSF.out.bel0)
  | true =>
    have HHO := Lib.hid (HBO.out.1 rfl)
    have HT := Lib.hid ht
    have d0 := HS1.out.cell (k := 0) 2 rfl rfl
    have d1 := HS1.out.cell (k := 1) 2 rfl rfl
    have d2 := HS1.out.cell (k := 2) 2 rfl rfl
    have CC := cloneHouse_c h _ W1 B (rHouse.keep HR.out fun b hb => HS1.out.bel0.block b (by have := HBW.out; omega)) (by have := HBW.out; have := HS1.out.bel0.size; omega) HHO.out.hos
    go_wp2_with fail
    refine CC.mono ?_
    rintro e w2 ⟨csc, fpc, rfl, hoc, hndc, hnewc, hbc⟩
    clear CC d0 d1 d2 ht
    obtain ⟨Wc, rfl⟩ : ∃ W : World, W = w2 := ⟨_, rfl⟩
    obtain ⟨A3, m3, k3, A4, m4, k4, A5, m5, k5, f3, f4, f5, rfl, l3, l4, l5, hso⟩ := Mm.SepF.hoOpen (h := h) (HS1.out.add hbc (t := Mm.tow rHouse h csc fpc) hoc hndc hnewc)
    obtain rfl : m4 = m3 := by have := HHO.out.hdn; omega
    obtain rfl : m5 = m4 := by have := HHO.out.kpn; omega
    have HS2 := Lib.hid hso
    clear hso hbc hoc hndc hnewc l3 l4 l5
    obtain ⟨gp, hgp⟩ : ∃ g, Wc.heap.size = g := ⟨_, rfl⟩
    obtain ⟨Wd, hWd⟩ : ∃ W, Wc.alloc (.cells #[.slice none 0 0, .slice none 0 0, .slice none 0 0] 27) = W := ⟨_, rfl⟩
    have HS3 := Lib.hid ((HS2.out.alloc' hgp 27 [.slice none 0 0, .slice none 0 0, .slice none 0 0]).atW hWd)
    have q0 := HS3.out.cell (k := 0) 0 rfl rfl
    have q1 := HS3.out.cell (k := 1) 0 rfl rfl
    have q2 := HS3.out.cell (k := 2) 0 rfl rfl
    have y0 := HS3.out.frz (k := 0) 0 rfl
    have y1 := HS3.out.frz (k := 1) 0 rfl
    have y2 := HS3.out.frz (k := 2) 0 rfl
    go_upto_region 4 with fail
    obtain ⟨WF, hWF⟩ : ∃ V, ((Wd.setCell ⟨gp, 0, none⟩ (.slice A3 m5 k3)).setCell ⟨gp, 1, none⟩ (.slice A4 m5 k4)).setCell ⟨gp, 2, none⟩ (.slice A5 m5 k5) = V := ⟨_, rfl⟩
    have HS4 := Lib.hid ((((HS3.out.setBlk (k := 0) 0 rfl (.slice A3 m5 k3)).setBlk (k := 1) 0 rfl (.slice A4 m5 k4)).setBlk (k := 2) 0 rfl (.slice A5 m5 k5)).atW hWF)
    rw [hWF]
    clear hWF hWd hgp q0 q1 q2 y0 y1 y2 HS3 HS2 HS1
    have s0 := HS4.out.cell (k := 0) 5 rfl rfl
    have s1 := HS4.out.cell (k := 1) 5 rfl rfl
    have s2 := HS4.out.cell (k := 2) 5 rfl rfl
    have s3 := HS4.out.cell (k := 3) 5 rfl rfl
    have s4 := HS4.out.cell (k := 4) 5 rfl rfl
    have CU := step_c h s gp Bt [Mm.tblk gz 27 [.slice none 0 0, .slice none 0 0, .slice none 0 0]] HHO.out HSI.out w WF HT.out ⟨m5, A3, k3, f3, A4, k4, f4, A5, k5, f5, HS4.out.sel [1, 2, 3, 0, 4] (by decide) rfl⟩
    obtain ⟨ok, hok⟩ : ∃ b, (Pl.stepS h s).2 = b := ⟨_, rfl⟩
    rw [hok] at CU
    have HOK := Lib.hid hok
    clear hok
    go_wp2_with fail
    refine CU.mono ?_
    rintro e w5 ⟨rfl, n, AL, cL, fL, AH, cH, fH, AK, cK, fK, hS⟩
    obtain ⟨W5, rfl⟩ : ∃ W : World, W = w5 := ⟨_, rfl⟩
    have HS5 := Lib.hid hS
    clear CU hS HS4 s0 s1 s2 s3 s4
    cases ok with
    | false =>
      have HF : Hid (Pl.stepOf true h s = (zHo, false)) := if_neg (fun hh => by have := HOK.out.symm.trans hh.2; cases this)
      obtain ⟨WR, hWR⟩ : ∃ V, ((W5.setCell ⟨gz, 0, none⟩ (.slice none 0 0)).setCell ⟨gz, 1, none⟩ (.slice none 0 0)).setCell ⟨gz, 2, none⟩ (.slice none 0 0) = V := ⟨_, rfl⟩
      have HSF := Lib.hid ((((HS5.out.setBlk (k := 0) 4 rfl (.slice none 0 0)).setBlk (k := 1) 4 rfl (.slice none 0 0)).setBlk (k := 2) 4 rfl (.slice none 0 0)).atW hWR)
      have u0 := HSF.out.cell (k := 0) 4 rfl rfl
      have u1 := HSF.out.cell (k := 1) 4 rfl rfl
      have u2 := HSF.out.cell (k := 2) 4 rfl rfl
      have z0 := HS5.out.cell (k := 0) 4 rfl rfl
      have z1 := HS5.out.cell (k := 1) 4 rfl rfl
      have z2 := HS5.out.cell (k := 2) 4 rfl rfl
      have y0 := HS5.out.frz (k := 0) 4 rfl
      have y1 := HS5.out.frz (k := 1) 4 rfl
      have y2 := HS5.out.frz (k := 2) 4 rfl
      go_wp2
      rw [HF.out]
      exact bodyPost_ret (v := .tuple #[.agg #[.slice none 0 0, .slice none 0 0, .slice none 0 0], .bool false]) (by simp [results, Tryz.results29, go_sem, u0, u1, u2]) rfl (hoNo HSF.out.bel0)
    | true =>
      have HF : Hid (Pl.stepOf true h s = ((Pl.stepS h s).1, true)) := if_pos ⟨rfl, HOK.out⟩
      have p0 := HS5.out.cell (k := 0) 3 rfl rfl
      have p1 := HS5.out.cell (k := 1) 3 rfl rfl
      have p2 := HS5.out.cell (k := 2) 3 rfl rfl
      obtain ⟨WR, hWR⟩ : ∃ V, ((W5.setCell ⟨gz, 0, none⟩ (.slice AL n cL)).setCell ⟨gz, 1, none⟩ (.slice AH n cH)).setCell ⟨gz, 2, none⟩ (.slice AK n cK) = V := ⟨_, rfl⟩
      have HSF := Lib.hid ((((HS5.out.setBlk (k := 0) 4 rfl (.slice AL n cL)).setBlk (k := 1) 4 rfl (.slice AH n cH)).setBlk (k := 2) 4 rfl (.slice AK n cK)).atW hWR)
      have u0 := HSF.out.cell (k := 0) 4 rfl rfl
      have u1 := HSF.out.cell (k := 1) 4 rfl rfl
      have u2 := HSF.out.cell (k := 2) 4 rfl rfl
      have z0 := HS5.out.cell (k := 0) 4 rfl rfl
      have z1 := HS5.out.cell (k := 1) 4 rfl rfl
      have z2 := HS5.out.cell (k := 2) 4 rfl rfl
      have y0 := HS5.out.frz (k := 0) 4 rfl
      have y1 := HS5.out.frz (k := 1) 4 rfl
      have y2 := HS5.out.frz (k := 2) 4 rfl
      go_wp2
      rw [HF.out]
      exact bodyPost_ret (v := .tuple #[.agg #[.slice AL n cL, .slice AH n cH, .slice AK n cK], .bool true]) (by simp [results, Tryz.results29, go_sem, u0, u1, u2]) rfl ⟨_, _, rfl, (HSF.out.hoShut (h := (Pl.stepS h s).1)).sel [0] (by decide) rfl⟩
set_option maxRecDepth 100000 in
set_option maxHeartbeats 4000000 in
theorem specStepHouse0_c (h : House) (b : Bool) (hb : b = true ↔ Pl.HouseOk h) (hsz : Pl.szHouse h ≤ 1048576) (cs : List Value) (s : HouseStep) (cs2 : List Value) (w : World) (B : Nat) (hh : rHouse.at_ w B h cs) (hst : rHouseStep.at_ w B s cs2) (hB : B ≤ w.heap.size) :
    Calls Tryz.prog 27 #[.agg cs.toArray, .agg cs2.toArray] w (HoAns (Pl.stepOf b h s).1 (Pl.stepOf b h s).2 w) := by
  obtain ⟨A0, n0, c0, A1, n1, c1, A2, n2, c2, rfl, -, -, -⟩ := rHouse_at hh
  obtain ⟨rfl, g0, g1, g2, g3, g4⟩ := rHouseStep_at hst
  have HR := Lib.hid hh
  have HSI : Hid (StepI s) := ⟨g0, g1, g2, g3, g4⟩
  have HBW := Lib.hid hB
  obtain ⟨ga, hga⟩ : ∃ g, w.heap.size = g := ⟨_, rfl⟩
  obtain ⟨gs, hgs⟩ : ∃ g, ga + 1 = g := ⟨_, rfl⟩
  obtain ⟨gz, hgz⟩ : ∃ g, gs + 1 = g := ⟨_, rfl⟩
  obtain ⟨W0, hW0⟩ : ∃ W, ((w.alloc (.cells #[.slice A0 n0 c0, .slice A1 n1 c1, .slice A2 n2 c2] 27)).alloc (.cells #[.int .i64 s.Kind, .int .i64 s.Part, .string s.What.Name, .int .i64 s.What.At, .int .i64 s.What.Value] 57)).alloc (.cells #[.slice none 0 0, .slice none 0 0, .slice none 0 0] 27) = W := ⟨_, rfl⟩
  have KS0 := Lib.hid (((((Mm.SepF.start w).alloc' hga 27 [.slice A0 n0 c0, .slice A1 n1 c1, .slice A2 n2 c2]).alloc' (g := gs) (by rw [Mm.sz1, hga, hgs]) 57 [.int .i64 s.Kind, .int .i64 s.Part, .string s.What.Name, .int .i64 s.What.At, .int .i64 s.What.Value]).alloc' (g := gz) (by rw [Mm.sz1, Mm.sz1, hga, hgs, hgz]) 27 [.slice none 0 0, .slice none 0 0, .slice none 0 0]).atW hW0)
  have d0 := KS0.out.cell (k := 0) 2 rfl rfl
  have d1 := KS0.out.cell (k := 1) 2 rfl rfl
  have d2 := KS0.out.cell (k := 2) 2 rfl rfl
  have CI := (specGoodHouse_c h b hb hsz _ W0 B (rHouse.keep hh fun b hb => KS0.out.bel0.block b (by omega)) (by have := KS0.out.bel0.size; omega))
  have HBO := Lib.hid hb
  clear hh hB hb hst g0 g1 g2 g3 g4
  go_enter Tryz.func27, Tryz.ntmps27
  go_wp2_with fail
  refine CI.mono ?_
  rintro e w1 ⟨rfl, hb1⟩
  obtain ⟨W1, rfl⟩ : ∃ W : World, W = w1 := ⟨_, rfl⟩
  have HS1 := Lib.hid (KS0.out.step hb1)
  clear CI d0 d1 d2 hb1 KS0 hW0 hga hgz hgs
  cases b with
  | false =>
    have HF : Hid (Pl.stepOf false h s = (zHo, false)) := if_neg (fun hh => by cases hh.1)
    obtain ⟨WR, hWR⟩ : ∃ V, ((W1.setCell ⟨gz, 0, none⟩ (.slice none 0 0)).setCell ⟨gz, 1, none⟩ (.slice none 0 0)).setCell ⟨gz, 2, none⟩ (.slice none 0 0) = V := ⟨_, rfl⟩
    have HSF := Lib.hid ((((HS1.out.setBlk (k := 0) 0 rfl (.slice none 0 0)).setBlk (k := 1) 0 rfl (.slice none 0 0)).setBlk (k := 2) 0 rfl (.slice none 0 0)).atW hWR)
    have u0 := HSF.out.cell (k := 0) 0 rfl rfl
    have u1 := HSF.out.cell (k := 1) 0 rfl rfl
    have u2 := HSF.out.cell (k := 2) 0 rfl rfl
    have z0 := HS1.out.cell (k := 0) 0 rfl rfl
    have z1 := HS1.out.cell (k := 1) 0 rfl rfl
    have z2 := HS1.out.cell (k := 2) 0 rfl rfl
    have y0 := HS1.out.frz (k := 0) 0 rfl
    have y1 := HS1.out.frz (k := 1) 0 rfl
    have y2 := HS1.out.frz (k := 2) 0 rfl
    go_wp2
    rw [HF.out]
    exact bodyPost_ret (v := .tuple #[.agg #[.slice none 0 0, .slice none 0 0, .slice none 0 0], .bool false]) (by simp [results, Tryz.results27, go_sem, u0, u1, u2]) rfl (hoNo HSF.out.bel0)
  | true =>
    have HHO := Lib.hid (HBO.out.1 rfl)
    have d0 := HS1.out.cell (k := 0) 2 rfl rfl
    have d1 := HS1.out.cell (k := 1) 2 rfl rfl
    have d2 := HS1.out.cell (k := 2) 2 rfl rfl
    have s0 := HS1.out.cell (k := 0) 1 rfl rfl
    have s1 := HS1.out.cell (k := 1) 1 rfl rfl
    have s2 := HS1.out.cell (k := 2) 1 rfl rfl
    have s3 := HS1.out.cell (k := 3) 1 rfl rfl
    have s4 := HS1.out.cell (k := 4) 1 rfl rfl
    have HAT := Lib.hid (rHouse.keep (w' := W1) HR.out fun b hb => HS1.out.bel0.block b (by have := HBW.out; omega))
    have hBW1 : B ≤ W1.heap.size := by have := HBW.out; have := HS1.out.bel0.size; omega
    obtain ⟨ok, hok⟩ : ∃ b, (Pl.stepS h s).2 = b := ⟨_, rfl⟩
    obtain ⟨h2, hh2⟩ : ∃ x, (Pl.stepS h s).1 = x := ⟨_, rfl⟩
    have HOK := Lib.hid hok
    have HH2 := Lib.hid hh2
    have HO2 : Hid (Pl.HouseOk h2) := by show _; rw [← hh2]; exact HHO.out.step s
    clear hok hh2
    go_wp2_with fail
    refine Mm.wp_region_give 9 (fun i => match i with | 1 => some (gHoA h) | 3 => some (gHoS h2 ok) | 7 => some (Mm.gPtr 27 [.slice none 0 0, .slice none 0 0, .slice none 0 0]) | 8 => some (Mm.gSto 27) | _ => none) (fun i => match i with | 3 => [1] | 8 => [7] | _ => []) (fun _ => []) (F := []) (D := fun w' => ∃ x : Und W1, w' = und W1 x) (fun X us h => Mm.sep_und h) (by kernel_rfl) (by kernel_rfl) (by kernel_rfl) (Mm.SepF.startDrew _) ?_
    repeat (refine Mm.give_det (by rfl) (by rfl) (by rfl) (fun K hK => ?_); go_big_quiet_op; refine hK _ ?_; clear hK K)
    refine Mm.give_op0 14 (by rfl) rfl (by rfl) (by rfl) (by rfl) (by rfl) gHoA_in (fun others X hX => ?_) ?_
    · go_wp2_with (go_at_call 54; refine (l17Own_c h _ X B (rHouse.keep HAT.out fun b hb => hX.bel0.block b (by omega)) (Nat.le_trans hBW1 hX.bel0.size) HHO.out.hos).mono ?_; rintro e w5 ⟨cs5, f5, rfl, ho5, hnd5, hnew5, hb5⟩; obtain ⟨B0, r0, j0, B1, r1, j1, B2, r2, j2, z0, z1, z2, rfl, rfl, -, -, -⟩ := rHouse_own ho5)
      exact ⟨rfl, rfl, _, ⟨B0, r0, j0, B1, r1, j1, B2, r2, j2, _, rfl, rfl⟩, hX.add hb5 (t := Mm.tow rHouse h _ _) ho5 hnd5 hnew5⟩
    rintro v ds ⟨B0, r0, j0, B1, r1, j1, B2, r2, j2, f5, rfl, rfl⟩
    simp only [Act.put, List.setIfInBounds_toArray, List.set_cons_succ, List.set_cons_zero]
    repeat (refine Mm.give_det (by rfl) (by rfl) (by rfl) (fun K hK => ?_); go_big_quiet_op; refine hK _ ?_; clear hK K)
    refine Mm.give_op1 16 1 (by rfl) rfl (by rfl) (by rfl) (by rfl) rfl (by rfl) _ rfl gHoS_in (fun others X hX => ?_) ?_
    · obtain ⟨E0, u0, i0, E1, u1, i1, E2, u2, i2, z0, z1, z2, hcs, l0, l1, l2, hso⟩ := Mm.SepF.hoOpen (h := h) (rest := others) hX
      simp only [List.cons.injEq, Value.slice.injEq, and_true] at hcs
      obtain ⟨⟨rfl, rfl, rfl⟩, ⟨rfl, rfl, rfl⟩, rfl, rfl, rfl⟩ := hcs
      obtain rfl : r1 = r0 := by have := HHO.out.hdn; omega
      obtain rfl : r2 = r1 := by have := HHO.out.kpn; omega
      have CS := l17Step_c h s others HHO.out HSI.out _ W1 X ⟨r2, _, _, _, _, _, _, _, _, _, rfl, hso⟩
      rw [HOK.out, HH2.out] at CS
      go_wp2_with (go_at_call 53; refine CS.mono ?_; rintro e w6 ⟨rfl, hv6⟩; obtain ⟨x0, x1, x2, hs6⟩ := hv6.sep)
      exact ⟨rfl, rfl, _, ⟨_, _, _, _, _, _, _, _, _, _, rfl, rfl⟩, hs6.hoShut⟩
    rintro v ds ⟨C0, t0, k0, C1, t1, k1, C2, t2, k2, f6, rfl, rfl⟩
    simp only [Act.put, List.setIfInBounds_toArray, List.set_cons_succ, List.set_cons_zero]
    repeat (refine Mm.give_det (by rfl) (by rfl) (by rfl) (fun K hK => ?_); go_big_quiet_op; refine hK _ ?_; clear hK K)
    refine Mm.give_op0 6 (by rfl) rfl (by rfl) (by rfl) (by rfl) (by rfl) Mm.gPtr_in (fun others X hX => ?_) ?_
    · go_wp2
      exact Mm.gvq_ptr hX rfl rfl rfl
    rintro v ds ⟨gp, rfl, rfl⟩
    simp only [Act.put, List.setIfInBounds_toArray, List.set_cons_succ, List.set_cons_zero]
    refine Mm.give_store 27 gp [.slice none 0 0, .slice none 0 0, .slice none 0 0] [.slice C0 t0 k0, .slice C1 t1 k1, .slice C2 t2 k2] 7 (by rfl) rfl rfl (by rfl) rfl (by rfl) rfl rfl (fun others X hX => ?_) ?_
    · have y0 := hX.cell (k := 0) 0 rfl rfl
      have y1 := hX.cell (k := 1) 0 rfl rfl
      have y2 := hX.cell (k := 2) 0 rfl rfl
      have x0 := hX.frz (k := 0) 0 rfl
      have x1 := hX.frz (k := 1) 0 rfl
      have x2 := hX.frz (k := 2) 0 rfl
      have hX9 := ((hX.setBlk (k := 0) 0 rfl (.slice C0 t0 k0)).setBlk (k := 1) 0 rfl (.slice C1 t1 k1)).setBlk (k := 2) 0 rfl (.slice C2 t2 k2)
      go_wp2
      exact ⟨rfl, rfl, _, rfl, hX9⟩
    refine Mm.give_nil ?_
    rintro X2 hX
    have HS2 := Lib.hid (HS1.out.join (us := [Mm.tow rHouse h2 [.slice C0 t0 k0, .slice C1 t1 k1, .slice C2 t2 k2] f6, Mm.tblk gp 27 [.slice C0 t0 k0, .slice C1 t1 k1, .slice C2 t2 k2]]) hX)
    clear hX d0 d1 d2 s0 s1 s2 s3 s4 HS1 HAT
    go_upto_region 4 with fail
    cases ok with
    | false =>
      have HF : Hid (Pl.stepOf true h s = (zHo, false)) := if_neg (fun hh => by have := HOK.out.symm.trans hh.2; cases this)
      obtain ⟨WR, hWR⟩ : ∃ V, ((X2.setCell ⟨gz, 0, none⟩ (.slice none 0 0)).setCell ⟨gz, 1, none⟩ (.slice none 0 0)).setCell ⟨gz, 2, none⟩ (.slice none 0 0) = V := ⟨_, rfl⟩
      have HSF := Lib.hid ((((HS2.out.setBlk (k := 0) 2 rfl (.slice none 0 0)).setBlk (k := 1) 2 rfl (.slice none 0 0)).setBlk (k := 2) 2 rfl (.slice none 0 0)).atW hWR)
      have u0 := HSF.out.cell (k := 0) 2 rfl rfl
      have u1 := HSF.out.cell (k := 1) 2 rfl rfl
      have u2 := HSF.out.cell (k := 2) 2 rfl rfl
      have z0 := HS2.out.cell (k := 0) 2 rfl rfl
      have z1 := HS2.out.cell (k := 1) 2 rfl rfl
      have z2 := HS2.out.cell (k := 2) 2 rfl rfl
      have y0 := HS2.out.frz (k := 0) 2 rfl
      have y1 := HS2.out.frz (k := 1) 2 rfl
      have y2 := HS2.out.frz (k := 2) 2 rfl
      go_wp2
      rw [HF.out]
      exact bodyPost_ret (v := .tuple #[.agg #[.slice none 0 0, .slice none 0 0, .slice none 0 0], .bool false]) (by simp [results, Tryz.results27, go_sem, u0, u1, u2]) rfl (hoNo HSF.out.bel0)
    | true =>
      have HF : Hid (Pl.stepOf true h s = (h2, true)) := by show _ = _; rw [← HH2.out]; exact if_pos ⟨rfl, HOK.out⟩
      have p0 := HS2.out.cell (k := 0) 1 rfl rfl
      have p1 := HS2.out.cell (k := 1) 1 rfl rfl
      have p2 := HS2.out.cell (k := 2) 1 rfl rfl
      have how : rHouse.own X2 h2 [.slice C0 t0 k0, .slice C1 t1 k1, .slice C2 t2 k2] f6 := HS2.out.at_ 0 rfl
      have CO := l17Own_c h2 [.slice C0 t0 k0, .slice C1 t1 k1, .slice C2 t2 k2] X2 X2.heap.size (rHouse.weak how (rHouse.olt how)) (Nat.le_refl _) HO2.out.hos
      clear how
      go_wp2_with fail
      refine CO.mono ?_
      rintro e w9 ⟨cs9, fp9, rfl, ho9, hnd9, hnew9, hb9⟩
      obtain ⟨W9, rfl⟩ : ∃ W : World, W = w9 := ⟨_, rfl⟩
      have hs9 := HS2.out.add hb9 (t := Mm.tow rHouse h2 cs9 fp9) ho9 hnd9 hnew9
      obtain ⟨B0, r0, e0, B1, r1, e1, B2, r2, e2, j0, j1, j2, rfl, -, -, -, hs9⟩ := hs9.hoOpen
      have HS9 := Lib.hid hs9
      clear CO ho9 hnd9 hnew9 hb9 hs9 p0 p1 p2 HS2
      obtain ⟨WR, hWR⟩ : ∃ V, ((W9.setCell ⟨gz, 0, none⟩ (.slice B0 r0 e0)).setCell ⟨gz, 1, none⟩ (.slice B1 r1 e1)).setCell ⟨gz, 2, none⟩ (.slice B2 r2 e2) = V := ⟨_, rfl⟩
      have HSF := Lib.hid ((((HS9.out.setBlk (k := 0) 5 rfl (.slice B0 r0 e0)).setBlk (k := 1) 5 rfl (.slice B1 r1 e1)).setBlk (k := 2) 5 rfl (.slice B2 r2 e2)).atW hWR)
      have u0 := HSF.out.cell (k := 0) 5 rfl rfl
      have u1 := HSF.out.cell (k := 1) 5 rfl rfl
      have u2 := HSF.out.cell (k := 2) 5 rfl rfl
      have z0 := HS9.out.cell (k := 0) 5 rfl rfl
      have z1 := HS9.out.cell (k := 1) 5 rfl rfl
      have z2 := HS9.out.cell (k := 2) 5 rfl rfl
      have y0 := HS9.out.frz (k := 0) 5 rfl
      have y1 := HS9.out.frz (k := 1) 5 rfl
      have y2 := HS9.out.frz (k := 2) 5 rfl
      go_wp2
      rw [HF.out]
      exact bodyPost_ret (v := .tuple #[.agg #[.slice B0 r0 e0, .slice B1 r1 e1, .slice B2 r2 e2], .bool true]) (by simp [results, Tryz.results27, go_sem, u0, u1, u2]) rfl ⟨_, _, rfl, (HSF.out.hoShut (h := h2)).sel [0] (by decide) rfl⟩
theorem HoAns.ret2 {x : House} {b : Bool} {w : World} {e : Ending} {w' : World} (h : HoAns x b w e w') : Mm.Ret2 rHouse w x b e w' := by
  obtain ⟨cs, fp, rfl, hS⟩ := h
  exact ⟨cs, fp, rfl, hS.at_ 0 rfl, hS.ndat (i := 0) rfl, fun b hb => (hS.new b (Mm.SepF.mem (i := 0) rfl hb)).resolve_left (fun h => by cases h), hS.bel0⟩
theorem implStepHouse_c (h : House) (b : Bool) (hb : b = true ↔ Pl.HouseOk h) (Bt : Nat) (cs : List Value) (s : HouseStep) (cs2 : List Value) (w : World) (B : Nat) (hh : rHouse.at_ w B h cs) (hst : rHouseStep.at_ w B s cs2) (hB : B ≤ w.heap.size) (ht : Tab Bt w) :
    Calls Tryz.prog 29 #[.agg cs.toArray, .agg cs2.toArray] w (Mm.Ret2 rHouse w (Pl.stepOf b h s).1 (Pl.stepOf b h s).2) :=
  (implStepHouse0_c h b hb Bt cs s cs2 w B hh hst hB ht).mono fun _ _ k => k.ret2
theorem specStepHouse_c (h : House) (b : Bool) (hb : b = true ↔ Pl.HouseOk h) (hsz : Pl.szHouse h ≤ 1048576) (cs : List Value) (s : HouseStep) (cs2 : List Value) (w : World) (B : Nat) (hh : rHouse.at_ w B h cs) (hst : rHouseStep.at_ w B s cs2) (hB : B ≤ w.heap.size) :
    Calls Tryz.prog 27 #[.agg cs.toArray, .agg cs2.toArray] w (Mm.Ret2 rHouse w (Pl.stepOf b h s).1 (Pl.stepOf b h s).2) :=
  (specStepHouse0_c h b hb hsz cs s cs2 w B hh hst hB).mono fun _ _ k => k.ret2
end Go.Proofs.YtbhmdnjammnlnaaGreatDoor

/-
  Plain: a good store is small. No program in sight. No conditions.
-/
namespace Go.Proofs.YtbhmdnjammnlnaaGreatDoor
open Go.RowKit
theorem cntL_leH {α : Type} {f : α → Int} {c : Int} : ∀ l : List α, (∀ x, x ∈ l → f x ≤ c) → Mm.cntL f l ≤ c * (l.length : Int)
  | [], _ => by simp [Mm.cntL]
  | x :: t, h => by
    have h1 := cntL_leH t (fun y hy => h y (List.mem_cons_of_mem _ hy))
    have h2 := h x List.mem_cons_self
    rw [Mm.cntL_cons, List.length_cons]
    have : c * ((t.length + 1 : Nat) : Int) = c * (t.length : Int) + c := by push_cast; rw [Int.mul_add, Int.mul_one]
    omega
theorem Pl.HeadOk.cnt {h : Head} (k : Pl.HeadOk h) : Pl.cntHead h ≤ 1000 := by
  have h0 : Mm.cntL Pl.cntRow h.Rows ≤ 100 * (h.Rows.length : Int) := cntL_leH _ (fun x hx => by
    have h1 := cntL_leH (f := Pl.cntSample) (c := 2) x.Samples (fun y _ => by unfold Pl.cntSample; omega)
    have h2 := Pl.samplesOk_len (k.row x hx).2.2
    unfold Pl.cntRow
    omega)
  have := k.len
  unfold Pl.cntHead
  omega
theorem Pl.LogOk.cnt {g : Log} (k : Pl.LogOk g) : Pl.cntLog g ≤ 2000 := by
  have h0 : Mm.cntL Pl.cntPiece g.Pieces ≤ 70 * (g.Pieces.length : Int) := cntL_leH _ (fun x hx => by
    have h1 := cntL_leH (f := Pl.cnt1) (c := 1) x.Index (fun y _ => by unfold Pl.cnt1; omega)
    obtain ⟨i, hi⟩ := List.getElem?_of_mem hx
    have h2 := (k.pc i x hi).1
    have h3 := (Pl.pieceOk_whole h2).2
    have h4 := Pl.idx3_len (Pl.starts x.Bytes)
    have h5 := Pl.starts_len x.Bytes
    have h6 := Pl.records_len x.Bytes
    have h7 := k.sizes x hx
    rw [← h3] at h4
    unfold Pl.cntPiece
    omega)
  have := k.len.2
  unfold Pl.cntLog
  omega
theorem Pl.HouseOk.cnt {h : House} (k : Pl.HouseOk h) : Pl.ctopHouse h ≤ 50000000 := by
  have part : ∀ i, i < h.Logs.length → ∃ g a b l, h.Logs[i]? = some g ∧ h.Heads[i]? = some a ∧ h.Kept[i]? = some b ∧ Pl.PartOk h.Logs.length i g a b l := fun i hi => k.ex hi
  have h0 : Mm.cntL Pl.cntLog h.Logs ≤ 2000 * (h.Logs.length : Int) := cntL_leH _ (fun x hx => by
    obtain ⟨i, hi⟩ := List.getElem?_of_mem hx
    obtain ⟨g, a, b, l, h1, h2, h3, h4⟩ := part i (List.getElem?_eq_some_iff.1 hi).1
    rw [hi] at h1; injection h1 with h1; subst h1
    exact h4.log.cnt)
  have h1 : Mm.cntL Pl.cntHead h.Heads ≤ 1000 * (h.Heads.length : Int) := cntL_leH _ (fun x hx => by
    obtain ⟨i, hi⟩ := List.getElem?_of_mem hx
    obtain ⟨g, a, b, l, h1, h2, h3, h4⟩ := part i (by have := (List.getElem?_eq_some_iff.1 hi).1; rw [k.hdn] at this; exact this)
    rw [hi] at h2; injection h2 with h2; subst h2
    exact h4.head.cnt)
  have h2 : Mm.cntL Pl.cntHead h.Kept ≤ 1000 * (h.Kept.length : Int) := cntL_leH _ (fun x hx => by
    obtain ⟨i, hi⟩ := List.getElem?_of_mem hx
    obtain ⟨g, a, b, l, h1, h2, h3, h4⟩ := part i (by have := (List.getElem?_eq_some_iff.1 hi).1; rw [k.kpn] at this; exact this)
    rw [hi] at h3; injection h3 with h3; subst h3
    exact h4.kept.cnt)
  have e1 := k.n3
  have e2 := k.hdn
  have e3 := k.kpn
  unfold Pl.ctopHouse
  omega
theorem zHo_cnt : Pl.ctopHouse zHo ≤ 50000000 := by decide
end Go.Proofs.YtbhmdnjammnlnaaGreatDoor

/-
  The laws' own comparisons answer true of two things that read alike. No conditions.
-/
namespace Go.Proofs.YtbhmdnjammnlnaaGreatDoor
open Go.RowKit
attribute [local go_sem] und_cell
set_option maxHeartbeats 1000000 in
theorem eqIntS_c (l : List Int) (A A' : Option Addr) (n n' c c' : Nat) (w : World) (B : Nat) (hl : Mm.SlAt Mm.int w B l A n c) (hl' : Mm.SlAt Mm.int w B l A' n' c') (hB : B ≤ w.heap.size) :
    Calls Tryz.prog 199 #[.slice A n c, .slice A' n' c'] w fun e w' => e = .returned (.bool true) ∧ Below w.heap.size w w' := by
  obtain rfl : n = n' := hl.1.symm.trans hl'.1
  have hn : n ≤ 9223372036854775807 := by have := hl.2.1; have := hl.2.2.1; unfold maxLen at this; omega
  have HL : Hid (Mm.SlAt Mm.int w B l A n c ∧ Mm.SlAt Mm.int w B l A' n c') := ⟨hl, hl'⟩
  clear hl hl'
  go_enter Tryz.func199, Tryz.ntmps199
  go_wp2
  go_loopw [5] (fun i wr => ∃ k : Nat, k ≤ n ∧ i = .int .i64 k ∧ Below w.heap.size w wr) (fun i _ => n - (intOf i).toNat)
  case atStart => exact ⟨0, Nat.zero_le _, rfl, Below.refl _ _⟩
  case round =>
    obtain ⟨k, hk, rfl, hbel⟩ := hrel
    rename_i wr _
    by_cases hlt : k < n
    · obtain ⟨x, b, off, hx, rfl, hb, uf0, uc0⟩ := int_get (HL.out.1.keep (w' := wr) (fun b hb => hbel.block b (by omega))) hlt
      obtain ⟨y, b', off', hy, rfl, hb', vf0, vc0⟩ := int_get (HL.out.2.keep (w' := wr) (fun b hb => hbel.block b (by omega))) hlt
      obtain rfl : x = y := by rw [hx] at hy; injection hy
      have hBw : B ≤ wr.heap.size := Nat.le_trans hB hbel.size
      clear hx hy uf0 vf0
      go_wp2
      refine wp_region_und (by kernel_rfl) (by kernel_rfl) ?_
      repeat (go_big_quiet_step ((first | fail)))
      refine wpQuiet_nil ?_
      intro X hX
      go_wp2
      go_roundw
      case rel => exact ⟨k + 1, by omega, by go_num, below_step hbel hX⟩
      case measure => simp [intOf]; omega
    · go_wp2
      go_ret
      exact ⟨rfl, hbel⟩
set_option maxHeartbeats 1000000 in
theorem eqSample_c (x : Sample)  (w : World) :
    Calls Tryz.prog 87 #[.agg #[.int .i64 x.At, .int .i64 x.Value], .agg #[.int .i64 x.At, .int .i64 x.Value]] w fun e w' => e = .returned (.bool true) ∧ Below w.heap.size w w' := by
  go_enter Tryz.func87, Tryz.ntmps87
  go_wp2
  go_ret
  exact ⟨rfl, below_new (below_new (Below.refl _ _) _) _⟩
set_option maxHeartbeats 1000000 in
theorem eqSampleS_c (l : List Sample) (A A' : Option Addr) (n n' c c' : Nat) (w : World) (B : Nat) (hl : Mm.SlAt smp w B l A n c) (hl' : Mm.SlAt smp w B l A' n' c') (hB : B ≤ w.heap.size) :
    Calls Tryz.prog 34 #[.slice A n c, .slice A' n' c'] w fun e w' => e = .returned (.bool true) ∧ Below w.heap.size w w' := by
  obtain rfl : n = n' := hl.1.symm.trans hl'.1
  have hn : n ≤ 9223372036854775807 := by have := hl.2.1; have := hl.2.2.1; unfold maxLen at this; omega
  have HL : Hid (Mm.SlAt smp w B l A n c ∧ Mm.SlAt smp w B l A' n c') := ⟨hl, hl'⟩
  clear hl hl'
  go_enter Tryz.func34, Tryz.ntmps34
  go_wp2
  go_loopw [5] (fun i wr => ∃ k : Nat, k ≤ n ∧ i = .int .i64 k ∧ Below w.heap.size w wr) (fun i _ => n - (intOf i).toNat)
  case atStart => exact ⟨0, Nat.zero_le _, rfl, Below.refl _ _⟩
  case round =>
    obtain ⟨k, hk, rfl, hbel⟩ := hrel
    rename_i wr _
    by_cases hlt : k < n
    · obtain ⟨x, b, off, hx, rfl, hb, uf0, uf1, uc0, uc1⟩ := smp_get (HL.out.1.keep (w' := wr) (fun b hb => hbel.block b (by omega))) hlt
      obtain ⟨y, b', off', hy, rfl, hb', vf0, vf1, vc0, vc1⟩ := smp_get (HL.out.2.keep (w' := wr) (fun b hb => hbel.block b (by omega))) hlt
      obtain rfl : x = y := by rw [hx] at hy; injection hy
      have hBw : B ≤ wr.heap.size := Nat.le_trans hB hbel.size
      clear hx hy uf0 uf1 vf0 vf1
      go_wp2
      refine wp_region_und (by kernel_rfl) (by kernel_rfl) ?_
      repeat (go_big_quiet_step ((first | (go_at_call 87; exact und_call _ (eqSample_c x _)))))
      refine wpQuiet_nil ?_
      intro X hX
      go_wp2
      go_roundw
      case rel => exact ⟨k + 1, by omega, by go_num, below_step hbel hX⟩
      case measure => simp [intOf]; omega
    · go_wp2
      go_ret
      exact ⟨rfl, hbel⟩
set_option maxHeartbeats 1000000 in
theorem eqRow_c (x : Row) (A : Option Addr) (n c : Nat) (A' : Option Addr) (n' c' : Nat) (w : World) (B : Nat) (g0 : Mm.SlAt smp w B x.Samples A n c) (g0' : Mm.SlAt smp w B x.Samples A' n' c') (hB : B ≤ w.heap.size) :
    Calls Tryz.prog 182 #[.agg #[.string x.Name, .slice A n c], .agg #[.string x.Name, .slice A' n' c']] w fun e w' => e = .returned (.bool true) ∧ Below w.heap.size w w' := by
  have HK1 := Lib.hid ((Mm.Blk.new w 139 [.string x.Name, .slice A n c]).alloc (.cells #[.string x.Name, .slice A' n' c'] 139))
  have HK2 := Lib.hid (Mm.Blk.new' (w.alloc (.cells #[.string x.Name, .slice A n c] 139)) 139 [.string x.Name, .slice A' n' c'] (Mm.sz1 _ _))
  have hb0 : Below w.heap.size w ((w.alloc (.cells #[.string x.Name, .slice A n c] 139)).alloc (.cells #[.string x.Name, .slice A' n' c'] 139)) := below_new (below_new (Below.refl _ _) _) _
  have HB0 := Lib.hid hb0
  have HG := Lib.hid (And.intro hB (And.intro g0 g0'))
  clear hB g0 g0'
  clear hb0
  go_enter Tryz.func182, Tryz.ntmps182
  go_wp2_with fail
  refine (eqSampleS_c x.Samples _ _ _ _ _ _ _ B (HG.out.2.1.keep fun b hb => HB0.out.block b (Nat.lt_of_lt_of_le hb HG.out.1)) (HG.out.2.2.keep fun b hb => HB0.out.block b (Nat.lt_of_lt_of_le hb HG.out.1)) (Nat.le_trans HG.out.1 HB0.out.size)).mono ?_
  rintro e w1 ⟨rfl, hb1⟩
  have HB1 := Lib.hid (below_step HB0.out hb1)
  have HK1 := Lib.hid (HK1.out.bel hb1)
  have HK2 := Lib.hid (HK2.out.bel hb1)
  clear hb1
  go_wp2
  go_ret
  exact ⟨rfl, HB1.out⟩
set_option maxHeartbeats 1000000 in
theorem eqRowS_c (l : List Row) (A A' : Option Addr) (n n' c c' : Nat) (w : World) (B : Nat) (hl : Mm.SlAt rRow w B l A n c) (hl' : Mm.SlAt rRow w B l A' n' c') (hB : B ≤ w.heap.size) :
    Calls Tryz.prog 157 #[.slice A n c, .slice A' n' c'] w fun e w' => e = .returned (.bool true) ∧ Below w.heap.size w w' := by
  obtain rfl : n = n' := hl.1.symm.trans hl'.1
  have hn : n ≤ 9223372036854775807 := by have := hl.2.1; have := hl.2.2.1; unfold maxLen at this; omega
  have HL : Hid (Mm.SlAt rRow w B l A n c ∧ Mm.SlAt rRow w B l A' n c') := ⟨hl, hl'⟩
  clear hl hl'
  go_enter Tryz.func157, Tryz.ntmps157
  go_wp2
  go_loopw [5] (fun i wr => ∃ k : Nat, k ≤ n ∧ i = .int .i64 k ∧ Below w.heap.size w wr) (fun i _ => n - (intOf i).toNat)
  case atStart => exact ⟨0, Nat.zero_le _, rfl, Below.refl _ _⟩
  case round =>
    obtain ⟨k, hk, rfl, hbel⟩ := hrel
    rename_i wr _
    by_cases hlt : k < n
    · obtain ⟨x, b, off, A1, n1, c1, hx, rfl, hb, uf0, uf1, uc0, uc1⟩ := rRow_get (HL.out.1.keep (w' := wr) (fun b hb => hbel.block b (by omega))) hlt
      obtain ⟨y, b', off', A2, n2, c2, hy, rfl, hb', vf0, vf1, vc0, vc1⟩ := rRow_get (HL.out.2.keep (w' := wr) (fun b hb => hbel.block b (by omega))) hlt
      obtain rfl : x = y := by rw [hx] at hy; injection hy
      have hBw : B ≤ wr.heap.size := Nat.le_trans hB hbel.size
      have HF := Lib.hid (And.intro uf1 vf1)
      clear hx hy uf0 uf1 vf0 vf1
      go_wp2
      refine wp_region_und (by kernel_rfl) (by kernel_rfl) ?_
      repeat (go_big_quiet_step ((first | (go_at_call 182; exact und_call _ (eqRow_c x _ _ _ _ _ _ _ B (HF.out.1.und hBw _) (HF.out.2.und hBw _) (Nat.le_trans hBw (und_size _)))))))
      refine wpQuiet_nil ?_
      intro X hX
      go_wp2
      go_roundw
      case rel => exact ⟨k + 1, by omega, by go_num, below_step hbel hX⟩
      case measure => simp [intOf]; omega
    · go_wp2
      go_ret
      exact ⟨rfl, hbel⟩
set_option maxHeartbeats 1000000 in
theorem eqHead_c (x : Head) (A : Option Addr) (n c : Nat) (A' : Option Addr) (n' c' : Nat) (w : World) (B : Nat) (g0 : Mm.SlAt rRow w B x.Rows A n c) (g0' : Mm.SlAt rRow w B x.Rows A' n' c') (hB : B ≤ w.heap.size) :
    Calls Tryz.prog 115 #[.agg #[.slice A n c, .int .i64 x.Offset], .agg #[.slice A' n' c', .int .i64 x.Offset]] w fun e w' => e = .returned (.bool true) ∧ Below w.heap.size w w' := by
  have HK1 := Lib.hid ((Mm.Blk.new w 73 [.slice A n c, .int .i64 x.Offset]).alloc (.cells #[.slice A' n' c', .int .i64 x.Offset] 73))
  have HK2 := Lib.hid (Mm.Blk.new' (w.alloc (.cells #[.slice A n c, .int .i64 x.Offset] 73)) 73 [.slice A' n' c', .int .i64 x.Offset] (Mm.sz1 _ _))
  have hb0 : Below w.heap.size w ((w.alloc (.cells #[.slice A n c, .int .i64 x.Offset] 73)).alloc (.cells #[.slice A' n' c', .int .i64 x.Offset] 73)) := below_new (below_new (Below.refl _ _) _) _
  have HB0 := Lib.hid hb0
  have HG := Lib.hid (And.intro hB (And.intro g0 g0'))
  clear hB g0 g0'
  clear hb0
  go_enter Tryz.func115, Tryz.ntmps115
  go_wp2_with fail
  refine (eqRowS_c x.Rows _ _ _ _ _ _ _ B (HG.out.2.1.keep fun b hb => HB0.out.block b (Nat.lt_of_lt_of_le hb HG.out.1)) (HG.out.2.2.keep fun b hb => HB0.out.block b (Nat.lt_of_lt_of_le hb HG.out.1)) (Nat.le_trans HG.out.1 HB0.out.size)).mono ?_
  rintro e w1 ⟨rfl, hb1⟩
  have HB1 := Lib.hid (below_step HB0.out hb1)
  have HK1 := Lib.hid (HK1.out.bel hb1)
  have HK2 := Lib.hid (HK2.out.bel hb1)
  have p1_1 := HK1.out.cell (i := 1) rfl
  have q1_1 := HK2.out.cell (i := 1) rfl
  clear hb1
  go_wp2
  go_ret
  exact ⟨rfl, HB1.out⟩
set_option maxHeartbeats 1000000 in
theorem eqHeadS_c (l : List Head) (A A' : Option Addr) (n n' c c' : Nat) (w : World) (B : Nat) (hl : Mm.SlAt rHead w B l A n c) (hl' : Mm.SlAt rHead w B l A' n' c') (hB : B ≤ w.heap.size) :
    Calls Tryz.prog 59 #[.slice A n c, .slice A' n' c'] w fun e w' => e = .returned (.bool true) ∧ Below w.heap.size w w' := by
  obtain rfl : n = n' := hl.1.symm.trans hl'.1
  have hn : n ≤ 9223372036854775807 := by have := hl.2.1; have := hl.2.2.1; unfold maxLen at this; omega
  have HL : Hid (Mm.SlAt rHead w B l A n c ∧ Mm.SlAt rHead w B l A' n c') := ⟨hl, hl'⟩
  clear hl hl'
  go_enter Tryz.func59, Tryz.ntmps59
  go_wp2
  go_loopw [5] (fun i wr => ∃ k : Nat, k ≤ n ∧ i = .int .i64 k ∧ Below w.heap.size w wr) (fun i _ => n - (intOf i).toNat)
  case atStart => exact ⟨0, Nat.zero_le _, rfl, Below.refl _ _⟩
  case round =>
    obtain ⟨k, hk, rfl, hbel⟩ := hrel
    rename_i wr _
    by_cases hlt : k < n
    · obtain ⟨x, b, off, A1, n1, c1, hx, rfl, hb, uf0, uf1, uc0, uc1⟩ := rHead_get (HL.out.1.keep (w' := wr) (fun b hb => hbel.block b (by omega))) hlt
      obtain ⟨y, b', off', A2, n2, c2, hy, rfl, hb', vf0, vf1, vc0, vc1⟩ := rHead_get (HL.out.2.keep (w' := wr) (fun b hb => hbel.block b (by omega))) hlt
      obtain rfl : x = y := by rw [hx] at hy; injection hy
      have hBw : B ≤ wr.heap.size := Nat.le_trans hB hbel.size
      have HF := Lib.hid (And.intro uf0 vf0)
      clear hx hy uf0 uf1 vf0 vf1
      go_wp2
      refine wp_region_und (by kernel_rfl) (by kernel_rfl) ?_
      repeat (go_big_quiet_step ((first | (go_at_call 115; exact und_call _ (eqHead_c x _ _ _ _ _ _ _ B (HF.out.1.und hBw _) (HF.out.2.und hBw _) (Nat.le_trans hBw (und_size _)))))))
      refine wpQuiet_nil ?_
      intro X hX
      go_wp2
      go_roundw
      case rel => exact ⟨k + 1, by omega, by go_num, below_step hbel hX⟩
      case measure => simp [intOf]; omega
    · go_wp2
      go_ret
      exact ⟨rfl, hbel⟩
set_option maxHeartbeats 1000000 in
theorem eqPiece_c (x : Piece) (A : Option Addr) (n c : Nat) (A' : Option Addr) (n' c' : Nat) (w : World) (B : Nat) (g0 : Mm.SlAt Mm.int w B x.Index A n c) (g0' : Mm.SlAt Mm.int w B x.Index A' n' c') (hB : B ≤ w.heap.size) :
    Calls Tryz.prog 181 #[.agg #[.int .i64 x.From, .string x.Bytes, .slice A n c], .agg #[.int .i64 x.From, .string x.Bytes, .slice A' n' c']] w fun e w' => e = .returned (.bool true) ∧ Below w.heap.size w w' := by
  have HK1 := Lib.hid ((Mm.Blk.new w 164 [.int .i64 x.From, .string x.Bytes, .slice A n c]).alloc (.cells #[.int .i64 x.From, .string x.Bytes, .slice A' n' c'] 164))
  have HK2 := Lib.hid (Mm.Blk.new' (w.alloc (.cells #[.int .i64 x.From, .string x.Bytes, .slice A n c] 164)) 164 [.int .i64 x.From, .string x.Bytes, .slice A' n' c'] (Mm.sz1 _ _))
  have hb0 : Below w.heap.size w ((w.alloc (.cells #[.int .i64 x.From, .string x.Bytes, .slice A n c] 164)).alloc (.cells #[.int .i64 x.From, .string x.Bytes, .slice A' n' c'] 164)) := below_new (below_new (Below.refl _ _) _) _
  have HB0 := Lib.hid hb0
  have HG := Lib.hid (And.intro hB (And.intro g0 g0'))
  clear hB g0 g0'
  clear hb0
  go_enter Tryz.func181, Tryz.ntmps181
  go_wp2_with fail
  refine (eqIntS_c x.Index _ _ _ _ _ _ _ B (HG.out.2.1.keep fun b hb => HB0.out.block b (Nat.lt_of_lt_of_le hb HG.out.1)) (HG.out.2.2.keep fun b hb => HB0.out.block b (Nat.lt_of_lt_of_le hb HG.out.1)) (Nat.le_trans HG.out.1 HB0.out.size)).mono ?_
  rintro e w1 ⟨rfl, hb1⟩
  have HB1 := Lib.hid (below_step HB0.out hb1)
  have HK1 := Lib.hid (HK1.out.bel hb1)
  have HK2 := Lib.hid (HK2.out.bel hb1)
  clear hb1
  go_wp2
  go_ret
  exact ⟨rfl, HB1.out⟩
set_option maxHeartbeats 1000000 in
theorem eqPieceS_c (l : List Piece) (A A' : Option Addr) (n n' c c' : Nat) (w : World) (B : Nat) (hl : Mm.SlAt rPiece w B l A n c) (hl' : Mm.SlAt rPiece w B l A' n' c') (hB : B ≤ w.heap.size) :
    Calls Tryz.prog 156 #[.slice A n c, .slice A' n' c'] w fun e w' => e = .returned (.bool true) ∧ Below w.heap.size w w' := by
  obtain rfl : n = n' := hl.1.symm.trans hl'.1
  have hn : n ≤ 9223372036854775807 := by have := hl.2.1; have := hl.2.2.1; unfold maxLen at this; omega
  have HL : Hid (Mm.SlAt rPiece w B l A n c ∧ Mm.SlAt rPiece w B l A' n c') := ⟨hl, hl'⟩
  clear hl hl'
  go_enter Tryz.func156, Tryz.ntmps156
  go_wp2
  go_loopw [5] (fun i wr => ∃ k : Nat, k ≤ n ∧ i = .int .i64 k ∧ Below w.heap.size w wr) (fun i _ => n - (intOf i).toNat)
  case atStart => exact ⟨0, Nat.zero_le _, rfl, Below.refl _ _⟩
  case round =>
    obtain ⟨k, hk, rfl, hbel⟩ := hrel
    rename_i wr _
    by_cases hlt : k < n
    · obtain ⟨x, b, off, A1, n1, c1, hx, rfl, hb, uf0, uf1, uf2, uc0, uc1, uc2⟩ := rPiece_get (HL.out.1.keep (w' := wr) (fun b hb => hbel.block b (by omega))) hlt
      obtain ⟨y, b', off', A2, n2, c2, hy, rfl, hb', vf0, vf1, vf2, vc0, vc1, vc2⟩ := rPiece_get (HL.out.2.keep (w' := wr) (fun b hb => hbel.block b (by omega))) hlt
      obtain rfl : x = y := by rw [hx] at hy; injection hy
      have hBw : B ≤ wr.heap.size := Nat.le_trans hB hbel.size
      have HF := Lib.hid (And.intro uf2 vf2)
      clear hx hy uf0 uf1 uf2 vf0 vf1 vf2
      go_wp2
      refine wp_region_und (by kernel_rfl) (by kernel_rfl) ?_
      repeat (go_big_quiet_step ((first | (go_at_call 181; exact und_call _ (eqPiece_c x _ _ _ _ _ _ _ B (HF.out.1.und hBw _) (HF.out.2.und hBw _) (Nat.le_trans hBw (und_size _)))))))
      refine wpQuiet_nil ?_
      intro X hX
      go_wp2
      go_roundw
      case rel => exact ⟨k + 1, by omega, by go_num, below_step hbel hX⟩
      case measure => simp [intOf]; omega
    · go_wp2
      go_ret
      exact ⟨rfl, hbel⟩
set_option maxHeartbeats 1000000 in
theorem eqLog_c (x : Log) (A : Option Addr) (n c : Nat) (A' : Option Addr) (n' c' : Nat) (w : World) (B : Nat) (g0 : Mm.SlAt rPiece w B x.Pieces A n c) (g0' : Mm.SlAt rPiece w B x.Pieces A' n' c') (hB : B ≤ w.heap.size) :
    Calls Tryz.prog 114 #[.agg #[.slice A n c, .int .i64 x.Begin], .agg #[.slice A' n' c', .int .i64 x.Begin]] w fun e w' => e = .returned (.bool true) ∧ Below w.heap.size w w' := by
  have HK1 := Lib.hid ((Mm.Blk.new w 80 [.slice A n c, .int .i64 x.Begin]).alloc (.cells #[.slice A' n' c', .int .i64 x.Begin] 80))
  have HK2 := Lib.hid (Mm.Blk.new' (w.alloc (.cells #[.slice A n c, .int .i64 x.Begin] 80)) 80 [.slice A' n' c', .int .i64 x.Begin] (Mm.sz1 _ _))
  have hb0 : Below w.heap.size w ((w.alloc (.cells #[.slice A n c, .int .i64 x.Begin] 80)).alloc (.cells #[.slice A' n' c', .int .i64 x.Begin] 80)) := below_new (below_new (Below.refl _ _) _) _
  have HB0 := Lib.hid hb0
  have HG := Lib.hid (And.intro hB (And.intro g0 g0'))
  clear hB g0 g0'
  clear hb0
  go_enter Tryz.func114, Tryz.ntmps114
  go_wp2_with fail
  refine (eqPieceS_c x.Pieces _ _ _ _ _ _ _ B (HG.out.2.1.keep fun b hb => HB0.out.block b (Nat.lt_of_lt_of_le hb HG.out.1)) (HG.out.2.2.keep fun b hb => HB0.out.block b (Nat.lt_of_lt_of_le hb HG.out.1)) (Nat.le_trans HG.out.1 HB0.out.size)).mono ?_
  rintro e w1 ⟨rfl, hb1⟩
  have HB1 := Lib.hid (below_step HB0.out hb1)
  have HK1 := Lib.hid (HK1.out.bel hb1)
  have HK2 := Lib.hid (HK2.out.bel hb1)
  have p1_1 := HK1.out.cell (i := 1) rfl
  have q1_1 := HK2.out.cell (i := 1) rfl
  clear hb1
  go_wp2
  go_ret
  exact ⟨rfl, HB1.out⟩
set_option maxHeartbeats 1000000 in
theorem eqLogS_c (l : List Log) (A A' : Option Addr) (n n' c c' : Nat) (w : World) (B : Nat) (hl : Mm.SlAt rLog w B l A n c) (hl' : Mm.SlAt rLog w B l A' n' c') (hB : B ≤ w.heap.size) :
    Calls Tryz.prog 58 #[.slice A n c, .slice A' n' c'] w fun e w' => e = .returned (.bool true) ∧ Below w.heap.size w w' := by
  obtain rfl : n = n' := hl.1.symm.trans hl'.1
  have hn : n ≤ 9223372036854775807 := by have := hl.2.1; have := hl.2.2.1; unfold maxLen at this; omega
  have HL : Hid (Mm.SlAt rLog w B l A n c ∧ Mm.SlAt rLog w B l A' n c') := ⟨hl, hl'⟩
  clear hl hl'
  go_enter Tryz.func58, Tryz.ntmps58
  go_wp2
  go_loopw [5] (fun i wr => ∃ k : Nat, k ≤ n ∧ i = .int .i64 k ∧ Below w.heap.size w wr) (fun i _ => n - (intOf i).toNat)
  case atStart => exact ⟨0, Nat.zero_le _, rfl, Below.refl _ _⟩
  case round =>
    obtain ⟨k, hk, rfl, hbel⟩ := hrel
    rename_i wr _
    by_cases hlt : k < n
    · obtain ⟨x, b, off, A1, n1, c1, hx, rfl, hb, uf0, uf1, uc0, uc1⟩ := rLog_get (HL.out.1.keep (w' := wr) (fun b hb => hbel.block b (by omega))) hlt
      obtain ⟨y, b', off', A2, n2, c2, hy, rfl, hb', vf0, vf1, vc0, vc1⟩ := rLog_get (HL.out.2.keep (w' := wr) (fun b hb => hbel.block b (by omega))) hlt
      obtain rfl : x = y := by rw [hx] at hy; injection hy
      have hBw : B ≤ wr.heap.size := Nat.le_trans hB hbel.size
      have HF := Lib.hid (And.intro uf0 vf0)
      clear hx hy uf0 uf1 vf0 vf1
      go_wp2
      refine wp_region_und (by kernel_rfl) (by kernel_rfl) ?_
      repeat (go_big_quiet_step ((first | (go_at_call 114; exact und_call _ (eqLog_c x _ _ _ _ _ _ _ B (HF.out.1.und hBw _) (HF.out.2.und hBw _) (Nat.le_trans hBw (und_size _)))))))
      refine wpQuiet_nil ?_
      intro X hX
      go_wp2
      go_roundw
      case rel => exact ⟨k + 1, by omega, by go_num, below_step hbel hX⟩
      case measure => simp [intOf]; omega
    · go_wp2
      go_ret
      exact ⟨rfl, hbel⟩
set_option maxHeartbeats 1000000 in
theorem eqHouse_c (x : House) (A0 : Option Addr) (n0 c0 : Nat) (A1 : Option Addr) (n1 c1 : Nat) (A2 : Option Addr) (n2 c2 : Nat) (A0' : Option Addr) (n0' c0' : Nat) (A1' : Option Addr) (n1' c1' : Nat) (A2' : Option Addr) (n2' c2' : Nat) (w : World) (B : Nat) (g0 : Mm.SlAt rLog w B x.Logs A0 n0 c0) (g0' : Mm.SlAt rLog w B x.Logs A0' n0' c0') (g1 : Mm.SlAt rHead w B x.Heads A1 n1 c1) (g1' : Mm.SlAt rHead w B x.Heads A1' n1' c1') (g2 : Mm.SlAt rHead w B x.Kept A2 n2 c2) (g2' : Mm.SlAt rHead w B x.Kept A2' n2' c2') (hB : B ≤ w.heap.size) :
    Calls Tryz.prog 14 #[.agg #[.slice A0 n0 c0, .slice A1 n1 c1, .slice A2 n2 c2], .agg #[.slice A0' n0' c0', .slice A1' n1' c1', .slice A2' n2' c2']] w fun e w' => e = .returned (.bool true) ∧ Below w.heap.size w w' := by
  have HK1 := Lib.hid ((Mm.Blk.new w 27 [.slice A0 n0 c0, .slice A1 n1 c1, .slice A2 n2 c2]).alloc (.cells #[.slice A0' n0' c0', .slice A1' n1' c1', .slice A2' n2' c2'] 27))
  have HK2 := Lib.hid (Mm.Blk.new' (w.alloc (.cells #[.slice A0 n0 c0, .slice A1 n1 c1, .slice A2 n2 c2] 27)) 27 [.slice A0' n0' c0', .slice A1' n1' c1', .slice A2' n2' c2'] (Mm.sz1 _ _))
  have hb0 : Below w.heap.size w ((w.alloc (.cells #[.slice A0 n0 c0, .slice A1 n1 c1, .slice A2 n2 c2] 27)).alloc (.cells #[.slice A0' n0' c0', .slice A1' n1' c1', .slice A2' n2' c2'] 27)) := below_new (below_new (Below.refl _ _) _) _
  have HB0 := Lib.hid hb0
  have HG := Lib.hid (And.intro hB (And.intro (And.intro g0 g0') (And.intro (And.intro g1 g1') (And.intro g2 g2'))))
  clear hB g0 g0' g1 g1' g2 g2'
  clear hb0
  go_enter Tryz.func14, Tryz.ntmps14
  go_wp2_with fail
  refine (eqLogS_c x.Logs _ _ _ _ _ _ _ B (HG.out.2.1.1.keep fun b hb => HB0.out.block b (Nat.lt_of_lt_of_le hb HG.out.1)) (HG.out.2.1.2.keep fun b hb => HB0.out.block b (Nat.lt_of_lt_of_le hb HG.out.1)) (Nat.le_trans HG.out.1 HB0.out.size)).mono ?_
  rintro e w1 ⟨rfl, hb1⟩
  have HB1 := Lib.hid (below_step HB0.out hb1)
  have HK1 := Lib.hid (HK1.out.bel hb1)
  have HK2 := Lib.hid (HK2.out.bel hb1)
  have p1_1 := HK1.out.cell (i := 1) rfl
  have q1_1 := HK2.out.cell (i := 1) rfl
  have p1_2 := HK1.out.cell (i := 2) rfl
  have q1_2 := HK2.out.cell (i := 2) rfl
  clear hb1
  go_wp2_with fail
  refine (eqHeadS_c x.Heads _ _ _ _ _ _ _ B (HG.out.2.2.1.1.keep fun b hb => HB1.out.block b (Nat.lt_of_lt_of_le hb HG.out.1)) (HG.out.2.2.1.2.keep fun b hb => HB1.out.block b (Nat.lt_of_lt_of_le hb HG.out.1)) (Nat.le_trans HG.out.1 HB1.out.size)).mono ?_
  rintro e w2 ⟨rfl, hb2⟩
  have HB2 := Lib.hid (below_step HB1.out hb2)
  have HK1 := Lib.hid (HK1.out.bel hb2)
  have HK2 := Lib.hid (HK2.out.bel hb2)
  have p2_2 := HK1.out.cell (i := 2) rfl
  have q2_2 := HK2.out.cell (i := 2) rfl
  clear hb2
  go_wp2_with fail
  refine (eqHeadS_c x.Kept _ _ _ _ _ _ _ B (HG.out.2.2.2.1.keep fun b hb => HB2.out.block b (Nat.lt_of_lt_of_le hb HG.out.1)) (HG.out.2.2.2.2.keep fun b hb => HB2.out.block b (Nat.lt_of_lt_of_le hb HG.out.1)) (Nat.le_trans HG.out.1 HB2.out.size)).mono ?_
  rintro e w3 ⟨rfl, hb3⟩
  have HB3 := Lib.hid (below_step HB2.out hb3)
  have HK1 := Lib.hid (HK1.out.bel hb3)
  have HK2 := Lib.hid (HK2.out.bel hb3)
  clear hb3
  go_wp2
  go_ret
  exact ⟨rfl, HB3.out⟩
theorem eqHouse_at (x : House) (cs cs' : List Value) (w : World) (B : Nat) (h : rHouse.at_ w B x cs) (h' : rHouse.at_ w B x cs') (hB : B ≤ w.heap.size) :
    Calls Tryz.prog 14 #[.agg cs.toArray, .agg cs'.toArray] w fun e w' => e = .returned (.bool true) ∧ Below w.heap.size w w' := by
  obtain ⟨A0, n0, c0, A1, n1, c1, A2, n2, c2, rfl, g0, g1, g2⟩ := rHouse_at h
  obtain ⟨A0', n0', c0', A1', n1', c1', A2', n2', c2', rfl, k0, k1, k2⟩ := rHouse_at h'
  exact eqHouse_c x _ _ _ _ _ _ _ _ _ _ _ _ _ _ _ _ _ _ _ B g0 k0 g1 k1 g2 k2 hB
end Go.Proofs.YtbhmdnjammnlnaaGreatDoor

/-
  The laws' own sizes of arguments. No conditions.
-/
namespace Go.Proofs.YtbhmdnjammnlnaaGreatDoor
open Go.RowKit
attribute [local go_sem] und_cell
set_option maxHeartbeats 1000000 in
theorem szIntS_c (l : List Int) (A : Option Addr) (n c : Nat) (left : Int) (w : World) (B : Nat) (hl : Mm.SlAt Mm.int w B l A n c) (_hB : B ≤ w.heap.size) (h0 : 0 ≤ left) (h1 : left ≤ 1048576) :
    Calls Tryz.prog 200 #[.slice A n c, .int .i64 left] w fun e w' => e = .returned (.int .i64 (Pl.szRet left (Pl.szl Pl.sz0 l))) ∧ Below w.heap.size w w' := by
  have hn : n ≤ 9223372036854775807 := by have := hl.2.1; have := hl.2.2.1; unfold maxLen at this; omega
  have hlen : Hid (l.length = n) := hl.1
  have HZ : Hid (Pl.szl Pl.sz0 l = (n : Int)) := by show _ = _; rw [Pl.szl_zero, hlen.out]
  clear hl
  by_cases h : left - (n : Int) < 0
  · go_enter Tryz.func200, Tryz.ntmps200
    go_wp2
    go_ret
    exact ⟨ret_int (by rw [HZ.out, Pl.szRet_lt (by omega)]), Below.refl _ _⟩
  · go_enter Tryz.func200, Tryz.ntmps200
    go_wp2
    go_ret
    exact ⟨ret_int (by rw [HZ.out, Pl.szRet_ge (by omega)]), Below.refl _ _⟩
set_option maxHeartbeats 1000000 in
theorem szSampleS_c (l : List Sample) (A : Option Addr) (n c : Nat) (left : Int) (w : World) (B : Nat) (hl : Mm.SlAt smp w B l A n c) (hB : B ≤ w.heap.size) (h0 : 0 ≤ left) (h1 : left ≤ 1048576) :
    Calls Tryz.prog 201 #[.slice A n c, .int .i64 left] w fun e w' => e = .returned (.int .i64 (Pl.szRet left (Pl.szl Pl.sz0 l))) ∧ Below w.heap.size w w' := by
  have hn : n ≤ 9223372036854775807 := by have := hl.2.1; have := hl.2.2.1; unfold maxLen at this; omega
  have hlen : Hid (l.length = n) := hl.1
  have HZ : Hid (Pl.szl Pl.sz0 l = (n : Int)) := by show _ = _; rw [Pl.szl_zero, hlen.out]
  clear hl
  by_cases h : left - (n : Int) < 0
  · go_enter Tryz.func201, Tryz.ntmps201
    go_wp2
    go_ret
    exact ⟨ret_int (by rw [HZ.out, Pl.szRet_lt (by omega)]), Below.refl _ _⟩
  · go_enter Tryz.func201, Tryz.ntmps201
    go_wp2
    go_ret
    exact ⟨ret_int (by rw [HZ.out, Pl.szRet_ge (by omega)]), Below.refl _ _⟩
set_option maxHeartbeats 1000000 in
theorem szSay_c (x : Say)  (left : Int) (w : World) (B : Nat) (s0 : x.Name.size ≤ maxLen) (hB : B ≤ w.heap.size) (h0 : 0 ≤ left) (h1 : left ≤ 1048576) :
    Calls Tryz.prog 77 #[.agg #[.string x.Name, .int .i64 x.At, .int .i64 x.Value], .int .i64 left] w fun e w' => e = .returned (.int .i64 (Pl.szRet left (Pl.szSay x))) ∧ Below w.heap.size w w' := by
  unfold maxLen at s0
  have HK := Lib.hid (Mm.Blk.new w 49 [.string x.Name, .int .i64 x.At, .int .i64 x.Value])
  have hb0 : Below w.heap.size w (w.alloc (.cells #[.string x.Name, .int .i64 x.At, .int .i64 x.Value] 49)) := below_new (Below.refl _ _) _
  have HB0 := Lib.hid hb0
  clear hb0
  have zn0 := Pl.szStr_nn x.Name
  have e0 : Pl.szStr x.Name = (x.Name.size : Int) := rfl
  have hz : Pl.szSay x = Pl.szStr x.Name := rfl
  have HZ := Lib.hid hz
  clear hz
  have E0 := Lib.hid e0
  clear e0
  by_cases t0 : left - Pl.szStr x.Name < 0
  · have t0' := t0
    rw [E0.out] at t0'
    go_enter Tryz.func77, Tryz.ntmps77
    go_wp2
    go_ret
    exact ⟨ret_int (by rw [HZ.out, Pl.szRet_lt (by omega)]), HB0.out⟩
  · have t0' := t0
    rw [E0.out] at t0'
    go_enter Tryz.func77, Tryz.ntmps77
    go_wp2
    go_ret
    exact ⟨ret_int (by have hh : Pl.szRet left (Pl.szSay x) = left - Pl.szSay x := Pl.szRet_ge (by rw [HZ.out]; omega); have h2 := HZ.out; have := E0.out; omega), HB0.out⟩
set_option maxHeartbeats 1000000 in
theorem szHouseStep_c (x : HouseStep)  (left : Int) (w : World) (B : Nat) (s0 : x.What.Name.size ≤ maxLen) (hB : B ≤ w.heap.size) (h0 : 0 ≤ left) (h1 : left ≤ 1048576) :
    Calls Tryz.prog 26 #[.agg #[.int .i64 x.Kind, .int .i64 x.Part, .string x.What.Name, .int .i64 x.What.At, .int .i64 x.What.Value], .int .i64 left] w fun e w' => e = .returned (.int .i64 (Pl.szRet left (Pl.szHouseStep x))) ∧ Below w.heap.size w w' := by
  unfold maxLen at s0
  have HK := Lib.hid (Mm.Blk.new w 51 [.int .i64 x.Kind, .int .i64 x.Part, .string x.What.Name, .int .i64 x.What.At, .int .i64 x.What.Value])
  have hb0 : Below w.heap.size w (w.alloc (.cells #[.int .i64 x.Kind, .int .i64 x.Part, .string x.What.Name, .int .i64 x.What.At, .int .i64 x.What.Value] 51)) := below_new (Below.refl _ _) _
  have HB0 := Lib.hid hb0
  clear hb0
  have zn0 := Pl.szSay_nn x.What
  have hz : Pl.szHouseStep x = Pl.szSay x.What := rfl
  have HZ := Lib.hid hz
  clear hz
  by_cases t0 : left - Pl.szSay x.What < 0
  · go_enter Tryz.func26, Tryz.ntmps26
    go_wp2_with fail
    refine (szSay_c x.What _ _ (_) (by unfold maxLen; omega) (Nat.le_refl _) (by omega) (by omega)).mono ?_
    rintro e w1 ⟨rfl, hb1⟩
    rw [Pl.szRet_lt (by omega)]
    have HB1 := Lib.hid (below_step HB0.out hb1)
    have HK := Lib.hid (HK.out.bel hb1)
    clear hb1
    go_wp2
    go_ret
    exact ⟨ret_int (by rw [HZ.out, Pl.szRet_lt (by omega)]), HB1.out⟩
  · go_enter Tryz.func26, Tryz.ntmps26
    go_wp2_with fail
    refine (szSay_c x.What _ _ (_) (by unfold maxLen; omega) (Nat.le_refl _) (by omega) (by omega)).mono ?_
    rintro e w1 ⟨rfl, hb1⟩
    rw [Pl.szRet_ge (by omega)]
    have HB1 := Lib.hid (below_step HB0.out hb1)
    have HK := Lib.hid (HK.out.bel hb1)
    clear hb1
    go_wp2
    go_ret
    exact ⟨ret_int (by have hh : Pl.szRet left (Pl.szHouseStep x) = left - Pl.szHouseStep x := Pl.szRet_ge (by rw [HZ.out]; omega); have h2 := HZ.out; omega), HB1.out⟩
set_option maxHeartbeats 1000000 in
theorem szRow_c (x : Row) (A : Option Addr) (n c : Nat) (left : Int) (w : World) (B : Nat) (g0 : Mm.SlAt smp w B x.Samples A n c) (s0 : x.Name.size ≤ maxLen) (hB : B ≤ w.heap.size) (h0 : 0 ≤ left) (h1 : left ≤ 1048576) :
    Calls Tryz.prog 184 #[.agg #[.string x.Name, .slice A n c], .int .i64 left] w fun e w' => e = .returned (.int .i64 (Pl.szRet left (Pl.szRow x))) ∧ Below w.heap.size w w' := by
  unfold maxLen at s0
  have HK := Lib.hid (Mm.Blk.new w 221 [.string x.Name, .slice A n c])
  have hb0 : Below w.heap.size w (w.alloc (.cells #[.string x.Name, .slice A n c] 221)) := below_new (Below.refl _ _) _
  have HB0 := Lib.hid hb0
  clear hb0
  have HG := Lib.hid (And.intro hB g0)
  clear g0
  have zn0 := Pl.szStr_nn x.Name
  have e0 : Pl.szStr x.Name = (x.Name.size : Int) := rfl
  have zn1 := Pl.szl_nn (f := Pl.sz0) (Pl.sz0_nn) x.Samples
  have hz : Pl.szRow x = Pl.szStr x.Name + (Pl.szl Pl.sz0) x.Samples := rfl
  have HZ := Lib.hid hz
  clear hz
  have E0 := Lib.hid e0
  clear e0
  by_cases t0 : left - Pl.szStr x.Name < 0
  · have t0' := t0
    rw [E0.out] at t0'
    go_enter Tryz.func184, Tryz.ntmps184
    go_wp2
    go_ret
    exact ⟨ret_int (by rw [HZ.out, Pl.szRet_lt (by omega)]), HB0.out⟩
  · skip
    by_cases t1 : left - Pl.szStr x.Name - (Pl.szl Pl.sz0) x.Samples < 0
    · have t0' := t0
      rw [E0.out] at t0'
      have t1' := t1
      rw [E0.out] at t1'
      go_enter Tryz.func184, Tryz.ntmps184
      go_wp2_with fail
      refine (szSampleS_c x.Samples _ _ _ _ _ B (HG.out.2.keep fun b hb => HB0.out.block b (Nat.lt_of_lt_of_le hb HG.out.1)) (Nat.le_trans HG.out.1 HB0.out.size) (by omega) (by omega)).mono ?_
      rintro e w1 ⟨rfl, hb1⟩
      rw [Pl.szRet_lt (by omega)]
      have HB1 := Lib.hid (below_step HB0.out hb1)
      have HK := Lib.hid (HK.out.bel hb1)
      clear hb1
      go_wp2
      go_ret
      exact ⟨ret_int (by rw [HZ.out, Pl.szRet_lt (by omega)]), HB1.out⟩
    · have t0' := t0
      rw [E0.out] at t0'
      have t1' := t1
      rw [E0.out] at t1'
      go_enter Tryz.func184, Tryz.ntmps184
      go_wp2_with fail
      refine (szSampleS_c x.Samples _ _ _ _ _ B (HG.out.2.keep fun b hb => HB0.out.block b (Nat.lt_of_lt_of_le hb HG.out.1)) (Nat.le_trans HG.out.1 HB0.out.size) (by omega) (by omega)).mono ?_
      rintro e w1 ⟨rfl, hb1⟩
      rw [Pl.szRet_ge (by omega)]
      have HB1 := Lib.hid (below_step HB0.out hb1)
      have HK := Lib.hid (HK.out.bel hb1)
      clear hb1
      go_wp2
      go_ret
      exact ⟨ret_int (by have hh : Pl.szRet left (Pl.szRow x) = left - Pl.szRow x := Pl.szRet_ge (by rw [HZ.out]; omega); have h2 := HZ.out; have := E0.out; omega), HB1.out⟩
set_option maxHeartbeats 1000000 in
theorem szRowS_c (l : List Row) (A : Option Addr) (n c : Nat) (left : Int) (w : World) (B : Nat) (hl : Mm.SlAt rRow w B l A n c) (hB : B ≤ w.heap.size) (h0 : 0 ≤ left) (h1 : left ≤ 1048576) :
    Calls Tryz.prog 161 #[.slice A n c, .int .i64 left] w fun e w' => e = .returned (.int .i64 (Pl.szRet left (Pl.szl Pl.szRow l))) ∧ Below w.heap.size w w' := by
  have hn : n ≤ 9223372036854775807 := by have := hl.2.1; have := hl.2.2.1; unfold maxLen at this; omega
  have hlen : Hid (l.length = n) := hl.1
  have HL := Lib.hid hl
  have HZ : Hid (Pl.szl Pl.szRow l = (n : Int) + Pl.sumI Pl.szRow l) := by show _ = _; unfold Pl.szl; rw [hlen.out]
  have HN : Hid (∀ x : Row, 0 ≤ Pl.szRow x) := Pl.szRow_nn
  have hs0 := Pl.sumI_nn HN.out l
  clear hl
  by_cases h : left - (n : Int) < 0
  · go_enter Tryz.func161, Tryz.ntmps161
    go_wp2
    go_ret
    exact ⟨ret_int (by rw [HZ.out, Pl.szRet_lt (by omega)]), Below.refl _ _⟩
  · go_enter Tryz.func161, Tryz.ntmps161
    go_wp2
    go_loopw [1, 5] (fun lf i wr => ∃ k : Nat, k ≤ n ∧ i = .int .i64 k ∧ (∃ s : Int, 0 ≤ s ∧ s ≤ left ∧ s = left - n - Pl.sumI Pl.szRow (l.take k) ∧ lf = .int .i64 s) ∧ Below w.heap.size w wr) (fun _ i _ => n - (intOf i).toNat)
    case atStart => exact ⟨0, Nat.zero_le _, rfl, ⟨_, by omega, by omega, by simp [Pl.sumI], rfl⟩, Below.refl _ _⟩
    case round =>
      obtain ⟨k, hk, rfl, ⟨s, hs1, hs2, hs3, rfl⟩, hbel⟩ := hrel
      rename_i wr _
      have HS := Lib.hid hs3
      clear hs3
      by_cases hlt : k < n
      · obtain ⟨x, b, off, A, n, c, hx, rfl, hb, f0, f1, d0, d1⟩ := rRow_get (HL.out.keep (w' := wr) (fun b hb => hbel.block b (by omega))) hlt
        have hBw : B ≤ wr.heap.size := Nat.le_trans hB hbel.size
        have hx0 := HN.out x
        have hsn : Pl.sumI Pl.szRow (l.take (k + 1)) = Pl.sumI Pl.szRow (l.take k) + Pl.szRow x := Pl.sumI_succ hx
        have hst := Pl.sumI_take HN.out l (k + 1)
        have HA := Lib.hid (And.intro hsn hst)
        clear hsn hst hx
        have HF := Lib.hid (And.intro f1 f0)
        clear f0 f1
        by_cases hneg : s - Pl.szRow x < 0
        · go_wp2_with fail
          refine (szRow_c x _ _ _ _ _ B HF.out.1 HF.out.2 hBw (by omega) (by omega)).mono ?_
          rintro e w1 ⟨rfl, hb1⟩
          rw [Pl.szRet_lt hneg]
          go_wp2
          go_ret
          exact ⟨ret_int (by rw [HZ.out, Pl.szRet_lt (by have := HA.out.1; have := HA.out.2; have := HS.out; omega)]), below_step hbel hb1⟩
        · go_wp2_with fail
          refine (szRow_c x _ _ _ _ _ B HF.out.1 HF.out.2 hBw (by omega) (by omega)).mono ?_
          rintro e w1 ⟨rfl, hb1⟩
          rw [Pl.szRet_ge (by omega)]
          go_wp2
          go_roundw
          case rel => exact ⟨k + 1, by omega, by go_num, ⟨_, by omega, by omega, by have := HA.out.1; have := HS.out; omega, rfl⟩, below_step hbel hb1⟩
          case measure => simp [intOf]; omega
      · have HK : Hid (l.take k = l) := List.take_of_length_le (by have := hlen.out; omega)
        go_wp2
        go_ret
        exact ⟨ret_int (by have := HS.out; rw [HK.out] at this; rw [HZ.out, Pl.szRet_ge (by omega)]; omega), hbel⟩
set_option maxHeartbeats 1000000 in
theorem szHead_c (x : Head) (A : Option Addr) (n c : Nat) (left : Int) (w : World) (B : Nat) (g0 : Mm.SlAt rRow w B x.Rows A n c) (hB : B ≤ w.heap.size) (h0 : 0 ≤ left) (h1 : left ≤ 1048576) :
    Calls Tryz.prog 122 #[.agg #[.slice A n c, .int .i64 x.Offset], .int .i64 left] w fun e w' => e = .returned (.int .i64 (Pl.szRet left (Pl.szHead x))) ∧ Below w.heap.size w w' := by
  have HK := Lib.hid (Mm.Blk.new w 162 [.slice A n c, .int .i64 x.Offset])
  have hb0 : Below w.heap.size w (w.alloc (.cells #[.slice A n c, .int .i64 x.Offset] 162)) := below_new (Below.refl _ _) _
  have HB0 := Lib.hid hb0
  clear hb0
  have HG := Lib.hid (And.intro hB g0)
  clear g0
  have zn0 := Pl.szl_nn (f := Pl.szRow) (Pl.szRow_nn) x.Rows
  have hz : Pl.szHead x = (Pl.szl Pl.szRow) x.Rows := rfl
  have HZ := Lib.hid hz
  clear hz
  by_cases t0 : left - (Pl.szl Pl.szRow) x.Rows < 0
  · go_enter Tryz.func122, Tryz.ntmps122
    go_wp2_with fail
    refine (szRowS_c x.Rows _ _ _ _ _ B (HG.out.2.keep fun b hb => HB0.out.block b (Nat.lt_of_lt_of_le hb HG.out.1)) (Nat.le_trans HG.out.1 HB0.out.size) (by omega) (by omega)).mono ?_
    rintro e w1 ⟨rfl, hb1⟩
    rw [Pl.szRet_lt (by omega)]
    have HB1 := Lib.hid (below_step HB0.out hb1)
    have HK := Lib.hid (HK.out.bel hb1)
    clear hb1
    go_wp2
    go_ret
    exact ⟨ret_int (by rw [HZ.out, Pl.szRet_lt (by omega)]), HB1.out⟩
  · go_enter Tryz.func122, Tryz.ntmps122
    go_wp2_with fail
    refine (szRowS_c x.Rows _ _ _ _ _ B (HG.out.2.keep fun b hb => HB0.out.block b (Nat.lt_of_lt_of_le hb HG.out.1)) (Nat.le_trans HG.out.1 HB0.out.size) (by omega) (by omega)).mono ?_
    rintro e w1 ⟨rfl, hb1⟩
    rw [Pl.szRet_ge (by omega)]
    have HB1 := Lib.hid (below_step HB0.out hb1)
    have HK := Lib.hid (HK.out.bel hb1)
    clear hb1
    go_wp2
    go_ret
    exact ⟨ret_int (by have hh : Pl.szRet left (Pl.szHead x) = left - Pl.szHead x := Pl.szRet_ge (by rw [HZ.out]; omega); have h2 := HZ.out; omega), HB1.out⟩
set_option maxHeartbeats 1000000 in
theorem szHeadS_c (l : List Head) (A : Option Addr) (n c : Nat) (left : Int) (w : World) (B : Nat) (hl : Mm.SlAt rHead w B l A n c) (hB : B ≤ w.heap.size) (h0 : 0 ≤ left) (h1 : left ≤ 1048576) :
    Calls Tryz.prog 67 #[.slice A n c, .int .i64 left] w fun e w' => e = .returned (.int .i64 (Pl.szRet left (Pl.szl Pl.szHead l))) ∧ Below w.heap.size w w' := by
  have hn : n ≤ 9223372036854775807 := by have := hl.2.1; have := hl.2.2.1; unfold maxLen at this; omega
  have hlen : Hid (l.length = n) := hl.1
  have HL := Lib.hid hl
  have HZ : Hid (Pl.szl Pl.szHead l = (n : Int) + Pl.sumI Pl.szHead l) := by show _ = _; unfold Pl.szl; rw [hlen.out]
  have HN : Hid (∀ x : Head, 0 ≤ Pl.szHead x) := Pl.szHead_nn
  have hs0 := Pl.sumI_nn HN.out l
  clear hl
  by_cases h : left - (n : Int) < 0
  · go_enter Tryz.func67, Tryz.ntmps67
    go_wp2
    go_ret
    exact ⟨ret_int (by rw [HZ.out, Pl.szRet_lt (by omega)]), Below.refl _ _⟩
  · go_enter Tryz.func67, Tryz.ntmps67
    go_wp2
    go_loopw [1, 5] (fun lf i wr => ∃ k : Nat, k ≤ n ∧ i = .int .i64 k ∧ (∃ s : Int, 0 ≤ s ∧ s ≤ left ∧ s = left - n - Pl.sumI Pl.szHead (l.take k) ∧ lf = .int .i64 s) ∧ Below w.heap.size w wr) (fun _ i _ => n - (intOf i).toNat)
    case atStart => exact ⟨0, Nat.zero_le _, rfl, ⟨_, by omega, by omega, by simp [Pl.sumI], rfl⟩, Below.refl _ _⟩
    case round =>
      obtain ⟨k, hk, rfl, ⟨s, hs1, hs2, hs3, rfl⟩, hbel⟩ := hrel
      rename_i wr _
      have HS := Lib.hid hs3
      clear hs3
      by_cases hlt : k < n
      · obtain ⟨x, b, off, A, n, c, hx, rfl, hb, f0, f1, d0, d1⟩ := rHead_get (HL.out.keep (w' := wr) (fun b hb => hbel.block b (by omega))) hlt
        have hBw : B ≤ wr.heap.size := Nat.le_trans hB hbel.size
        have hx0 := HN.out x
        have hsn : Pl.sumI Pl.szHead (l.take (k + 1)) = Pl.sumI Pl.szHead (l.take k) + Pl.szHead x := Pl.sumI_succ hx
        have hst := Pl.sumI_take HN.out l (k + 1)
        have HA := Lib.hid (And.intro hsn hst)
        clear hsn hst hx
        have HF := Lib.hid f0
        clear f0 f1
        by_cases hneg : s - Pl.szHead x < 0
        · go_wp2_with fail
          refine (szHead_c x _ _ _ _ _ B HF.out hBw (by omega) (by omega)).mono ?_
          rintro e w1 ⟨rfl, hb1⟩
          rw [Pl.szRet_lt hneg]
          go_wp2
          go_ret
          exact ⟨ret_int (by rw [HZ.out, Pl.szRet_lt (by have := HA.out.1; have := HA.out.2; have := HS.out; omega)]), below_step hbel hb1⟩
        · go_wp2_with fail
          refine (szHead_c x _ _ _ _ _ B HF.out hBw (by omega) (by omega)).mono ?_
          rintro e w1 ⟨rfl, hb1⟩
          rw [Pl.szRet_ge (by omega)]
          go_wp2
          go_roundw
          case rel => exact ⟨k + 1, by omega, by go_num, ⟨_, by omega, by omega, by have := HA.out.1; have := HS.out; omega, rfl⟩, below_step hbel hb1⟩
          case measure => simp [intOf]; omega
      · have HK : Hid (l.take k = l) := List.take_of_length_le (by have := hlen.out; omega)
        go_wp2
        go_ret
        exact ⟨ret_int (by have := HS.out; rw [HK.out] at this; rw [HZ.out, Pl.szRet_ge (by omega)]; omega), hbel⟩
set_option maxHeartbeats 1000000 in
theorem szPiece_c (x : Piece) (A : Option Addr) (n c : Nat) (left : Int) (w : World) (B : Nat) (g0 : Mm.SlAt Mm.int w B x.Index A n c) (s0 : x.Bytes.size ≤ maxLen) (hB : B ≤ w.heap.size) (h0 : 0 ≤ left) (h1 : left ≤ 1048576) :
    Calls Tryz.prog 183 #[.agg #[.int .i64 x.From, .string x.Bytes, .slice A n c], .int .i64 left] w fun e w' => e = .returned (.int .i64 (Pl.szRet left (Pl.szPiece x))) ∧ Below w.heap.size w w' := by
  unfold maxLen at s0
  have HK := Lib.hid (Mm.Blk.new w 217 [.int .i64 x.From, .string x.Bytes, .slice A n c])
  have hb0 : Below w.heap.size w (w.alloc (.cells #[.int .i64 x.From, .string x.Bytes, .slice A n c] 217)) := below_new (Below.refl _ _) _
  have HB0 := Lib.hid hb0
  clear hb0
  have HG := Lib.hid (And.intro hB g0)
  clear g0
  have zn0 := Pl.szStr_nn x.Bytes
  have e0 : Pl.szStr x.Bytes = (x.Bytes.size : Int) := rfl
  have zn1 := Pl.szl_nn (f := Pl.sz0) (Pl.sz0_nn) x.Index
  have hz : Pl.szPiece x = Pl.szStr x.Bytes + (Pl.szl Pl.sz0) x.Index := rfl
  have HZ := Lib.hid hz
  clear hz
  have E0 := Lib.hid e0
  clear e0
  by_cases t0 : left - Pl.szStr x.Bytes < 0
  · have t0' := t0
    rw [E0.out] at t0'
    go_enter Tryz.func183, Tryz.ntmps183
    go_wp2
    go_ret
    exact ⟨ret_int (by rw [HZ.out, Pl.szRet_lt (by omega)]), HB0.out⟩
  · skip
    by_cases t1 : left - Pl.szStr x.Bytes - (Pl.szl Pl.sz0) x.Index < 0
    · have t0' := t0
      rw [E0.out] at t0'
      have t1' := t1
      rw [E0.out] at t1'
      go_enter Tryz.func183, Tryz.ntmps183
      go_wp2_with fail
      refine (szIntS_c x.Index _ _ _ _ _ B (HG.out.2.keep fun b hb => HB0.out.block b (Nat.lt_of_lt_of_le hb HG.out.1)) (Nat.le_trans HG.out.1 HB0.out.size) (by omega) (by omega)).mono ?_
      rintro e w1 ⟨rfl, hb1⟩
      rw [Pl.szRet_lt (by omega)]
      have HB1 := Lib.hid (below_step HB0.out hb1)
      have HK := Lib.hid (HK.out.bel hb1)
      clear hb1
      go_wp2
      go_ret
      exact ⟨ret_int (by rw [HZ.out, Pl.szRet_lt (by omega)]), HB1.out⟩
    · have t0' := t0
      rw [E0.out] at t0'
      have t1' := t1
      rw [E0.out] at t1'
      go_enter Tryz.func183, Tryz.ntmps183
      go_wp2_with fail
      refine (szIntS_c x.Index _ _ _ _ _ B (HG.out.2.keep fun b hb => HB0.out.block b (Nat.lt_of_lt_of_le hb HG.out.1)) (Nat.le_trans HG.out.1 HB0.out.size) (by omega) (by omega)).mono ?_
      rintro e w1 ⟨rfl, hb1⟩
      rw [Pl.szRet_ge (by omega)]
      have HB1 := Lib.hid (below_step HB0.out hb1)
      have HK := Lib.hid (HK.out.bel hb1)
      clear hb1
      go_wp2
      go_ret
      exact ⟨ret_int (by have hh : Pl.szRet left (Pl.szPiece x) = left - Pl.szPiece x := Pl.szRet_ge (by rw [HZ.out]; omega); have h2 := HZ.out; have := E0.out; omega), HB1.out⟩
set_option maxHeartbeats 1000000 in
theorem szPieceS_c (l : List Piece) (A : Option Addr) (n c : Nat) (left : Int) (w : World) (B : Nat) (hl : Mm.SlAt rPiece w B l A n c) (hB : B ≤ w.heap.size) (h0 : 0 ≤ left) (h1 : left ≤ 1048576) :
    Calls Tryz.prog 160 #[.slice A n c, .int .i64 left] w fun e w' => e = .returned (.int .i64 (Pl.szRet left (Pl.szl Pl.szPiece l))) ∧ Below w.heap.size w w' := by
  have hn : n ≤ 9223372036854775807 := by have := hl.2.1; have := hl.2.2.1; unfold maxLen at this; omega
  have hlen : Hid (l.length = n) := hl.1
  have HL := Lib.hid hl
  have HZ : Hid (Pl.szl Pl.szPiece l = (n : Int) + Pl.sumI Pl.szPiece l) := by show _ = _; unfold Pl.szl; rw [hlen.out]
  have HN : Hid (∀ x : Piece, 0 ≤ Pl.szPiece x) := Pl.szPiece_nn
  have hs0 := Pl.sumI_nn HN.out l
  clear hl
  by_cases h : left - (n : Int) < 0
  · go_enter Tryz.func160, Tryz.ntmps160
    go_wp2
    go_ret
    exact ⟨ret_int (by rw [HZ.out, Pl.szRet_lt (by omega)]), Below.refl _ _⟩
  · go_enter Tryz.func160, Tryz.ntmps160
    go_wp2
    go_loopw [1, 5] (fun lf i wr => ∃ k : Nat, k ≤ n ∧ i = .int .i64 k ∧ (∃ s : Int, 0 ≤ s ∧ s ≤ left ∧ s = left - n - Pl.sumI Pl.szPiece (l.take k) ∧ lf = .int .i64 s) ∧ Below w.heap.size w wr) (fun _ i _ => n - (intOf i).toNat)
    case atStart => exact ⟨0, Nat.zero_le _, rfl, ⟨_, by omega, by omega, by simp [Pl.sumI], rfl⟩, Below.refl _ _⟩
    case round =>
      obtain ⟨k, hk, rfl, ⟨s, hs1, hs2, hs3, rfl⟩, hbel⟩ := hrel
      rename_i wr _
      have HS := Lib.hid hs3
      clear hs3
      by_cases hlt : k < n
      · obtain ⟨x, b, off, A, n, c, hx, rfl, hb, f0, f1, f2, d0, d1, d2⟩ := rPiece_get (HL.out.keep (w' := wr) (fun b hb => hbel.block b (by omega))) hlt
        have hBw : B ≤ wr.heap.size := Nat.le_trans hB hbel.size
        have hx0 := HN.out x
        have hsn : Pl.sumI Pl.szPiece (l.take (k + 1)) = Pl.sumI Pl.szPiece (l.take k) + Pl.szPiece x := Pl.sumI_succ hx
        have hst := Pl.sumI_take HN.out l (k + 1)
        have HA := Lib.hid (And.intro hsn hst)
        clear hsn hst hx
        have HF := Lib.hid (And.intro f2 f1)
        clear f0 f1 f2
        by_cases hneg : s - Pl.szPiece x < 0
        · go_wp2_with fail
          refine (szPiece_c x _ _ _ _ _ B HF.out.1 HF.out.2 hBw (by omega) (by omega)).mono ?_
          rintro e w1 ⟨rfl, hb1⟩
          rw [Pl.szRet_lt hneg]
          go_wp2
          go_ret
          exact ⟨ret_int (by rw [HZ.out, Pl.szRet_lt (by have := HA.out.1; have := HA.out.2; have := HS.out; omega)]), below_step hbel hb1⟩
        · go_wp2_with fail
          refine (szPiece_c x _ _ _ _ _ B HF.out.1 HF.out.2 hBw (by omega) (by omega)).mono ?_
          rintro e w1 ⟨rfl, hb1⟩
          rw [Pl.szRet_ge (by omega)]
          go_wp2
          go_roundw
          case rel => exact ⟨k + 1, by omega, by go_num, ⟨_, by omega, by omega, by have := HA.out.1; have := HS.out; omega, rfl⟩, below_step hbel hb1⟩
          case measure => simp [intOf]; omega
      · have HK : Hid (l.take k = l) := List.take_of_length_le (by have := hlen.out; omega)
        go_wp2
        go_ret
        exact ⟨ret_int (by have := HS.out; rw [HK.out] at this; rw [HZ.out, Pl.szRet_ge (by omega)]; omega), hbel⟩
set_option maxHeartbeats 1000000 in
theorem szLog_c (x : Log) (A : Option Addr) (n c : Nat) (left : Int) (w : World) (B : Nat) (g0 : Mm.SlAt rPiece w B x.Pieces A n c) (hB : B ≤ w.heap.size) (h0 : 0 ≤ left) (h1 : left ≤ 1048576) :
    Calls Tryz.prog 121 #[.agg #[.slice A n c, .int .i64 x.Begin], .int .i64 left] w fun e w' => e = .returned (.int .i64 (Pl.szRet left (Pl.szLog x))) ∧ Below w.heap.size w w' := by
  have HK := Lib.hid (Mm.Blk.new w 158 [.slice A n c, .int .i64 x.Begin])
  have hb0 : Below w.heap.size w (w.alloc (.cells #[.slice A n c, .int .i64 x.Begin] 158)) := below_new (Below.refl _ _) _
  have HB0 := Lib.hid hb0
  clear hb0
  have HG := Lib.hid (And.intro hB g0)
  clear g0
  have zn0 := Pl.szl_nn (f := Pl.szPiece) (Pl.szPiece_nn) x.Pieces
  have hz : Pl.szLog x = (Pl.szl Pl.szPiece) x.Pieces := rfl
  have HZ := Lib.hid hz
  clear hz
  by_cases t0 : left - (Pl.szl Pl.szPiece) x.Pieces < 0
  · go_enter Tryz.func121, Tryz.ntmps121
    go_wp2_with fail
    refine (szPieceS_c x.Pieces _ _ _ _ _ B (HG.out.2.keep fun b hb => HB0.out.block b (Nat.lt_of_lt_of_le hb HG.out.1)) (Nat.le_trans HG.out.1 HB0.out.size) (by omega) (by omega)).mono ?_
    rintro e w1 ⟨rfl, hb1⟩
    rw [Pl.szRet_lt (by omega)]
    have HB1 := Lib.hid (below_step HB0.out hb1)
    have HK := Lib.hid (HK.out.bel hb1)
    clear hb1
    go_wp2
    go_ret
    exact ⟨ret_int (by rw [HZ.out, Pl.szRet_lt (by omega)]), HB1.out⟩
  · go_enter Tryz.func121, Tryz.ntmps121
    go_wp2_with fail
    refine (szPieceS_c x.Pieces _ _ _ _ _ B (HG.out.2.keep fun b hb => HB0.out.block b (Nat.lt_of_lt_of_le hb HG.out.1)) (Nat.le_trans HG.out.1 HB0.out.size) (by omega) (by omega)).mono ?_
    rintro e w1 ⟨rfl, hb1⟩
    rw [Pl.szRet_ge (by omega)]
    have HB1 := Lib.hid (below_step HB0.out hb1)
    have HK := Lib.hid (HK.out.bel hb1)
    clear hb1
    go_wp2
    go_ret
    exact ⟨ret_int (by have hh : Pl.szRet left (Pl.szLog x) = left - Pl.szLog x := Pl.szRet_ge (by rw [HZ.out]; omega); have h2 := HZ.out; omega), HB1.out⟩
set_option maxHeartbeats 1000000 in
theorem szLogS_c (l : List Log) (A : Option Addr) (n c : Nat) (left : Int) (w : World) (B : Nat) (hl : Mm.SlAt rLog w B l A n c) (hB : B ≤ w.heap.size) (h0 : 0 ≤ left) (h1 : left ≤ 1048576) :
    Calls Tryz.prog 66 #[.slice A n c, .int .i64 left] w fun e w' => e = .returned (.int .i64 (Pl.szRet left (Pl.szl Pl.szLog l))) ∧ Below w.heap.size w w' := by
  have hn : n ≤ 9223372036854775807 := by have := hl.2.1; have := hl.2.2.1; unfold maxLen at this; omega
  have hlen : Hid (l.length = n) := hl.1
  have HL := Lib.hid hl
  have HZ : Hid (Pl.szl Pl.szLog l = (n : Int) + Pl.sumI Pl.szLog l) := by show _ = _; unfold Pl.szl; rw [hlen.out]
  have HN : Hid (∀ x : Log, 0 ≤ Pl.szLog x) := Pl.szLog_nn
  have hs0 := Pl.sumI_nn HN.out l
  clear hl
  by_cases h : left - (n : Int) < 0
  · go_enter Tryz.func66, Tryz.ntmps66
    go_wp2
    go_ret
    exact ⟨ret_int (by rw [HZ.out, Pl.szRet_lt (by omega)]), Below.refl _ _⟩
  · go_enter Tryz.func66, Tryz.ntmps66
    go_wp2
    go_loopw [1, 5] (fun lf i wr => ∃ k : Nat, k ≤ n ∧ i = .int .i64 k ∧ (∃ s : Int, 0 ≤ s ∧ s ≤ left ∧ s = left - n - Pl.sumI Pl.szLog (l.take k) ∧ lf = .int .i64 s) ∧ Below w.heap.size w wr) (fun _ i _ => n - (intOf i).toNat)
    case atStart => exact ⟨0, Nat.zero_le _, rfl, ⟨_, by omega, by omega, by simp [Pl.sumI], rfl⟩, Below.refl _ _⟩
    case round =>
      obtain ⟨k, hk, rfl, ⟨s, hs1, hs2, hs3, rfl⟩, hbel⟩ := hrel
      rename_i wr _
      have HS := Lib.hid hs3
      clear hs3
      by_cases hlt : k < n
      · obtain ⟨x, b, off, A, n, c, hx, rfl, hb, f0, f1, d0, d1⟩ := rLog_get (HL.out.keep (w' := wr) (fun b hb => hbel.block b (by omega))) hlt
        have hBw : B ≤ wr.heap.size := Nat.le_trans hB hbel.size
        have hx0 := HN.out x
        have hsn : Pl.sumI Pl.szLog (l.take (k + 1)) = Pl.sumI Pl.szLog (l.take k) + Pl.szLog x := Pl.sumI_succ hx
        have hst := Pl.sumI_take HN.out l (k + 1)
        have HA := Lib.hid (And.intro hsn hst)
        clear hsn hst hx
        have HF := Lib.hid f0
        clear f0 f1
        by_cases hneg : s - Pl.szLog x < 0
        · go_wp2_with fail
          refine (szLog_c x _ _ _ _ _ B HF.out hBw (by omega) (by omega)).mono ?_
          rintro e w1 ⟨rfl, hb1⟩
          rw [Pl.szRet_lt hneg]
          go_wp2
          go_ret
          exact ⟨ret_int (by rw [HZ.out, Pl.szRet_lt (by have := HA.out.1; have := HA.out.2; have := HS.out; omega)]), below_step hbel hb1⟩
        · go_wp2_with fail
          refine (szLog_c x _ _ _ _ _ B HF.out hBw (by omega) (by omega)).mono ?_
          rintro e w1 ⟨rfl, hb1⟩
          rw [Pl.szRet_ge (by omega)]
          go_wp2
          go_roundw
          case rel => exact ⟨k + 1, by omega, by go_num, ⟨_, by omega, by omega, by have := HA.out.1; have := HS.out; omega, rfl⟩, below_step hbel hb1⟩
          case measure => simp [intOf]; omega
      · have HK : Hid (l.take k = l) := List.take_of_length_le (by have := hlen.out; omega)
        go_wp2
        go_ret
        exact ⟨ret_int (by have := HS.out; rw [HK.out] at this; rw [HZ.out, Pl.szRet_ge (by omega)]; omega), hbel⟩
set_option maxHeartbeats 1000000 in
theorem szHouse_c (x : House) (A0 : Option Addr) (n0 c0 : Nat) (A1 : Option Addr) (n1 c1 : Nat) (A2 : Option Addr) (n2 c2 : Nat) (left : Int) (w : World) (B : Nat) (g0 : Mm.SlAt rLog w B x.Logs A0 n0 c0) (g1 : Mm.SlAt rHead w B x.Heads A1 n1 c1) (g2 : Mm.SlAt rHead w B x.Kept A2 n2 c2) (hB : B ≤ w.heap.size) (h0 : 0 ≤ left) (h1 : left ≤ 1048576) :
    Calls Tryz.prog 22 #[.agg #[.slice A0 n0 c0, .slice A1 n1 c1, .slice A2 n2 c2], .int .i64 left] w fun e w' => e = .returned (.int .i64 (Pl.szRet left (Pl.szHouse x))) ∧ Below w.heap.size w w' := by
  have HK := Lib.hid (Mm.Blk.new w 43 [.slice A0 n0 c0, .slice A1 n1 c1, .slice A2 n2 c2])
  have hb0 : Below w.heap.size w (w.alloc (.cells #[.slice A0 n0 c0, .slice A1 n1 c1, .slice A2 n2 c2] 43)) := below_new (Below.refl _ _) _
  have HB0 := Lib.hid hb0
  clear hb0
  have HG := Lib.hid (And.intro hB (And.intro g0 (And.intro g1 g2)))
  clear g0 g1 g2
  have zn0 := Pl.szl_nn (f := Pl.szLog) (Pl.szLog_nn) x.Logs
  have zn1 := Pl.szl_nn (f := Pl.szHead) (Pl.szHead_nn) x.Heads
  have zn2 := Pl.szl_nn (f := Pl.szHead) (Pl.szHead_nn) x.Kept
  have hz : Pl.szHouse x = (Pl.szl Pl.szLog) x.Logs + (Pl.szl Pl.szHead) x.Heads + (Pl.szl Pl.szHead) x.Kept := rfl
  have HZ := Lib.hid hz
  clear hz
  by_cases t0 : left - (Pl.szl Pl.szLog) x.Logs < 0
  · go_enter Tryz.func22, Tryz.ntmps22
    go_wp2_with fail
    refine (szLogS_c x.Logs _ _ _ _ _ B (HG.out.2.1.keep fun b hb => HB0.out.block b (Nat.lt_of_lt_of_le hb HG.out.1)) (Nat.le_trans HG.out.1 HB0.out.size) (by omega) (by omega)).mono ?_
    rintro e w1 ⟨rfl, hb1⟩
    rw [Pl.szRet_lt (by omega)]
    have HB1 := Lib.hid (below_step HB0.out hb1)
    have HK := Lib.hid (HK.out.bel hb1)
    have p1_1 := HK.out.cell (i := 1) rfl
    have p1_2 := HK.out.cell (i := 2) rfl
    clear hb1
    go_wp2
    go_ret
    exact ⟨ret_int (by rw [HZ.out, Pl.szRet_lt (by omega)]), HB1.out⟩
  · skip
    by_cases t1 : left - (Pl.szl Pl.szLog) x.Logs - (Pl.szl Pl.szHead) x.Heads < 0
    · go_enter Tryz.func22, Tryz.ntmps22
      go_wp2_with fail
      refine (szLogS_c x.Logs _ _ _ _ _ B (HG.out.2.1.keep fun b hb => HB0.out.block b (Nat.lt_of_lt_of_le hb HG.out.1)) (Nat.le_trans HG.out.1 HB0.out.size) (by omega) (by omega)).mono ?_
      rintro e w1 ⟨rfl, hb1⟩
      rw [Pl.szRet_ge (by omega)]
      have HB1 := Lib.hid (below_step HB0.out hb1)
      have HK := Lib.hid (HK.out.bel hb1)
      have p1_1 := HK.out.cell (i := 1) rfl
      have p1_2 := HK.out.cell (i := 2) rfl
      clear hb1
      go_wp2_with fail
      refine (szHeadS_c x.Heads _ _ _ _ _ B (HG.out.2.2.1.keep fun b hb => HB1.out.block b (Nat.lt_of_lt_of_le hb HG.out.1)) (Nat.le_trans HG.out.1 HB1.out.size) (by omega) (by omega)).mono ?_
      rintro e w2 ⟨rfl, hb2⟩
      rw [Pl.szRet_lt (by omega)]
      have HB2 := Lib.hid (below_step HB1.out hb2)
      have HK := Lib.hid (HK.out.bel hb2)
      have p2_2 := HK.out.cell (i := 2) rfl
      clear hb2
      go_wp2
      go_ret
      exact ⟨ret_int (by rw [HZ.out, Pl.szRet_lt (by omega)]), HB2.out⟩
    · skip
      by_cases t2 : left - (Pl.szl Pl.szLog) x.Logs - (Pl.szl Pl.szHead) x.Heads - (Pl.szl Pl.szHead) x.Kept < 0
      · go_enter Tryz.func22, Tryz.ntmps22
        go_wp2_with fail
        refine (szLogS_c x.Logs _ _ _ _ _ B (HG.out.2.1.keep fun b hb => HB0.out.block b (Nat.lt_of_lt_of_le hb HG.out.1)) (Nat.le_trans HG.out.1 HB0.out.size) (by omega) (by omega)).mono ?_
        rintro e w1 ⟨rfl, hb1⟩
        rw [Pl.szRet_ge (by omega)]
        have HB1 := Lib.hid (below_step HB0.out hb1)
        have HK := Lib.hid (HK.out.bel hb1)
        have p1_1 := HK.out.cell (i := 1) rfl
        have p1_2 := HK.out.cell (i := 2) rfl
        clear hb1
        go_wp2_with fail
        refine (szHeadS_c x.Heads _ _ _ _ _ B (HG.out.2.2.1.keep fun b hb => HB1.out.block b (Nat.lt_of_lt_of_le hb HG.out.1)) (Nat.le_trans HG.out.1 HB1.out.size) (by omega) (by omega)).mono ?_
        rintro e w2 ⟨rfl, hb2⟩
        rw [Pl.szRet_ge (by omega)]
        have HB2 := Lib.hid (below_step HB1.out hb2)
        have HK := Lib.hid (HK.out.bel hb2)
        have p2_2 := HK.out.cell (i := 2) rfl
        clear hb2
        go_wp2_with fail
        refine (szHeadS_c x.Kept _ _ _ _ _ B (HG.out.2.2.2.keep fun b hb => HB2.out.block b (Nat.lt_of_lt_of_le hb HG.out.1)) (Nat.le_trans HG.out.1 HB2.out.size) (by omega) (by omega)).mono ?_
        rintro e w3 ⟨rfl, hb3⟩
        rw [Pl.szRet_lt (by omega)]
        have HB3 := Lib.hid (below_step HB2.out hb3)
        have HK := Lib.hid (HK.out.bel hb3)
        clear hb3
        go_wp2
        go_ret
        exact ⟨ret_int (by rw [HZ.out, Pl.szRet_lt (by omega)]), HB3.out⟩
      · go_enter Tryz.func22, Tryz.ntmps22
        go_wp2_with fail
        refine (szLogS_c x.Logs _ _ _ _ _ B (HG.out.2.1.keep fun b hb => HB0.out.block b (Nat.lt_of_lt_of_le hb HG.out.1)) (Nat.le_trans HG.out.1 HB0.out.size) (by omega) (by omega)).mono ?_
        rintro e w1 ⟨rfl, hb1⟩
        rw [Pl.szRet_ge (by omega)]
        have HB1 := Lib.hid (below_step HB0.out hb1)
        have HK := Lib.hid (HK.out.bel hb1)
        have p1_1 := HK.out.cell (i := 1) rfl
        have p1_2 := HK.out.cell (i := 2) rfl
        clear hb1
        go_wp2_with fail
        refine (szHeadS_c x.Heads _ _ _ _ _ B (HG.out.2.2.1.keep fun b hb => HB1.out.block b (Nat.lt_of_lt_of_le hb HG.out.1)) (Nat.le_trans HG.out.1 HB1.out.size) (by omega) (by omega)).mono ?_
        rintro e w2 ⟨rfl, hb2⟩
        rw [Pl.szRet_ge (by omega)]
        have HB2 := Lib.hid (below_step HB1.out hb2)
        have HK := Lib.hid (HK.out.bel hb2)
        have p2_2 := HK.out.cell (i := 2) rfl
        clear hb2
        go_wp2_with fail
        refine (szHeadS_c x.Kept _ _ _ _ _ B (HG.out.2.2.2.keep fun b hb => HB2.out.block b (Nat.lt_of_lt_of_le hb HG.out.1)) (Nat.le_trans HG.out.1 HB2.out.size) (by omega) (by omega)).mono ?_
        rintro e w3 ⟨rfl, hb3⟩
        rw [Pl.szRet_ge (by omega)]
        have HB3 := Lib.hid (below_step HB2.out hb3)
        have HK := Lib.hid (HK.out.bel hb3)
        clear hb3
        go_wp2
        go_ret
        exact ⟨ret_int (by have hh : Pl.szRet left (Pl.szHouse x) = left - Pl.szHouse x := Pl.szRet_ge (by rw [HZ.out]; omega); have h2 := HZ.out; omega), HB3.out⟩
theorem szHouse_at (x : House) (cs : List Value) (left : Int) (w : World) (B : Nat) (h : rHouse.at_ w B x cs) (hB : B ≤ w.heap.size) (h0 : 0 ≤ left) (h1 : left ≤ 1048576) :
    Calls Tryz.prog 22 #[.agg cs.toArray, .int .i64 left] w fun e w' => e = .returned (.int .i64 (Pl.szRet left (Pl.szHouse x))) ∧ Below w.heap.size w w' := by
  obtain ⟨A0, n0, c0, A1, n1, c1, A2, n2, c2, rfl, g0, g1, g2⟩ := rHouse_at h
  exact szHouse_c x _ _ _ _ _ _ _ _ _ left _ B g0 g1 g2 hB h0 h1
end Go.Proofs.YtbhmdnjammnlnaaGreatDoor

