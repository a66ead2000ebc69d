/-
  Joined texts, in build order: C4, Wg, C5, C6, C7. Each part says what it proves; no conditions beyond those that a part names.
-/
import Derived.Test.YtpmeagchkcffoaaZ01
import Derived.Test.YtpmeagchkcffoaaZ02
import Derived.Test.YtpmeagchkcffoaaZ03
import Derived.Test.YtpmeagchkcffoaaZ05
import Derived.Lib.Hide
import Derived.Deep.LoopGhost
import Derived.Deep.DeepFit
/-
  Contracts: the reference's bank by value: one step (WayAt, l12Step). No conditions beyond those named.
-/
namespace Go.Proofs.Ytpmeagchkcffoaa
open Go.RowKit
attribute [local go_sem] und_cell cha_cell World.cell?_alloc_some
theorem unboxB2 {F : List Nat} {w0 w : World} {x a0 a1 a2 a3 a4 y z : Mm.Thing} {rest : List Mm.Thing} (h : Mm.SepF F w0 w (x :: a0 :: a1 :: a2 :: a3 :: a4 :: y :: z :: rest)) : Mm.SepF F w0 w (a0 :: a1 :: a2 :: a3 :: a4 :: rest) :=
  ((unboxB h).permE (List.perm_middle (l₁ := [a0, a1, a2, a3, a4]) (a := z) (l₂ := rest)).symm).tail
theorem unboxB3 {F : List Nat} {w0 w : World} {x a0 a1 a2 a3 a4 y z : Mm.Thing} {rest : List Mm.Thing} (h : Mm.SepF F w0 w (a0 :: a1 :: a2 :: a3 :: a4 :: x :: y :: z :: rest)) : Mm.SepF F w0 w (a0 :: a1 :: a2 :: a3 :: a4 :: rest) :=
  unboxB2 (boxF h)
theorem wayAt_c (n : Nat) (fr tw : Int) (w : World) (h : 1 ≤ n ∧ n ≤ 5) :
    Calls Try.prog 54 #[.int .i64 n, .int .i64 fr, .int .i64 tw] w fun e w' => e = .returned (.tuple #[.int .i64 (if 0 ≤ fr ∧ fr < n ∧ 0 ≤ tw ∧ tw < n ∧ fr ≠ tw then fr * n + tw else 0), .bool (decide (0 ≤ fr ∧ fr < n ∧ 0 ≤ tw ∧ tw < n ∧ fr ≠ tw))]) ∧ w = w' := by
  obtain ⟨n', hn'⟩ : ∃ n', n = n' + 1 := ⟨n - 1, by omega⟩
  have m0 : IntKind.i64.wrap ((n : Int) - 1) = (n' : Nat) := by rw [IntWalk.i64_in _ (by omega)]; omega
  have CN := l1In_c n 1 5 w
  rw [show Pl.isIn (n : Nat) 1 5 = true by unfold Pl.isIn; simp; omega] at CN
  have CA := l1In_c fr 0 (n' : Nat) w
  have CB := l1In_c tw 0 (n' : Nat) w
  have HN' := Lib.hid hn'
  have H15 := Lib.hid h
  clear hn' h
  obtain ⟨v, hv⟩ : ∃ v, (if 0 ≤ fr ∧ fr < n ∧ 0 ≤ tw ∧ tw < n ∧ fr ≠ tw then fr * (n : Int) + tw else 0) = v := ⟨_, rfl⟩
  obtain ⟨ok, hok⟩ : ∃ ok, (decide (0 ≤ fr ∧ fr < n ∧ 0 ≤ tw ∧ tw < n ∧ fr ≠ tw)) = ok := ⟨_, rfl⟩
  rw [hv, hok]
  have HV := Lib.hid hv
  have HOK := Lib.hid hok
  clear hv hok
  by_cases hF : 0 ≤ fr ∧ fr < n
  rotate_left
  · have H1 : Hid (v = 0 ∧ ok = false) := Lib.hid ⟨by rw [← HV.out]; exact if_neg (fun hh => hF ⟨hh.1, hh.2.1⟩), by rw [← HOK.out]; exact decide_eq_false (fun hh => hF ⟨hh.1, hh.2.1⟩)⟩
    rw [show Pl.isIn fr 0 (n' : Nat) = false by unfold Pl.isIn; have := HN'.out; simp; omega] at CA
    clear hF CB
    go_enter Try.func54, Try.ntmps54
    go_wp2_with first
      | (go_at_call 51; (with_reducible refine CN.mono ?_); clear CN; rintro e w3 ⟨rfl, rfl⟩)
      | (go_at_call 51; (with_reducible refine CA.mono ?_); clear CA; rintro e w3 ⟨rfl, rfl⟩)
    go_ret2
    exact ⟨by rw [H1.out.1, H1.out.2]; rfl, rfl⟩
  by_cases hT : 0 ≤ tw ∧ tw < n
  rotate_left
  · have H1 : Hid (v = 0 ∧ ok = false) := Lib.hid ⟨by rw [← HV.out]; exact if_neg (fun hh => hT ⟨hh.2.2.1, hh.2.2.2.1⟩), by rw [← HOK.out]; exact decide_eq_false (fun hh => hT ⟨hh.2.2.1, hh.2.2.2.1⟩)⟩
    rw [show Pl.isIn fr 0 (n' : Nat) = true by unfold Pl.isIn; have := HN'.out; simp; omega] at CA
    rw [show Pl.isIn tw 0 (n' : Nat) = false by unfold Pl.isIn; have := HN'.out; simp; omega] at CB
    clear hF hT
    go_enter Try.func54, Try.ntmps54
    go_wp2_with first
      | (go_at_call 51; (with_reducible refine CN.mono ?_); clear CN; rintro e w3 ⟨rfl, rfl⟩)
      | (go_at_call 51; (with_reducible refine CA.mono ?_); clear CA; rintro e w3 ⟨rfl, rfl⟩)
      | (go_at_call 51; (with_reducible refine CB.mono ?_); clear CB; rintro e w3 ⟨rfl, rfl⟩)
    go_ret2
    exact ⟨by rw [H1.out.1, H1.out.2]; rfl, rfl⟩
  rw [show Pl.isIn fr 0 (n' : Nat) = true by unfold Pl.isIn; have := HN'.out; simp; omega] at CA
  rw [show Pl.isIn tw 0 (n' : Nat) = true by unfold Pl.isIn; have := HN'.out; simp; omega] at CB
  by_cases hE : fr = tw
  · have H1 : Hid (v = 0 ∧ ok = false) := Lib.hid ⟨by rw [← HV.out]; exact if_neg (fun hh => hh.2.2.2.2 hE), by rw [← HOK.out]; exact decide_eq_false (fun hh => hh.2.2.2.2 hE)⟩
    have q1 : (fr == tw) = true := by simp [hE]
    clear hF hT hE
    go_enter Try.func54, Try.ntmps54
    go_wp2_with first
      | (go_at_call 51; (with_reducible refine CN.mono ?_); clear CN; rintro e w3 ⟨rfl, rfl⟩)
      | (go_at_call 51; (with_reducible refine CA.mono ?_); clear CA; rintro e w3 ⟨rfl, rfl⟩)
      | (go_at_call 51; (with_reducible refine CB.mono ?_); clear CB; rintro e w3 ⟨rfl, rfl⟩)
    go_ret2
    exact ⟨by rw [H1.out.1, H1.out.2]; rfl, rfl⟩
  obtain ⟨f, rfl⟩ : ∃ f : Nat, fr = f := ⟨fr.toNat, by omega⟩
  obtain ⟨t, rfl⟩ : ∃ t : Nat, tw = t := ⟨tw.toNat, by omega⟩
  have hf : f < n := by omega
  have ht : t < n := by omega
  obtain ⟨p0, hp0⟩ : ∃ p, f * n = p := ⟨_, rfl⟩
  obtain ⟨p, hp⟩ : ∃ p, p0 + t = p := ⟨_, rfl⟩
  have hpn : p < n * n := by rw [← hp, ← hp0]; exact sq_lt hf ht
  have hn25 := sq_le H15.out.2
  have m1 : IntKind.i64.wrap ((f : Int) * (n : Nat)) = (p0 : Nat) := by
    rw [show (f : Int) * (n : Nat) = ((f * n : Nat) : Int) by push_cast; rfl, hp0]
    exact IntWalk.i64_in _ (by omega)
  have m2 : IntKind.i64.wrap ((p0 : Int) + (t : Nat)) = (p : Nat) := by
    rw [show (p0 : Int) + (t : Nat) = ((p0 + t : Nat) : Int) by push_cast; rfl, hp]
    exact IntWalk.i64_in _ (by omega)
  have H1 : Hid (v = (p : Nat) ∧ ok = true) := Lib.hid ⟨by rw [← HV.out, if_pos ⟨hF.1, hF.2, hT.1, hT.2, hE⟩, show (f : Int) * (n : Nat) = ((f * n : Nat) : Int) by push_cast; rfl, hp0]; omega, by rw [← HOK.out]; exact decide_eq_true ⟨hF.1, hF.2, hT.1, hT.2, hE⟩⟩
  have q1 : ((f : Int) == (t : Nat)) = false := by simp; omega
  clear hF hT hE hp0 hp hpn hf ht
  go_enter Try.func54, Try.ntmps54
  go_wp2_with first
    | (go_at_call 51; (with_reducible refine CN.mono ?_); clear CN; rintro e w3 ⟨rfl, rfl⟩)
    | (go_at_call 51; (with_reducible refine CA.mono ?_); clear CA; rintro e w3 ⟨rfl, rfl⟩)
    | (go_at_call 51; (with_reducible refine CB.mono ?_); clear CB; rintro e w3 ⟨rfl, rfl⟩)
  go_ret2
  exact ⟨by rw [H1.out.1, H1.out.2]; rfl, rfl⟩
set_option maxRecDepth 100000 in
set_option maxHeartbeats 4000000 in
theorem l12Step_c (b : Bank) (s : SnapStep) (q n : Nat) (cs : List Value) (F : List Nat) (w0 w : World) (rest : List Mm.Thing) (hV : BankV F w0 w n b cs rest) (hI : Pl.BI q b) (hn : b.Coins.length = n) (hq : q ≤ 900) (hs1 : Mm.I64 s.Kind ∧ Mm.I64 s.From ∧ Mm.I64 s.To ∧ Mm.I64 s.Many) :
    Calls Try.prog 29 #[.agg cs.toArray, .agg #[.int .i64 s.Kind, .int .i64 s.From, .int .i64 s.To, .int .i64 s.Many]] w fun e w' => ∃ cs', e = .returned (.tuple #[.agg cs'.toArray, .bool (Pl.bstep b s).2]) ∧ BankV F w0 w' n (Pl.bstep b s).1 cs' rest := by
  obtain ⟨kd, fr, tw, mn⟩ := s
  dsimp only at hs1 ⊢
  obtain ⟨g0, g1, g2, g3, g4, c0, c1, c2, c3, c4, f0, f1, f2, f3, f4, rfl, hs⟩ := hV
  obtain ⟨ga, hga⟩ : ∃ g, w.heap.size = g := ⟨_, rfl⟩
  obtain ⟨gs, hgs⟩ : ∃ g, ga + 1 = g := ⟨_, rfl⟩
  obtain ⟨gc, hgc⟩ : ∃ g, gs + 1 = g := ⟨_, rfl⟩
  obtain ⟨W0, hW0⟩ : ∃ W, ((w.alloc (.cells #[.slice (some ⟨g0, 0, none⟩) n c0, .slice (some ⟨g1, 0, none⟩) (n * n) c1, .slice (some ⟨g2, 0, none⟩) n c2, .slice (some ⟨g3, 0, none⟩) n c3, .slice (some ⟨g4, 0, none⟩) n c4] 28)).alloc (.cells #[.int .i64 kd, .int .i64 fr, .int .i64 tw, .int .i64 mn] 53)).alloc (.cells #[.slice none 0 0, .slice none 0 0, .slice none 0 0, .slice none 0 0, .slice none 0 0] 28) = W := ⟨_, rfl⟩
  have HS := Lib.hid ((((((hs.alloc' hga 28 [.slice (some ⟨g0, 0, none⟩) n c0, .slice (some ⟨g1, 0, none⟩) (n * n) c1, .slice (some ⟨g2, 0, none⟩) n c2, .slice (some ⟨g3, 0, none⟩) n c3, .slice (some ⟨g4, 0, none⟩) n c4]).alloc' (g := gs) (by rw [Mm.sz1, hga, hgs]) 53 [.int .i64 kd, .int .i64 fr, .int .i64 tw, .int .i64 mn]).permE (List.perm_middle (l₁ := [_, _, _, _, _, _]))).alloc' (g := gc) (by rw [Mm.sz2, hga]; omega) 28 zBk).permE (List.perm_middle (l₁ := [_, _, _, _, _, _]))).atW hW0)
  have HI := Lib.hid hI
  have HN := Lib.hid hn
  have hn5 : n ≤ 5 := by rw [← hn]; exact hI.n5
  have hn1 : 1 ≤ n := by rw [← hn]; exact hI.n1
  obtain ⟨n', hn'⟩ : ∃ n', n = n' + 1 := ⟨n - 1, by omega⟩
  have m0 : IntKind.i64.wrap ((n : Int) - 1) = (n' : Nat) := by rw [IntWalk.i64_in _ (by omega)]; omega
  have HMI : Hid (Mm.I64 mn) := Lib.hid hs1.2.2.2
  have HN' := Lib.hid hn'
  clear hs hI hn hn' hs1
  have b0 := HS.out.cell (k := 0) 0 rfl rfl
  have s0 := HS.out.cell (k := 0) 7 rfl rfl
  have s1 := HS.out.cell (k := 1) 7 rfl rfl
  have s2 := HS.out.cell (k := 2) 7 rfl rfl
  have s3 := HS.out.cell (k := 3) 7 rfl rfl
  go_enter Try.func29, Try.ntmps29
  go_upto_region 1 with fail
  clear hW0 hga hgs hgc
  by_cases hk3 : kd = 3
  · subst hk3
    have HB3 : Hid (Pl.bstep b ⟨3, fr, tw, mn⟩ = if 0 ≤ fr ∧ fr < n ∧ Pl.keptAt b fr.toNat < 0 ∧ tw = 0 ∧ mn = 0 then (Pl.brec b fr.toNat, true) else (b, false)) := Lib.hid (by
      unfold Pl.bstep
      dsimp only
      rw [HN.out]
      by_cases h1 : 0 ≤ fr ∧ fr < n ∧ 0 ≤ tw ∧ tw < n
      · rw [if_neg (by simpa using h1), if_neg (by decide), if_neg (by decide), if_pos rfl]
        by_cases h2 : Pl.keptAt b fr.toNat < 0 ∧ tw = 0 ∧ mn = 0
        · rw [if_pos h2, if_pos ⟨h1.1, h1.2.1, h2⟩]
        · rw [if_neg h2, if_neg (fun hh => h2 hh.2.2)]
      · rw [if_pos h1, if_neg (fun hh => h1 ⟨hh.1, hh.2.1, by omega, by omega⟩)])
    go_upto_region 3 with fail
    by_cases ht0 : tw = 0
    rotate_left
    · as_aux_lemma =>
      have HF : Hid (Pl.bstep b ⟨3, fr, tw, mn⟩ = (b, false)) := Lib.hid (by rw [HB3.out]; exact if_neg (fun hh => ht0 hh.2.2.2.1))
      have q1 : (tw != 0) = true := by simp [ht0]
      clear ht0
      go_upto_region 4 with fail
      clear b0 s0 s1 s2 s3
      have z0 := HS.out.frz (k := 0) 6 rfl
      have z1 := HS.out.frz (k := 1) 6 rfl
      have z2 := HS.out.frz (k := 2) 6 rfl
      have z3 := HS.out.frz (k := 3) 6 rfl
      have z4 := HS.out.frz (k := 4) 6 rfl
      have r0 := HS.out.cell (k := 0) 6 rfl rfl
      have r1 := HS.out.cell (k := 1) 6 rfl rfl
      have r2 := HS.out.cell (k := 2) 6 rfl rfl
      have r3 := HS.out.cell (k := 3) 6 rfl rfl
      have r4 := HS.out.cell (k := 4) 6 rfl rfl
      have b0 := HS.out.cell (k := 0) 0 rfl rfl
      have b1 := HS.out.cell (k := 1) 0 rfl rfl
      have b2 := HS.out.cell (k := 2) 0 rfl rfl
      have b3 := HS.out.cell (k := 3) 0 rfl rfl
      have b4 := HS.out.cell (k := 4) 0 rfl rfl
      obtain ⟨WF, hWF⟩ : ∃ WQ : World, (((((W0.setCell ⟨gc, 0, none⟩ (.slice (some ⟨g0, 0, none⟩) n c0)).setCell ⟨gc, 1, none⟩ (.slice (some ⟨g1, 0, none⟩) (n * n) c1)).setCell ⟨gc, 2, none⟩ (.slice (some ⟨g2, 0, none⟩) n c2)).setCell ⟨gc, 3, none⟩ (.slice (some ⟨g3, 0, none⟩) n c3)).setCell ⟨gc, 4, none⟩ (.slice (some ⟨g4, 0, none⟩) n c4)) = WQ := ⟨_, rfl⟩
      have HSF := Lib.hid ((((((HS.out.setBlk (k := 0) 6 rfl (.slice (some ⟨g0, 0, none⟩) n c0)).setBlk (k := 1) 6 rfl (.slice (some ⟨g1, 0, none⟩) (n * n) c1)).setBlk (k := 2) 6 rfl (.slice (some ⟨g2, 0, none⟩) n c2)).setBlk (k := 3) 6 rfl (.slice (some ⟨g3, 0, none⟩) n c3)).setBlk (k := 4) 6 rfl (.slice (some ⟨g4, 0, none⟩) n c4)).atW hWF)
      have u0 := HSF.out.cell (k := 0) 6 rfl rfl
      have u1 := HSF.out.cell (k := 1) 6 rfl rfl
      have u2 := HSF.out.cell (k := 2) 6 rfl rfl
      have u3 := HSF.out.cell (k := 3) 6 rfl rfl
      have u4 := HSF.out.cell (k := 4) 6 rfl rfl
      go_wp2
      exact bodyPost_ret (v := .tuple #[.agg #[.slice (some ⟨g0, 0, none⟩) n c0, .slice (some ⟨g1, 0, none⟩) (n * n) c1, .slice (some ⟨g2, 0, none⟩) n c2, .slice (some ⟨g3, 0, none⟩) n c3, .slice (some ⟨g4, 0, none⟩) n c4], .bool false]) (by simp [results, Try.results29, go_sem, u0, u1, u2, u3, u4]) rfl ⟨[.slice (some ⟨g0, 0, none⟩) n c0, .slice (some ⟨g1, 0, none⟩) (n * n) c1, .slice (some ⟨g2, 0, none⟩) n c2, .slice (some ⟨g3, 0, none⟩) n c3, .slice (some ⟨g4, 0, none⟩) n c4], by rw [HF.out], by rw [HF.out]; exact ⟨g0, g1, g2, g3, g4, c0, c1, c2, c3, c4, _, _, _, _, _, rfl, unboxB2 HSF.out⟩⟩
    have q1 : (tw != 0) = false := by simp [ht0]
    by_cases hm : mn = 0
    rotate_left
    · as_aux_lemma =>
      have HF : Hid (Pl.bstep b ⟨3, fr, tw, mn⟩ = (b, false)) := Lib.hid (by rw [HB3.out]; exact if_neg (fun hh => hm hh.2.2.2.2))
      have q2 : (mn != 0) = true := by simp [hm]
      clear hm ht0
      go_upto_region 4 with fail
      clear b0 s0 s1 s2 s3
      have z0 := HS.out.frz (k := 0) 6 rfl
      have z1 := HS.out.frz (k := 1) 6 rfl
      have z2 := HS.out.frz (k := 2) 6 rfl
      have z3 := HS.out.frz (k := 3) 6 rfl
      have z4 := HS.out.frz (k := 4) 6 rfl
      have r0 := HS.out.cell (k := 0) 6 rfl rfl
      have r1 := HS.out.cell (k := 1) 6 rfl rfl
      have r2 := HS.out.cell (k := 2) 6 rfl rfl
      have r3 := HS.out.cell (k := 3) 6 rfl rfl
      have r4 := HS.out.cell (k := 4) 6 rfl rfl
      have b0 := HS.out.cell (k := 0) 0 rfl rfl
      have b1 := HS.out.cell (k := 1) 0 rfl rfl
      have b2 := HS.out.cell (k := 2) 0 rfl rfl
      have b3 := HS.out.cell (k := 3) 0 rfl rfl
      have b4 := HS.out.cell (k := 4) 0 rfl rfl
      obtain ⟨WF, hWF⟩ : ∃ WQ : World, (((((W0.setCell ⟨gc, 0, none⟩ (.slice (some ⟨g0, 0, none⟩) n c0)).setCell ⟨gc, 1, none⟩ (.slice (some ⟨g1, 0, none⟩) (n * n) c1)).setCell ⟨gc, 2, none⟩ (.slice (some ⟨g2, 0, none⟩) n c2)).setCell ⟨gc, 3, none⟩ (.slice (some ⟨g3, 0, none⟩) n c3)).setCell ⟨gc, 4, none⟩ (.slice (some ⟨g4, 0, none⟩) n c4)) = WQ := ⟨_, rfl⟩
      have HSF := Lib.hid ((((((HS.out.setBlk (k := 0) 6 rfl (.slice (some ⟨g0, 0, none⟩) n c0)).setBlk (k := 1) 6 rfl (.slice (some ⟨g1, 0, none⟩) (n * n) c1)).setBlk (k := 2) 6 rfl (.slice (some ⟨g2, 0, none⟩) n c2)).setBlk (k := 3) 6 rfl (.slice (some ⟨g3, 0, none⟩) n c3)).setBlk (k := 4) 6 rfl (.slice (some ⟨g4, 0, none⟩) n c4)).atW hWF)
      have u0 := HSF.out.cell (k := 0) 6 rfl rfl
      have u1 := HSF.out.cell (k := 1) 6 rfl rfl
      have u2 := HSF.out.cell (k := 2) 6 rfl rfl
      have u3 := HSF.out.cell (k := 3) 6 rfl rfl
      have u4 := HSF.out.cell (k := 4) 6 rfl rfl
      go_wp2
      exact bodyPost_ret (v := .tuple #[.agg #[.slice (some ⟨g0, 0, none⟩) n c0, .slice (some ⟨g1, 0, none⟩) (n * n) c1, .slice (some ⟨g2, 0, none⟩) n c2, .slice (some ⟨g3, 0, none⟩) n c3, .slice (some ⟨g4, 0, none⟩) n c4], .bool false]) (by simp [results, Try.results29, go_sem, u0, u1, u2, u3, u4]) rfl ⟨[.slice (some ⟨g0, 0, none⟩) n c0, .slice (some ⟨g1, 0, none⟩) (n * n) c1, .slice (some ⟨g2, 0, none⟩) n c2, .slice (some ⟨g3, 0, none⟩) n c3, .slice (some ⟨g4, 0, none⟩) n c4], by rw [HF.out], by rw [HF.out]; exact ⟨g0, g1, g2, g3, g4, c0, c1, c2, c3, c4, _, _, _, _, _, rfl, unboxB2 HSF.out⟩⟩
    have q2 : (mn != 0) = false := by simp [hm]
    have CA := l1In_c fr 0 (n' : Nat) W0
    by_cases hF : 0 ≤ fr ∧ fr < n
    rotate_left
    · as_aux_lemma =>
      have HF : Hid (Pl.bstep b ⟨3, fr, tw, mn⟩ = (b, false)) := Lib.hid (by rw [HB3.out]; exact if_neg (fun hh => hF ⟨hh.1, hh.2.1⟩))
      rw [show Pl.isIn fr 0 (n' : Nat) = false by unfold Pl.isIn; have := HN'.out; simp; omega] at CA
      clear hm ht0 hF
      go_upto_region 4 with (go_at_call 51; (with_reducible refine CA.mono ?_); clear CA; rintro e w3 ⟨rfl, rfl⟩)
      clear b0 s0 s1 s2 s3
      have z0 := HS.out.frz (k := 0) 6 rfl
      have z1 := HS.out.frz (k := 1) 6 rfl
      have z2 := HS.out.frz (k := 2) 6 rfl
      have z3 := HS.out.frz (k := 3) 6 rfl
      have z4 := HS.out.frz (k := 4) 6 rfl
      have r0 := HS.out.cell (k := 0) 6 rfl rfl
      have r1 := HS.out.cell (k := 1) 6 rfl rfl
      have r2 := HS.out.cell (k := 2) 6 rfl rfl
      have r3 := HS.out.cell (k := 3) 6 rfl rfl
      have r4 := HS.out.cell (k := 4) 6 rfl rfl
      have b0 := HS.out.cell (k := 0) 0 rfl rfl
      have b1 := HS.out.cell (k := 1) 0 rfl rfl
      have b2 := HS.out.cell (k := 2) 0 rfl rfl
      have b3 := HS.out.cell (k := 3) 0 rfl rfl
      have b4 := HS.out.cell (k := 4) 0 rfl rfl
      obtain ⟨WF, hWF⟩ : ∃ WQ : World, (((((W0.setCell ⟨gc, 0, none⟩ (.slice (some ⟨g0, 0, none⟩) n c0)).setCell ⟨gc, 1, none⟩ (.slice (some ⟨g1, 0, none⟩) (n * n) c1)).setCell ⟨gc, 2, none⟩ (.slice (some ⟨g2, 0, none⟩) n c2)).setCell ⟨gc, 3, none⟩ (.slice (some ⟨g3, 0, none⟩) n c3)).setCell ⟨gc, 4, none⟩ (.slice (some ⟨g4, 0, none⟩) n c4)) = WQ := ⟨_, rfl⟩
      have HSF := Lib.hid ((((((HS.out.setBlk (k := 0) 6 rfl (.slice (some ⟨g0, 0, none⟩) n c0)).setBlk (k := 1) 6 rfl (.slice (some ⟨g1, 0, none⟩) (n * n) c1)).setBlk (k := 2) 6 rfl (.slice (some ⟨g2, 0, none⟩) n c2)).setBlk (k := 3) 6 rfl (.slice (some ⟨g3, 0, none⟩) n c3)).setBlk (k := 4) 6 rfl (.slice (some ⟨g4, 0, none⟩) n c4)).atW hWF)
      have u0 := HSF.out.cell (k := 0) 6 rfl rfl
      have u1 := HSF.out.cell (k := 1) 6 rfl rfl
      have u2 := HSF.out.cell (k := 2) 6 rfl rfl
      have u3 := HSF.out.cell (k := 3) 6 rfl rfl
      have u4 := HSF.out.cell (k := 4) 6 rfl rfl
      go_wp2
      exact bodyPost_ret (v := .tuple #[.agg #[.slice (some ⟨g0, 0, none⟩) n c0, .slice (some ⟨g1, 0, none⟩) (n * n) c1, .slice (some ⟨g2, 0, none⟩) n c2, .slice (some ⟨g3, 0, none⟩) n c3, .slice (some ⟨g4, 0, none⟩) n c4], .bool false]) (by simp [results, Try.results29, go_sem, u0, u1, u2, u3, u4]) rfl ⟨[.slice (some ⟨g0, 0, none⟩) n c0, .slice (some ⟨g1, 0, none⟩) (n * n) c1, .slice (some ⟨g2, 0, none⟩) n c2, .slice (some ⟨g3, 0, none⟩) n c3, .slice (some ⟨g4, 0, none⟩) n c4], by rw [HF.out], by rw [HF.out]; exact ⟨g0, g1, g2, g3, g4, c0, c1, c2, c3, c4, _, _, _, _, _, rfl, unboxB2 HSF.out⟩⟩
    rw [show Pl.isIn fr 0 (n' : Nat) = true by unfold Pl.isIn; have := HN'.out; simp; omega] at CA
    obtain ⟨f, rfl⟩ : ∃ f : Nat, fr = f := ⟨fr.toNat, by omega⟩
    have hf : f < n := by omega
    rw [show ((f : Nat) : Int).toNat = f by omega] at HB3
    obtain ⟨kv, hkv⟩ : ∃ kv, b.Kept[f]? = some kv := ⟨_, List.getElem?_eq_getElem (by rw [HI.out.ke]; have := HN.out; omega)⟩
    have HKV := Lib.hid hkv
    have HKA := Lib.hid (Pl.keptAt_of hkv)
    have b2 := HS.out.cell (k := 2) 0 rfl rfl
    have d2 := int_ocell (HS.out.sl 3 rfl) (HS.out.ndat (i := 3) rfl) HKV.out
    have ff1 : (0 : Int) ≤ (f : Nat) := by omega
    have ff2 : ((f : Nat) : Int).toNat = f := by omega
    have ff3 : (f : Int) < (n : Nat) := by omega
    clear hkv
    by_cases hk0 : 0 ≤ kv
    · as_aux_lemma =>
      have HF : Hid (Pl.bstep b ⟨3, (f : Nat), tw, mn⟩ = (b, false)) := Lib.hid (by rw [HB3.out]; exact if_neg (fun hh => by have := hh.2.2.1; rw [HKA.out] at this; omega))
      have q3 : decide (0 ≤ kv) = true := by simp [hk0]
      clear hm ht0 hF
      go_upto_region 4 with (go_at_call 51; (with_reducible refine CA.mono ?_); clear CA; rintro e w3 ⟨rfl, rfl⟩)
      clear b0 s0 s1 s2 s3 b2 d2
      have z0 := HS.out.frz (k := 0) 6 rfl
      have z1 := HS.out.frz (k := 1) 6 rfl
      have z2 := HS.out.frz (k := 2) 6 rfl
      have z3 := HS.out.frz (k := 3) 6 rfl
      have z4 := HS.out.frz (k := 4) 6 rfl
      have r0 := HS.out.cell (k := 0) 6 rfl rfl
      have r1 := HS.out.cell (k := 1) 6 rfl rfl
      have r2 := HS.out.cell (k := 2) 6 rfl rfl
      have r3 := HS.out.cell (k := 3) 6 rfl rfl
      have r4 := HS.out.cell (k := 4) 6 rfl rfl
      have b0 := HS.out.cell (k := 0) 0 rfl rfl
      have b1 := HS.out.cell (k := 1) 0 rfl rfl
      have b2 := HS.out.cell (k := 2) 0 rfl rfl
      have b3 := HS.out.cell (k := 3) 0 rfl rfl
      have b4 := HS.out.cell (k := 4) 0 rfl rfl
      obtain ⟨WF, hWF⟩ : ∃ WQ : World, (((((W0.setCell ⟨gc, 0, none⟩ (.slice (some ⟨g0, 0, none⟩) n c0)).setCell ⟨gc, 1, none⟩ (.slice (some ⟨g1, 0, none⟩) (n * n) c1)).setCell ⟨gc, 2, none⟩ (.slice (some ⟨g2, 0, none⟩) n c2)).setCell ⟨gc, 3, none⟩ (.slice (some ⟨g3, 0, none⟩) n c3)).setCell ⟨gc, 4, none⟩ (.slice (some ⟨g4, 0, none⟩) n c4)) = WQ := ⟨_, rfl⟩
      have HSF := Lib.hid ((((((HS.out.setBlk (k := 0) 6 rfl (.slice (some ⟨g0, 0, none⟩) n c0)).setBlk (k := 1) 6 rfl (.slice (some ⟨g1, 0, none⟩) (n * n) c1)).setBlk (k := 2) 6 rfl (.slice (some ⟨g2, 0, none⟩) n c2)).setBlk (k := 3) 6 rfl (.slice (some ⟨g3, 0, none⟩) n c3)).setBlk (k := 4) 6 rfl (.slice (some ⟨g4, 0, none⟩) n c4)).atW hWF)
      have u0 := HSF.out.cell (k := 0) 6 rfl rfl
      have u1 := HSF.out.cell (k := 1) 6 rfl rfl
      have u2 := HSF.out.cell (k := 2) 6 rfl rfl
      have u3 := HSF.out.cell (k := 3) 6 rfl rfl
      have u4 := HSF.out.cell (k := 4) 6 rfl rfl
      go_wp2
      exact bodyPost_ret (v := .tuple #[.agg #[.slice (some ⟨g0, 0, none⟩) n c0, .slice (some ⟨g1, 0, none⟩) (n * n) c1, .slice (some ⟨g2, 0, none⟩) n c2, .slice (some ⟨g3, 0, none⟩) n c3, .slice (some ⟨g4, 0, none⟩) n c4], .bool false]) (by simp [results, Try.results29, go_sem, u0, u1, u2, u3, u4]) rfl ⟨[.slice (some ⟨g0, 0, none⟩) n c0, .slice (some ⟨g1, 0, none⟩) (n * n) c1, .slice (some ⟨g2, 0, none⟩) n c2, .slice (some ⟨g3, 0, none⟩) n c3, .slice (some ⟨g4, 0, none⟩) n c4], by rw [HF.out], by rw [HF.out]; exact ⟨g0, g1, g2, g3, g4, c0, c1, c2, c3, c4, _, _, _, _, _, rfl, unboxB2 HSF.out⟩⟩
    · as_aux_lemma =>
      have HF : Hid (Pl.bstep b ⟨3, (f : Nat), tw, mn⟩ = (Pl.brec b f, true)) := Lib.hid (by rw [HB3.out]; exact if_pos ⟨hF.1, hF.2, by rw [HKA.out]; omega, ht0, hm⟩)
      have q3 : decide (0 ≤ kv) = false := by simp; omega
      clear hm ht0 hF
      go_upto_region 5 with (go_at_call 51; (with_reducible refine CA.mono ?_); clear CA; rintro e w3 ⟨rfl, rfl⟩)
      clear b0 s0 s2 s3 b2 d2
      have CR := l12Picture_c b q n f _ F w0 W0 _ (boxV (gb := ga) HS.out) HI.out HN.out hf hq
      have b0 := HS.out.cell (k := 0) 0 rfl rfl
      have b1 := HS.out.cell (k := 1) 0 rfl rfl
      have b2 := HS.out.cell (k := 2) 0 rfl rfl
      have b3 := HS.out.cell (k := 3) 0 rfl rfl
      have b4 := HS.out.cell (k := 4) 0 rfl rfl
      go_wp2_with (go_at_call 53; (with_reducible refine CR.mono ?_); clear CR; rintro e w3 ⟨cs', rfl, h0, h1, h2, h3, h4, e0, e1, e2, e3, e4, k0, k1, k2, k3, k4, rfl, hs⟩; (have KS := Lib.hid hs); clear hs; clear b0 b1 b2 b3 b4 s1; (have z0 := KS.out.frz (k := 0) 6 rfl); (have z1 := KS.out.frz (k := 1) 6 rfl); (have z2 := KS.out.frz (k := 2) 6 rfl); (have z3 := KS.out.frz (k := 3) 6 rfl); (have z4 := KS.out.frz (k := 4) 6 rfl); (have r0 := KS.out.cell (k := 0) 6 rfl rfl); (have r1 := KS.out.cell (k := 1) 6 rfl rfl); (have r2 := KS.out.cell (k := 2) 6 rfl rfl); (have r3 := KS.out.cell (k := 3) 6 rfl rfl); (have r4 := KS.out.cell (k := 4) 6 rfl rfl); (obtain ⟨WF, hWF⟩ : ∃ WQ : World, (((((w3.setCell ⟨gc, 0, none⟩ (.slice (some ⟨h0, 0, none⟩) n e0)).setCell ⟨gc, 1, none⟩ (.slice (some ⟨h1, 0, none⟩) (n * n) e1)).setCell ⟨gc, 2, none⟩ (.slice (some ⟨h2, 0, none⟩) n e2)).setCell ⟨gc, 3, none⟩ (.slice (some ⟨h3, 0, none⟩) n e3)).setCell ⟨gc, 4, none⟩ (.slice (some ⟨h4, 0, none⟩) n e4)) = WQ := ⟨_, rfl⟩); (have HSF := Lib.hid ((((((KS.out.setBlk (k := 0) 6 rfl (.slice (some ⟨h0, 0, none⟩) n e0)).setBlk (k := 1) 6 rfl (.slice (some ⟨h1, 0, none⟩) (n * n) e1)).setBlk (k := 2) 6 rfl (.slice (some ⟨h2, 0, none⟩) n e2)).setBlk (k := 3) 6 rfl (.slice (some ⟨h3, 0, none⟩) n e3)).setBlk (k := 4) 6 rfl (.slice (some ⟨h4, 0, none⟩) n e4)).atW hWF)); (have u0 := HSF.out.cell (k := 0) 6 rfl rfl); (have u1 := HSF.out.cell (k := 1) 6 rfl rfl); (have u2 := HSF.out.cell (k := 2) 6 rfl rfl); (have u3 := HSF.out.cell (k := 3) 6 rfl rfl); (have u4 := HSF.out.cell (k := 4) 6 rfl rfl))
      exact bodyPost_ret (v := .tuple #[.agg #[.slice (some ⟨h0, 0, none⟩) n e0, .slice (some ⟨h1, 0, none⟩) (n * n) e1, .slice (some ⟨h2, 0, none⟩) n e2, .slice (some ⟨h3, 0, none⟩) n e3, .slice (some ⟨h4, 0, none⟩) n e4], .bool true]) (by simp [results, Try.results29, go_sem, u0, u1, u2, u3, u4]) rfl ⟨[.slice (some ⟨h0, 0, none⟩) n e0, .slice (some ⟨h1, 0, none⟩) (n * n) e1, .slice (some ⟨h2, 0, none⟩) n e2, .slice (some ⟨h3, 0, none⟩) n e3, .slice (some ⟨h4, 0, none⟩) n e4], by rw [HF.out], by rw [HF.out]; exact ⟨h0, h1, h2, h3, h4, e0, e1, e2, e3, e4, _, _, _, _, _, rfl, unboxB3 HSF.out⟩⟩
  have qk3 : (kd == 3) = false := by simp [hk3]
  have CW := wayAt_c n fr tw W0 ⟨hn1, hn5⟩
  by_cases hok : 0 ≤ fr ∧ fr < n ∧ 0 ≤ tw ∧ tw < n ∧ fr ≠ tw
  rotate_left
  · as_aux_lemma =>
    have HF : Hid (Pl.bstep b ⟨kd, fr, tw, mn⟩ = (b, false)) := Lib.hid (by
      unfold Pl.bstep
      dsimp only
      rw [HN.out]
      by_cases h1 : 0 ≤ fr ∧ fr < n ∧ 0 ≤ tw ∧ tw < n
      · have he : fr = tw := by
          by_cases he : fr = tw
          · exact he
          · exact absurd ⟨h1.1, h1.2.1, h1.2.2.1, h1.2.2.2, he⟩ hok
        have hw : Pl.wayAt b (fr.toNat * n + tw.toNat) = [] := by
          rw [← he]
          have := HI.out.dg fr.toNat (by rw [HN.out]; omega)
          rw [HN.out] at this
          exact Pl.wayAt_of this
        rw [if_neg (by simpa using h1), hw]
        by_cases k1 : kd = 1
        · rw [if_pos k1, if_neg (fun hh => hh.2.2.2.1 he.symm)]
        · rw [if_neg k1]
          by_cases k2 : kd = 2
          · rw [if_pos k2]
          · rw [if_neg k2, if_neg hk3]
      · rw [if_pos h1])
    rw [if_neg hok, decide_eq_false hok] at CW
    clear hok hk3
    go_upto_region 8 with (go_at_call 54; (with_reducible refine CW.mono ?_); clear CW; rintro e w3 ⟨rfl, rfl⟩)
    clear b0 s0 s1 s2 s3
    have z0 := HS.out.frz (k := 0) 6 rfl
    have z1 := HS.out.frz (k := 1) 6 rfl
    have z2 := HS.out.frz (k := 2) 6 rfl
    have z3 := HS.out.frz (k := 3) 6 rfl
    have z4 := HS.out.frz (k := 4) 6 rfl
    have r0 := HS.out.cell (k := 0) 6 rfl rfl
    have r1 := HS.out.cell (k := 1) 6 rfl rfl
    have r2 := HS.out.cell (k := 2) 6 rfl rfl
    have r3 := HS.out.cell (k := 3) 6 rfl rfl
    have r4 := HS.out.cell (k := 4) 6 rfl rfl
    have b0 := HS.out.cell (k := 0) 0 rfl rfl
    have b1 := HS.out.cell (k := 1) 0 rfl rfl
    have b2 := HS.out.cell (k := 2) 0 rfl rfl
    have b3 := HS.out.cell (k := 3) 0 rfl rfl
    have b4 := HS.out.cell (k := 4) 0 rfl rfl
    obtain ⟨WF, hWF⟩ : ∃ WQ : World, (((((W0.setCell ⟨gc, 0, none⟩ (.slice (some ⟨g0, 0, none⟩) n c0)).setCell ⟨gc, 1, none⟩ (.slice (some ⟨g1, 0, none⟩) (n * n) c1)).setCell ⟨gc, 2, none⟩ (.slice (some ⟨g2, 0, none⟩) n c2)).setCell ⟨gc, 3, none⟩ (.slice (some ⟨g3, 0, none⟩) n c3)).setCell ⟨gc, 4, none⟩ (.slice (some ⟨g4, 0, none⟩) n c4)) = WQ := ⟨_, rfl⟩
    have HSF := Lib.hid ((((((HS.out.setBlk (k := 0) 6 rfl (.slice (some ⟨g0, 0, none⟩) n c0)).setBlk (k := 1) 6 rfl (.slice (some ⟨g1, 0, none⟩) (n * n) c1)).setBlk (k := 2) 6 rfl (.slice (some ⟨g2, 0, none⟩) n c2)).setBlk (k := 3) 6 rfl (.slice (some ⟨g3, 0, none⟩) n c3)).setBlk (k := 4) 6 rfl (.slice (some ⟨g4, 0, none⟩) n c4)).atW hWF)
    have u0 := HSF.out.cell (k := 0) 6 rfl rfl
    have u1 := HSF.out.cell (k := 1) 6 rfl rfl
    have u2 := HSF.out.cell (k := 2) 6 rfl rfl
    have u3 := HSF.out.cell (k := 3) 6 rfl rfl
    have u4 := HSF.out.cell (k := 4) 6 rfl rfl
    go_wp2
    exact bodyPost_ret (v := .tuple #[.agg #[.slice (some ⟨g0, 0, none⟩) n c0, .slice (some ⟨g1, 0, none⟩) (n * n) c1, .slice (some ⟨g2, 0, none⟩) n c2, .slice (some ⟨g3, 0, none⟩) n c3, .slice (some ⟨g4, 0, none⟩) n c4], .bool false]) (by simp [results, Try.results29, go_sem, u0, u1, u2, u3, u4]) rfl ⟨[.slice (some ⟨g0, 0, none⟩) n c0, .slice (some ⟨g1, 0, none⟩) (n * n) c1, .slice (some ⟨g2, 0, none⟩) n c2, .slice (some ⟨g3, 0, none⟩) n c3, .slice (some ⟨g4, 0, none⟩) n c4], by rw [HF.out], by rw [HF.out]; exact ⟨g0, g1, g2, g3, g4, c0, c1, c2, c3, c4, _, _, _, _, _, rfl, unboxB2 HSF.out⟩⟩
  obtain ⟨f, rfl⟩ : ∃ f : Nat, fr = f := ⟨fr.toNat, by omega⟩
  obtain ⟨t, rfl⟩ : ∃ t : Nat, tw = t := ⟨tw.toNat, by omega⟩
  have hf : f < n := by omega
  have ht : t < n := by omega
  obtain ⟨p, hp⟩ : ∃ p, f * n + t = p := ⟨_, rfl⟩
  have hpn : p < n * n := by rw [← hp]; exact sq_lt hf ht
  have hn25 := sq_le hn5
  rw [if_pos hok, decide_eq_true hok, show (f : Int) * (n : Nat) + (t : Nat) = ((f * n + t : Nat) : Int) by push_cast; rfl, hp] at CW
  have m3 : (0 : Int) ≤ (p : Nat) := by omega
  have m4 : ((p : Nat) : Int).toNat = p := by omega
  have m5 : (p : Int) < ((n * n : Nat) : Int) := by omega
  have HBS : Hid (Pl.bstep b ⟨kd, (f : Nat), (t : Nat), mn⟩ =
      if kd = 1 then (if 1 ≤ mn ∧ mn ≤ 50 ∧ mn ≤ Pl.coinAt b f ∧ ((t : Int) ≠ (f : Nat)) ∧ (Pl.wayAt b p).length < 39 then (Pl.setWay (Pl.addCoin b f (-mn)) p (Pl.wayAt b p ++ [mn]), true) else (b, false))
      else if kd = 2 then (match Pl.wayAt b p with
       | [] => (b, false)
       | x :: r => if mn = 0 then (Pl.btake (Pl.setWay b p r) f t x, true) else (b, false))
      else (b, false)) := Lib.hid (by
    unfold Pl.bstep
    dsimp only
    rw [HN.out, if_neg (by simp; omega)]
    simp only [Int.toNat_natCast]
    (rw [hp, if_neg hk3]) <;> rfl)
  have ff1 : (0 : Int) ≤ (f : Nat) := by omega
  have ff2 : ((f : Nat) : Int).toNat = f := by omega
  have ff3 : (f : Int) < (n : Nat) := by omega
  obtain ⟨cv, hcv⟩ : ∃ cv, b.Coins[f]? = some cv := ⟨_, List.getElem?_eq_getElem (by have := HN.out; omega)⟩
  obtain ⟨row, hrow⟩ : ∃ row, b.Ways[p]? = some row := ⟨_, List.getElem?_eq_getElem (by rw [HI.out.wa, HN.out]; exact hpn)⟩
  have HCV := Lib.hid hcv
  have HROW := Lib.hid hrow
  have HCA := Lib.hid (Pl.coinAt_of hcv)
  have HWA := Lib.hid (Pl.wayAt_of hrow)
  have hcb := HI.out.cb cv (List.mem_of_getElem? hcv)
  have hrl : row.length ≤ 900 := by have := HI.out.wl row (List.mem_of_getElem? hrow); omega
  have HPN := Lib.hid (And.intro hp hpn)
  have HFT : Hid ((f : Int) ≠ (t : Nat)) := Lib.hid hok.2.2.2.2
  clear hp hpn hcv hrow hok hk3
  go_upto_region 7 with (go_at_call 54; (with_reducible refine CW.mono ?_); clear CW; rintro e w3 ⟨rfl, rfl⟩)
  go_upto_region 9 with fail
  obtain ⟨cs, fx, ⟨v, rfl, hown⟩, hfn, hfs, hc, hnext⟩ := HS.out.swap 2 rfl HROW.out
  have ec := hc 0 _ rfl
  rw [show p * Mm.way.size + 0 = p by show p * 1 + 0 = p; omega] at ec
  obtain ⟨A5, nw, c5, rfl, hnw, hnc5, _⟩ := hown.form
  have HNX := Lib.hid hnext
  have HGO := Lib.hid (And.intro hown hfn)
  have HFS := Lib.hid hfs
  have HNW := Lib.hid hnw
  clear hown hfn hfs hc hnext hnw
  have b1 := HS.out.cell (k := 1) 0 rfl rfl
  by_cases hk1 : kd = 1
  · subst hk1
    have HB1 : Hid (Pl.bstep b ⟨1, (f : Nat), (t : Nat), mn⟩ = if 1 ≤ mn ∧ mn ≤ 50 ∧ mn ≤ Pl.coinAt b f ∧ ((t : Int) ≠ (f : Nat)) ∧ (Pl.wayAt b p).length < 39 then (Pl.setWay (Pl.addCoin b f (-mn)) p (Pl.wayAt b p ++ [mn]), true) else (b, false)) := Lib.hid (by rw [HBS.out, if_pos rfl])
    have d0 := int_ocell (HS.out.sl 1 rfl) (HS.out.ndat (i := 1) rfl) HCV.out
    have CM := fun z : Und W0 => und_same z (l1In_c mn 1 50 (und W0 z))
    by_cases hm : ¬ (1 ≤ mn ∧ mn ≤ 50)
    · as_aux_lemma =>
      have HF : Hid (Pl.bstep b ⟨1, (f : Nat), (t : Nat), mn⟩ = (b, false)) := Lib.hid (by rw [HB1.out]; exact if_neg (fun hh => hm ⟨hh.1, hh.2.1⟩))
      rw [show Pl.isIn mn 1 50 = false by unfold Pl.isIn; simp; omega] at CM
      clear hm
      refine wp_region_und (by kernel_rfl) (by kernel_rfl) ?_
      repeat (go_big_quiet_step ((first | (go_at_call 51; with_reducible exact CM _))))
      refine wpQuiet_nil ?_
      intro X hX
      replace HS := Lib.hid (HS.out.step hX)
      clear b0 s0 s1 s2 s3 b1 d0 ec
      have s0 := HS.out.cell (k := 0) 7 rfl rfl
      go_upto_region 15 with fail
      clear s0
      have z0 := HS.out.frz (k := 0) 6 rfl
      have z1 := HS.out.frz (k := 1) 6 rfl
      have z2 := HS.out.frz (k := 2) 6 rfl
      have z3 := HS.out.frz (k := 3) 6 rfl
      have z4 := HS.out.frz (k := 4) 6 rfl
      have r0 := HS.out.cell (k := 0) 6 rfl rfl
      have r1 := HS.out.cell (k := 1) 6 rfl rfl
      have r2 := HS.out.cell (k := 2) 6 rfl rfl
      have r3 := HS.out.cell (k := 3) 6 rfl rfl
      have r4 := HS.out.cell (k := 4) 6 rfl rfl
      have b0 := HS.out.cell (k := 0) 0 rfl rfl
      have b1 := HS.out.cell (k := 1) 0 rfl rfl
      have b2 := HS.out.cell (k := 2) 0 rfl rfl
      have b3 := HS.out.cell (k := 3) 0 rfl rfl
      have b4 := HS.out.cell (k := 4) 0 rfl rfl
      obtain ⟨WF, hWF⟩ : ∃ WQ : World, (((((X.setCell ⟨gc, 0, none⟩ (.slice (some ⟨g0, 0, none⟩) n c0)).setCell ⟨gc, 1, none⟩ (.slice (some ⟨g1, 0, none⟩) (n * n) c1)).setCell ⟨gc, 2, none⟩ (.slice (some ⟨g2, 0, none⟩) n c2)).setCell ⟨gc, 3, none⟩ (.slice (some ⟨g3, 0, none⟩) n c3)).setCell ⟨gc, 4, none⟩ (.slice (some ⟨g4, 0, none⟩) n c4)) = WQ := ⟨_, rfl⟩
      have HSF := Lib.hid ((((((HS.out.setBlk (k := 0) 6 rfl (.slice (some ⟨g0, 0, none⟩) n c0)).setBlk (k := 1) 6 rfl (.slice (some ⟨g1, 0, none⟩) (n * n) c1)).setBlk (k := 2) 6 rfl (.slice (some ⟨g2, 0, none⟩) n c2)).setBlk (k := 3) 6 rfl (.slice (some ⟨g3, 0, none⟩) n c3)).setBlk (k := 4) 6 rfl (.slice (some ⟨g4, 0, none⟩) n c4)).atW hWF)
      have u0 := HSF.out.cell (k := 0) 6 rfl rfl
      have u1 := HSF.out.cell (k := 1) 6 rfl rfl
      have u2 := HSF.out.cell (k := 2) 6 rfl rfl
      have u3 := HSF.out.cell (k := 3) 6 rfl rfl
      have u4 := HSF.out.cell (k := 4) 6 rfl rfl
      go_wp2
      exact bodyPost_ret (v := .tuple #[.agg #[.slice (some ⟨g0, 0, none⟩) n c0, .slice (some ⟨g1, 0, none⟩) (n * n) c1, .slice (some ⟨g2, 0, none⟩) n c2, .slice (some ⟨g3, 0, none⟩) n c3, .slice (some ⟨g4, 0, none⟩) n c4], .bool false]) (by simp [results, Try.results29, go_sem, u0, u1, u2, u3, u4]) rfl ⟨[.slice (some ⟨g0, 0, none⟩) n c0, .slice (some ⟨g1, 0, none⟩) (n * n) c1, .slice (some ⟨g2, 0, none⟩) n c2, .slice (some ⟨g3, 0, none⟩) n c3, .slice (some ⟨g4, 0, none⟩) n c4], by rw [HF.out], by rw [HF.out]; exact ⟨g0, g1, g2, g3, g4, c0, c1, c2, c3, c4, _, _, _, _, _, rfl, unboxB2 HSF.out⟩⟩
    replace hm := Decidable.not_not.1 hm
    rw [show Pl.isIn mn 1 50 = true by unfold Pl.isIn; simp; omega] at CM
    by_cases hc : cv < mn
    · as_aux_lemma =>
      have HF : Hid (Pl.bstep b ⟨1, (f : Nat), (t : Nat), mn⟩ = (b, false)) := Lib.hid (by rw [HB1.out]; exact if_neg (fun hh => by have := hh.2.2.1; rw [HCA.out] at this; omega))
      have q1 : decide (mn ≤ cv) = false := by simp; omega
      clear hm
      refine wp_region_und (by kernel_rfl) (by kernel_rfl) ?_
      repeat (go_big_quiet_step ((first | (go_at_call 51; with_reducible exact CM _))))
      refine wpQuiet_nil ?_
      intro X hX
      replace HS := Lib.hid (HS.out.step hX)
      clear b0 s0 s1 s2 s3 b1 d0 ec
      have s0 := HS.out.cell (k := 0) 7 rfl rfl
      go_upto_region 15 with fail
      clear s0
      have z0 := HS.out.frz (k := 0) 6 rfl
      have z1 := HS.out.frz (k := 1) 6 rfl
      have z2 := HS.out.frz (k := 2) 6 rfl
      have z3 := HS.out.frz (k := 3) 6 rfl
      have z4 := HS.out.frz (k := 4) 6 rfl
      have r0 := HS.out.cell (k := 0) 6 rfl rfl
      have r1 := HS.out.cell (k := 1) 6 rfl rfl
      have r2 := HS.out.cell (k := 2) 6 rfl rfl
      have r3 := HS.out.cell (k := 3) 6 rfl rfl
      have r4 := HS.out.cell (k := 4) 6 rfl rfl
      have b0 := HS.out.cell (k := 0) 0 rfl rfl
      have b1 := HS.out.cell (k := 1) 0 rfl rfl
      have b2 := HS.out.cell (k := 2) 0 rfl rfl
      have b3 := HS.out.cell (k := 3) 0 rfl rfl
      have b4 := HS.out.cell (k := 4) 0 rfl rfl
      obtain ⟨WF, hWF⟩ : ∃ WQ : World, (((((X.setCell ⟨gc, 0, none⟩ (.slice (some ⟨g0, 0, none⟩) n c0)).setCell ⟨gc, 1, none⟩ (.slice (some ⟨g1, 0, none⟩) (n * n) c1)).setCell ⟨gc, 2, none⟩ (.slice (some ⟨g2, 0, none⟩) n c2)).setCell ⟨gc, 3, none⟩ (.slice (some ⟨g3, 0, none⟩) n c3)).setCell ⟨gc, 4, none⟩ (.slice (some ⟨g4, 0, none⟩) n c4)) = WQ := ⟨_, rfl⟩
      have HSF := Lib.hid ((((((HS.out.setBlk (k := 0) 6 rfl (.slice (some ⟨g0, 0, none⟩) n c0)).setBlk (k := 1) 6 rfl (.slice (some ⟨g1, 0, none⟩) (n * n) c1)).setBlk (k := 2) 6 rfl (.slice (some ⟨g2, 0, none⟩) n c2)).setBlk (k := 3) 6 rfl (.slice (some ⟨g3, 0, none⟩) n c3)).setBlk (k := 4) 6 rfl (.slice (some ⟨g4, 0, none⟩) n c4)).atW hWF)
      have u0 := HSF.out.cell (k := 0) 6 rfl rfl
      have u1 := HSF.out.cell (k := 1) 6 rfl rfl
      have u2 := HSF.out.cell (k := 2) 6 rfl rfl
      have u3 := HSF.out.cell (k := 3) 6 rfl rfl
      have u4 := HSF.out.cell (k := 4) 6 rfl rfl
      go_wp2
      exact bodyPost_ret (v := .tuple #[.agg #[.slice (some ⟨g0, 0, none⟩) n c0, .slice (some ⟨g1, 0, none⟩) (n * n) c1, .slice (some ⟨g2, 0, none⟩) n c2, .slice (some ⟨g3, 0, none⟩) n c3, .slice (some ⟨g4, 0, none⟩) n c4], .bool false]) (by simp [results, Try.results29, go_sem, u0, u1, u2, u3, u4]) rfl ⟨[.slice (some ⟨g0, 0, none⟩) n c0, .slice (some ⟨g1, 0, none⟩) (n * n) c1, .slice (some ⟨g2, 0, none⟩) n c2, .slice (some ⟨g3, 0, none⟩) n c3, .slice (some ⟨g4, 0, none⟩) n c4], by rw [HF.out], by rw [HF.out]; exact ⟨g0, g1, g2, g3, g4, c0, c1, c2, c3, c4, _, _, _, _, _, rfl, unboxB2 HSF.out⟩⟩
    have q1 : decide (mn ≤ cv) = true := by simp; omega
    by_cases hl : 39 ≤ row.length
    · as_aux_lemma =>
      have HF : Hid (Pl.bstep b ⟨1, (f : Nat), (t : Nat), mn⟩ = (b, false)) := Lib.hid (by rw [HB1.out]; exact if_neg (fun hh => by have := hh.2.2.2.2; rw [HWA.out] at this; omega))
      have q3 : decide ((nw : Int) < 39) = false := by have := HNW.out; simp; omega
      clear hm hc hl
      refine wp_region_und (by kernel_rfl) (by kernel_rfl) ?_
      repeat (go_big_quiet_step ((first | (go_at_call 51; with_reducible exact CM _))))
      refine wpQuiet_nil ?_
      intro X hX
      replace HS := Lib.hid (HS.out.step hX)
      clear b0 s0 s1 s2 s3 b1 d0 ec
      have s0 := HS.out.cell (k := 0) 7 rfl rfl
      go_upto_region 15 with fail
      clear s0
      have z0 := HS.out.frz (k := 0) 6 rfl
      have z1 := HS.out.frz (k := 1) 6 rfl
      have z2 := HS.out.frz (k := 2) 6 rfl
      have z3 := HS.out.frz (k := 3) 6 rfl
      have z4 := HS.out.frz (k := 4) 6 rfl
      have r0 := HS.out.cell (k := 0) 6 rfl rfl
      have r1 := HS.out.cell (k := 1) 6 rfl rfl
      have r2 := HS.out.cell (k := 2) 6 rfl rfl
      have r3 := HS.out.cell (k := 3) 6 rfl rfl
      have r4 := HS.out.cell (k := 4) 6 rfl rfl
      have b0 := HS.out.cell (k := 0) 0 rfl rfl
      have b1 := HS.out.cell (k := 1) 0 rfl rfl
      have b2 := HS.out.cell (k := 2) 0 rfl rfl
      have b3 := HS.out.cell (k := 3) 0 rfl rfl
      have b4 := HS.out.cell (k := 4) 0 rfl rfl
      obtain ⟨WF, hWF⟩ : ∃ WQ : World, (((((X.setCell ⟨gc, 0, none⟩ (.slice (some ⟨g0, 0, none⟩) n c0)).setCell ⟨gc, 1, none⟩ (.slice (some ⟨g1, 0, none⟩) (n * n) c1)).setCell ⟨gc, 2, none⟩ (.slice (some ⟨g2, 0, none⟩) n c2)).setCell ⟨gc, 3, none⟩ (.slice (some ⟨g3, 0, none⟩) n c3)).setCell ⟨gc, 4, none⟩ (.slice (some ⟨g4, 0, none⟩) n c4)) = WQ := ⟨_, rfl⟩
      have HSF := Lib.hid ((((((HS.out.setBlk (k := 0) 6 rfl (.slice (some ⟨g0, 0, none⟩) n c0)).setBlk (k := 1) 6 rfl (.slice (some ⟨g1, 0, none⟩) (n * n) c1)).setBlk (k := 2) 6 rfl (.slice (some ⟨g2, 0, none⟩) n c2)).setBlk (k := 3) 6 rfl (.slice (some ⟨g3, 0, none⟩) n c3)).setBlk (k := 4) 6 rfl (.slice (some ⟨g4, 0, none⟩) n c4)).atW hWF)
      have u0 := HSF.out.cell (k := 0) 6 rfl rfl
      have u1 := HSF.out.cell (k := 1) 6 rfl rfl
      have u2 := HSF.out.cell (k := 2) 6 rfl rfl
      have u3 := HSF.out.cell (k := 3) 6 rfl rfl
      have u4 := HSF.out.cell (k := 4) 6 rfl rfl
      go_wp2
      exact bodyPost_ret (v := .tuple #[.agg #[.slice (some ⟨g0, 0, none⟩) n c0, .slice (some ⟨g1, 0, none⟩) (n * n) c1, .slice (some ⟨g2, 0, none⟩) n c2, .slice (some ⟨g3, 0, none⟩) n c3, .slice (some ⟨g4, 0, none⟩) n c4], .bool false]) (by simp [results, Try.results29, go_sem, u0, u1, u2, u3, u4]) rfl ⟨[.slice (some ⟨g0, 0, none⟩) n c0, .slice (some ⟨g1, 0, none⟩) (n * n) c1, .slice (some ⟨g2, 0, none⟩) n c2, .slice (some ⟨g3, 0, none⟩) n c3, .slice (some ⟨g4, 0, none⟩) n c4], by rw [HF.out], by rw [HF.out]; exact ⟨g0, g1, g2, g3, g4, c0, c1, c2, c3, c4, _, _, _, _, _, rfl, unboxB2 HSF.out⟩⟩
    as_aux_lemma =>
    have HF : Hid (Pl.bstep b ⟨1, (f : Nat), (t : Nat), mn⟩ = (⟨b.Coins.set f (cv - mn), b.Ways.set p (row ++ [mn]), b.Kept, b.Heard, b.Found⟩, true)) := Lib.hid (by
      rw [HB1.out, HWA.out]
      refine (if_pos ⟨hm.1, hm.2, by rw [HCA.out]; omega, fun hh => HFT.out hh.symm, by omega⟩).trans ?_
      unfold Pl.setWay Pl.addCoin
      rw [HCA.out, show cv + -mn = cv - mn by omega])
    have q3 : decide ((nw : Int) < 39) = true := by have := HNW.out; simp; omega
    obtain ⟨cw, hcw⟩ : ∃ cw, cv - mn = cw := ⟨_, rfl⟩
    have m7 : IntKind.i64.wrap (cv - mn) = cw := by rw [IntWalk.i64_in _ (by omega)]; exact hcw
    have HCI : Hid (Mm.I64 cw) := Lib.hid (by unfold Mm.I64; omega)
    rw [hcw] at HF
    clear hm hc hl hcw
    refine wp_region_und (by kernel_rfl) (by kernel_rfl) ?_
    repeat (go_big_quiet_step ((first | (go_at_call 51; with_reducible exact CM _))))
    refine wpQuiet_nil ?_
    intro X hX
    replace HS := Lib.hid (HS.out.step hX)
    clear CM hX ec HNX HGO HFS HNW b0 b1 d0 s0 s1 s2 s3 q3
    have b0 := HS.out.cell (k := 0) 0 rfl rfl
    have d0 := int_ocell (HS.out.sl 1 rfl) (HS.out.ndat (i := 1) rfl) HCV.out
    have s1 := HS.out.cell (k := 1) 7 rfl rfl
    have s3 := HS.out.cell (k := 3) 7 rfl rfl
    go_upto_region 10 with fail
    clear q1
    refine wp_region_und_tail 10 (by kernel_rfl) (by kernel_rfl) ?_
    simp only [List.take_succ_cons, List.take_zero, List.drop_succ_cons, List.drop_zero]
    repeat (go_big_quiet_step ((first | fail)))
    refine wpQuiet_nil ?_
    intro X hX
    replace HS := Lib.hid (HS.out.step hX)
    clear hX b0 d0 s1 s3 m7
    have d0 := int_ocell (HS.out.sl 1 rfl) (HS.out.ndat (i := 1) rfl) HCV.out
    have z0 := (HS.out.sl 1 rfl).frozen f
    obtain ⟨W9, hW9⟩ : ∃ W, X.setCell ⟨g0, f, none⟩ (.int .i64 cw) = W := ⟨_, rfl⟩
    replace HS := Lib.hid ((HS.out.putInt (y := cw) 1 rfl HCV.out HCI.out).atW hW9)
    go_upto_region 11 with fail
    clear hW9 d0 z0
    obtain ⟨cs, fx, ⟨v, rfl, hown⟩, hfn, hfs, hc, hnext⟩ := HS.out.swap 2 rfl HROW.out
    have ec := hc 0 _ rfl
    rw [show p * Mm.way.size + 0 = p by show p * 1 + 0 = p; omega] at ec
    obtain ⟨A5, nw, c5, rfl, hnw, hnc5, _⟩ := hown.form
    have HNX := Lib.hid hnext
    have HGO := Lib.hid (And.intro hown hfn)
    have HFS := Lib.hid hfs
    have HNW := Lib.hid hnw
    clear hown hfn hfs hc hnext hnw
    obtain ⟨iI, qI, qI0, qI1, qI2⟩ := info_parts Try.infoIntB
    have b1 := HS.out.cell (k := 1) 0 rfl rfl
    have s3 := HS.out.cell (k := 3) 7 rfl rfl
    have nb : gs ∉ fx := fun hh => HS.out.apart (i := 7) (j := 2) rfl rfl (by decide) gs (by simp [Mm.tblk]) (HFS.out _ hh).1
    have na : ga ∉ fx := fun hh => HS.out.apart (i := 0) (j := 2) rfl rfl (by decide) ga (by simp [Mm.tblk]) (HFS.out _ hh).1
    have ng : g1 ∉ fx := fun hh => (HFS.out _ hh).2 rfl
    have hgl : g1 < W9.heap.size := (HS.out.sl 2 rfl).olt g1 (HS.out.sl 2 rfl).mem_block
    have zr := (HS.out.sl 2 rfl).frozen p
    clear hnc5
    refine Mm.wp_region_give 13 (fun i => match i with | 10 => some (Mm.gBs 3 [.int .i64 mn]) | 11 => some (Mm.gWay (row ++ [mn])) | _ => none) (fun i => match i with | 11 => [10, 14] | _ => []) (fun i => match i with | 14 => [Mm.tway row (.slice A5 nw c5) fx] | _ => []) (F := fx) (D := fun w' => ∃ z : Cha fx W9, w' = cha fx W9 z) (fun X us h => Mm.sep_cha h) (by kernel_rfl) (by kernel_rfl) (by kernel_rfl) (Mm.sep_eq ((Mm.SepF.one (Mm.tway row (.slice A5 nw c5) fx) W9 HGO.out.1 HGO.out.2).step (Below.refl _ _).drew) rfl) ?_
    repeat (refine Mm.give_det (by rfl) (by rfl) (by rfl) (fun K hK => ?_); go_big_quiet_op; refine hK _ ?_; clear hK K)
    refine Mm.give_op0 107 (by rfl) rfl (by rfl) (by rfl) (by rfl) (by rfl) Mm.gBs_in (fun others X6 hX6 => ?_) ?_
    · go_wp2
      exact Mm.gvq_bs hX6 rfl rfl rfl
    rintro v ds' ⟨gs', rfl, rfl⟩
    simp only [Act.put, List.setIfInBounds_toArray, List.set_cons_succ, List.set_cons_zero]
    refine Mm.give_op2 108 10 14 (by rfl) rfl (by rfl) (by rfl) (by rfl) rfl (by rfl) (by rfl) (by rfl) _ _ rfl rfl Mm.gWay_in (fun others X6 hX6 => Mm.app_gvw rfl (.tmp 104) (.tmp 107) 22 rfl 108 rfl (by rfl) iI _ Try.underlying22 qI qI0 qI1 qI2 rfl rfl rfl HMI.out (by omega) hX6) ?_
    rintro v ds' ⟨A8, n8, c8, f8, rfl, rfl, hn8⟩
    simp only [Act.put, List.setIfInBounds_toArray, List.set_cons_succ, List.set_cons_zero]
    repeat (refine Mm.give_det (by rfl) (by rfl) (by rfl) (fun K hK => ?_); go_big_quiet_op; refine hK _ ?_; clear hK K)
    refine Mm.give_nil ?_
    rintro X7 hX7
    have hx7 : Mm.SepF fx W9 X7 [Mm.tway (row ++ [mn]) (.slice A8 n8 c8) f8] := Mm.sep_eq hX7 rfl
    have d4 : X7.cell? ⟨g1, p, none⟩ = some (.slice A5 nw c5) := (World.cell?_of_block (hx7.chg.block g1 hgl ng)).trans ec
    have z4 : X7.frozen? ⟨g1, p, none⟩ = false := (World.frozen?_of_block (hx7.chg.block g1 hgl ng)).trans zr
    obtain ⟨fp5, hs5⟩ := HNX.out X7 (row ++ [mn]) 0 (.slice A8 n8 c8) f8 hx7.chg (by decide) ⟨_, rfl, hx7.at_ 0 rfl⟩ (hx7.ndat (i := 0) rfl) (fun b hb => hx7.new b (Mm.SepF.mem (i := 0) rfl hb))
    rw [show p * Mm.way.size + 0 = p by show p * 1 + 0 = p; omega] at hs5
    obtain ⟨W8, hW8⟩ : ∃ WQ : World, X7.setCell ⟨g1, p, none⟩ (.slice A8 n8 c8) = WQ := ⟨_, rfl⟩
    have HS5 := Lib.hid (hs5.atW hW8)
    clear hX7 hx7 hs5 ec s3 b1 nb na ng hgl zr
    go_upto_region 12 with fail
    clear hW8 d4 z4
    have z0 := HS5.out.frz (k := 0) 6 rfl
    have z1 := HS5.out.frz (k := 1) 6 rfl
    have z2 := HS5.out.frz (k := 2) 6 rfl
    have z3 := HS5.out.frz (k := 3) 6 rfl
    have z4 := HS5.out.frz (k := 4) 6 rfl
    have r0 := HS5.out.cell (k := 0) 6 rfl rfl
    have r1 := HS5.out.cell (k := 1) 6 rfl rfl
    have r2 := HS5.out.cell (k := 2) 6 rfl rfl
    have r3 := HS5.out.cell (k := 3) 6 rfl rfl
    have r4 := HS5.out.cell (k := 4) 6 rfl rfl
    have b0 := HS5.out.cell (k := 0) 0 rfl rfl
    have b1 := HS5.out.cell (k := 1) 0 rfl rfl
    have b2 := HS5.out.cell (k := 2) 0 rfl rfl
    have b3 := HS5.out.cell (k := 3) 0 rfl rfl
    have b4 := HS5.out.cell (k := 4) 0 rfl rfl
    obtain ⟨WF, hWF⟩ : ∃ WQ : World, (((((W8.setCell ⟨gc, 0, none⟩ (.slice (some ⟨g0, 0, none⟩) n c0)).setCell ⟨gc, 1, none⟩ (.slice (some ⟨g1, 0, none⟩) (n * n) c1)).setCell ⟨gc, 2, none⟩ (.slice (some ⟨g2, 0, none⟩) n c2)).setCell ⟨gc, 3, none⟩ (.slice (some ⟨g3, 0, none⟩) n c3)).setCell ⟨gc, 4, none⟩ (.slice (some ⟨g4, 0, none⟩) n c4)) = WQ := ⟨_, rfl⟩
    have HSF := Lib.hid ((((((HS5.out.setBlk (k := 0) 6 rfl (.slice (some ⟨g0, 0, none⟩) n c0)).setBlk (k := 1) 6 rfl (.slice (some ⟨g1, 0, none⟩) (n * n) c1)).setBlk (k := 2) 6 rfl (.slice (some ⟨g2, 0, none⟩) n c2)).setBlk (k := 3) 6 rfl (.slice (some ⟨g3, 0, none⟩) n c3)).setBlk (k := 4) 6 rfl (.slice (some ⟨g4, 0, none⟩) n c4)).atW hWF)
    have u0 := HSF.out.cell (k := 0) 6 rfl rfl
    have u1 := HSF.out.cell (k := 1) 6 rfl rfl
    have u2 := HSF.out.cell (k := 2) 6 rfl rfl
    have u3 := HSF.out.cell (k := 3) 6 rfl rfl
    have u4 := HSF.out.cell (k := 4) 6 rfl rfl
    go_wp2
    exact bodyPost_ret (v := .tuple #[.agg #[.slice (some ⟨g0, 0, none⟩) n c0, .slice (some ⟨g1, 0, none⟩) (n * n) c1, .slice (some ⟨g2, 0, none⟩) n c2, .slice (some ⟨g3, 0, none⟩) n c3, .slice (some ⟨g4, 0, none⟩) n c4], .bool true]) (by simp [results, Try.results29, go_sem, u0, u1, u2, u3, u4]) rfl ⟨[.slice (some ⟨g0, 0, none⟩) n c0, .slice (some ⟨g1, 0, none⟩) (n * n) c1, .slice (some ⟨g2, 0, none⟩) n c2, .slice (some ⟨g3, 0, none⟩) n c3, .slice (some ⟨g4, 0, none⟩) n c4], by rw [HF.out], by rw [HF.out]; exact ⟨g0, g1, g2, g3, g4, c0, c1, c2, c3, c4, _, _, _, _, _, rfl, unboxB2 HSF.out⟩⟩
  have qk1 : (kd == 1) = false := by simp [hk1]
  refine wp_region_und (by kernel_rfl) (by kernel_rfl) ?_
  repeat (go_big_quiet_step ((first | fail)))
  refine wpQuiet_nil ?_
  intro X hX
  replace HS := Lib.hid (HS.out.step hX)
  clear b0 s0 s1 s2 s3 b1 ec HNX HGO HFS HNW
  have s0 := HS.out.cell (k := 0) 7 rfl rfl
  have s3 := HS.out.cell (k := 3) 7 rfl rfl
  have b1 := HS.out.cell (k := 1) 0 rfl rfl
  by_cases hk2 : kd = 2
  · subst hk2
    by_cases hm : mn = 0
    rotate_left
    · as_aux_lemma =>
      have HF : Hid (Pl.bstep b ⟨2, (f : Nat), (t : Nat), mn⟩ = (b, false)) := Lib.hid (by
        rw [HBS.out, if_neg (by decide), if_pos rfl]
        cases Pl.wayAt b p with
        | nil => rfl
        | cons x r => exact if_neg hm)
      have q2 : (mn == 0) = false := by simp [hm]
      clear hm
      go_upto_region 15 with fail
      clear s0 s3 b1
      have z0 := HS.out.frz (k := 0) 6 rfl
      have z1 := HS.out.frz (k := 1) 6 rfl
      have z2 := HS.out.frz (k := 2) 6 rfl
      have z3 := HS.out.frz (k := 3) 6 rfl
      have z4 := HS.out.frz (k := 4) 6 rfl
      have r0 := HS.out.cell (k := 0) 6 rfl rfl
      have r1 := HS.out.cell (k := 1) 6 rfl rfl
      have r2 := HS.out.cell (k := 2) 6 rfl rfl
      have r3 := HS.out.cell (k := 3) 6 rfl rfl
      have r4 := HS.out.cell (k := 4) 6 rfl rfl
      have b0 := HS.out.cell (k := 0) 0 rfl rfl
      have b1 := HS.out.cell (k := 1) 0 rfl rfl
      have b2 := HS.out.cell (k := 2) 0 rfl rfl
      have b3 := HS.out.cell (k := 3) 0 rfl rfl
      have b4 := HS.out.cell (k := 4) 0 rfl rfl
      obtain ⟨WF, hWF⟩ : ∃ WQ : World, (((((X.setCell ⟨gc, 0, none⟩ (.slice (some ⟨g0, 0, none⟩) n c0)).setCell ⟨gc, 1, none⟩ (.slice (some ⟨g1, 0, none⟩) (n * n) c1)).setCell ⟨gc, 2, none⟩ (.slice (some ⟨g2, 0, none⟩) n c2)).setCell ⟨gc, 3, none⟩ (.slice (some ⟨g3, 0, none⟩) n c3)).setCell ⟨gc, 4, none⟩ (.slice (some ⟨g4, 0, none⟩) n c4)) = WQ := ⟨_, rfl⟩
      have HSF := Lib.hid ((((((HS.out.setBlk (k := 0) 6 rfl (.slice (some ⟨g0, 0, none⟩) n c0)).setBlk (k := 1) 6 rfl (.slice (some ⟨g1, 0, none⟩) (n * n) c1)).setBlk (k := 2) 6 rfl (.slice (some ⟨g2, 0, none⟩) n c2)).setBlk (k := 3) 6 rfl (.slice (some ⟨g3, 0, none⟩) n c3)).setBlk (k := 4) 6 rfl (.slice (some ⟨g4, 0, none⟩) n c4)).atW hWF)
      have u0 := HSF.out.cell (k := 0) 6 rfl rfl
      have u1 := HSF.out.cell (k := 1) 6 rfl rfl
      have u2 := HSF.out.cell (k := 2) 6 rfl rfl
      have u3 := HSF.out.cell (k := 3) 6 rfl rfl
      have u4 := HSF.out.cell (k := 4) 6 rfl rfl
      go_wp2
      exact bodyPost_ret (v := .tuple #[.agg #[.slice (some ⟨g0, 0, none⟩) n c0, .slice (some ⟨g1, 0, none⟩) (n * n) c1, .slice (some ⟨g2, 0, none⟩) n c2, .slice (some ⟨g3, 0, none⟩) n c3, .slice (some ⟨g4, 0, none⟩) n c4], .bool false]) (by simp [results, Try.results29, go_sem, u0, u1, u2, u3, u4]) rfl ⟨[.slice (some ⟨g0, 0, none⟩) n c0, .slice (some ⟨g1, 0, none⟩) (n * n) c1, .slice (some ⟨g2, 0, none⟩) n c2, .slice (some ⟨g3, 0, none⟩) n c3, .slice (some ⟨g4, 0, none⟩) n c4], by rw [HF.out], by rw [HF.out]; exact ⟨g0, g1, g2, g3, g4, c0, c1, c2, c3, c4, _, _, _, _, _, rfl, unboxB2 HSF.out⟩⟩
    have q2 : (mn == 0) = true := by simp [hm]
    obtain ⟨cs, fx, ⟨v, rfl, hown⟩, hfn, hfs, hc, hnext⟩ := HS.out.swap 2 rfl HROW.out
    have ec := hc 0 _ rfl
    rw [show p * Mm.way.size + 0 = p by show p * 1 + 0 = p; omega] at ec
    obtain ⟨A5, nw, c5, rfl, hnw, hnc5, _⟩ := hown.form
    have HNX := Lib.hid hnext
    have HGO := Lib.hid (And.intro hown hfn)
    have HFS := Lib.hid hfs
    have HNW := Lib.hid hnw
    clear hown hfn hfs hc hnext hnw
    rcases row with _ | ⟨x, r⟩
    · as_aux_lemma =>
      have HF : Hid (Pl.bstep b ⟨2, (f : Nat), (t : Nat), mn⟩ = (b, false)) := Lib.hid (by rw [HBS.out, if_neg (by decide), if_pos rfl, HWA.out])
      have q1 : ¬ (0 < nw) := by have := HNW.out; simp at this; omega
      clear hm
      go_upto_region 15 with fail
      clear s0 s3 b1 ec
      have z0 := HS.out.frz (k := 0) 6 rfl
      have z1 := HS.out.frz (k := 1) 6 rfl
      have z2 := HS.out.frz (k := 2) 6 rfl
      have z3 := HS.out.frz (k := 3) 6 rfl
      have z4 := HS.out.frz (k := 4) 6 rfl
      have r0 := HS.out.cell (k := 0) 6 rfl rfl
      have r1 := HS.out.cell (k := 1) 6 rfl rfl
      have r2 := HS.out.cell (k := 2) 6 rfl rfl
      have r3 := HS.out.cell (k := 3) 6 rfl rfl
      have r4 := HS.out.cell (k := 4) 6 rfl rfl
      have b0 := HS.out.cell (k := 0) 0 rfl rfl
      have b1 := HS.out.cell (k := 1) 0 rfl rfl
      have b2 := HS.out.cell (k := 2) 0 rfl rfl
      have b3 := HS.out.cell (k := 3) 0 rfl rfl
      have b4 := HS.out.cell (k := 4) 0 rfl rfl
      obtain ⟨WF, hWF⟩ : ∃ WQ : World, (((((X.setCell ⟨gc, 0, none⟩ (.slice (some ⟨g0, 0, none⟩) n c0)).setCell ⟨gc, 1, none⟩ (.slice (some ⟨g1, 0, none⟩) (n * n) c1)).setCell ⟨gc, 2, none⟩ (.slice (some ⟨g2, 0, none⟩) n c2)).setCell ⟨gc, 3, none⟩ (.slice (some ⟨g3, 0, none⟩) n c3)).setCell ⟨gc, 4, none⟩ (.slice (some ⟨g4, 0, none⟩) n c4)) = WQ := ⟨_, rfl⟩
      have HSF := Lib.hid ((((((HS.out.setBlk (k := 0) 6 rfl (.slice (some ⟨g0, 0, none⟩) n c0)).setBlk (k := 1) 6 rfl (.slice (some ⟨g1, 0, none⟩) (n * n) c1)).setBlk (k := 2) 6 rfl (.slice (some ⟨g2, 0, none⟩) n c2)).setBlk (k := 3) 6 rfl (.slice (some ⟨g3, 0, none⟩) n c3)).setBlk (k := 4) 6 rfl (.slice (some ⟨g4, 0, none⟩) n c4)).atW hWF)
      have u0 := HSF.out.cell (k := 0) 6 rfl rfl
      have u1 := HSF.out.cell (k := 1) 6 rfl rfl
      have u2 := HSF.out.cell (k := 2) 6 rfl rfl
      have u3 := HSF.out.cell (k := 3) 6 rfl rfl
      have u4 := HSF.out.cell (k := 4) 6 rfl rfl
      go_wp2
      exact bodyPost_ret (v := .tuple #[.agg #[.slice (some ⟨g0, 0, none⟩) n c0, .slice (some ⟨g1, 0, none⟩) (n * n) c1, .slice (some ⟨g2, 0, none⟩) n c2, .slice (some ⟨g3, 0, none⟩) n c3, .slice (some ⟨g4, 0, none⟩) n c4], .bool false]) (by simp [results, Try.results29, go_sem, u0, u1, u2, u3, u4]) rfl ⟨[.slice (some ⟨g0, 0, none⟩) n c0, .slice (some ⟨g1, 0, none⟩) (n * n) c1, .slice (some ⟨g2, 0, none⟩) n c2, .slice (some ⟨g3, 0, none⟩) n c3, .slice (some ⟨g4, 0, none⟩) n c4], by rw [HF.out], by rw [HF.out]; exact ⟨g0, g1, g2, g3, g4, c0, c1, c2, c3, c4, _, _, _, _, _, rfl, unboxB2 HSF.out⟩⟩
    · as_aux_lemma =>
      have HF : Hid (Pl.bstep b ⟨2, (f : Nat), (t : Nat), mn⟩ = (Pl.btake (Pl.setWay b p r) f t x, true)) := Lib.hid (by rw [HBS.out, if_neg (by decide), if_pos rfl, HWA.out]; exact if_pos hm)
      have q1 : 0 < nw := by have := HNW.out; simp at this; omega
      clear hm
      go_upto_region 14 with fail
      clear s0 s3 b1 ec
      have CR := l12Take_c b q n f t p x r _ F w0 X _ (boxV (gb := ga) HS.out) HI.out HN.out hf ht HPN.out.1 HROW.out hq
      have s1 := HS.out.cell (k := 1) 7 rfl rfl
      have s2 := HS.out.cell (k := 2) 7 rfl rfl
      have b0 := HS.out.cell (k := 0) 0 rfl rfl
      have b1 := HS.out.cell (k := 1) 0 rfl rfl
      have b2 := HS.out.cell (k := 2) 0 rfl rfl
      have b3 := HS.out.cell (k := 3) 0 rfl rfl
      have b4 := HS.out.cell (k := 4) 0 rfl rfl
      go_wp2_with (go_at_call 55; (with_reducible refine CR.mono ?_); clear CR; rintro e w3 ⟨cs', rfl, h0, h1, h2, h3, h4, e0, e1, e2, e3, e4, k0, k1, k2, k3, k4, rfl, hs⟩; (have KS := Lib.hid hs); clear hs; clear b0 b1 b2 b3 b4 s1 s2; (have z0 := KS.out.frz (k := 0) 6 rfl); (have z1 := KS.out.frz (k := 1) 6 rfl); (have z2 := KS.out.frz (k := 2) 6 rfl); (have z3 := KS.out.frz (k := 3) 6 rfl); (have z4 := KS.out.frz (k := 4) 6 rfl); (have r0 := KS.out.cell (k := 0) 6 rfl rfl); (have r1 := KS.out.cell (k := 1) 6 rfl rfl); (have r2 := KS.out.cell (k := 2) 6 rfl rfl); (have r3 := KS.out.cell (k := 3) 6 rfl rfl); (have r4 := KS.out.cell (k := 4) 6 rfl rfl); (obtain ⟨WF, hWF⟩ : ∃ WQ : World, (((((w3.setCell ⟨gc, 0, none⟩ (.slice (some ⟨h0, 0, none⟩) n e0)).setCell ⟨gc, 1, none⟩ (.slice (some ⟨h1, 0, none⟩) (n * n) e1)).setCell ⟨gc, 2, none⟩ (.slice (some ⟨h2, 0, none⟩) n e2)).setCell ⟨gc, 3, none⟩ (.slice (some ⟨h3, 0, none⟩) n e3)).setCell ⟨gc, 4, none⟩ (.slice (some ⟨h4, 0, none⟩) n e4)) = WQ := ⟨_, rfl⟩); (have HSF := Lib.hid ((((((KS.out.setBlk (k := 0) 6 rfl (.slice (some ⟨h0, 0, none⟩) n e0)).setBlk (k := 1) 6 rfl (.slice (some ⟨h1, 0, none⟩) (n * n) e1)).setBlk (k := 2) 6 rfl (.slice (some ⟨h2, 0, none⟩) n e2)).setBlk (k := 3) 6 rfl (.slice (some ⟨h3, 0, none⟩) n e3)).setBlk (k := 4) 6 rfl (.slice (some ⟨h4, 0, none⟩) n e4)).atW hWF)); (have u0 := HSF.out.cell (k := 0) 6 rfl rfl); (have u1 := HSF.out.cell (k := 1) 6 rfl rfl); (have u2 := HSF.out.cell (k := 2) 6 rfl rfl); (have u3 := HSF.out.cell (k := 3) 6 rfl rfl); (have u4 := HSF.out.cell (k := 4) 6 rfl rfl))
      exact bodyPost_ret (v := .tuple #[.agg #[.slice (some ⟨h0, 0, none⟩) n e0, .slice (some ⟨h1, 0, none⟩) (n * n) e1, .slice (some ⟨h2, 0, none⟩) n e2, .slice (some ⟨h3, 0, none⟩) n e3, .slice (some ⟨h4, 0, none⟩) n e4], .bool true]) (by simp [results, Try.results29, go_sem, u0, u1, u2, u3, u4]) rfl ⟨[.slice (some ⟨h0, 0, none⟩) n e0, .slice (some ⟨h1, 0, none⟩) (n * n) e1, .slice (some ⟨h2, 0, none⟩) n e2, .slice (some ⟨h3, 0, none⟩) n e3, .slice (some ⟨h4, 0, none⟩) n e4], by rw [HF.out], by rw [HF.out]; exact ⟨h0, h1, h2, h3, h4, e0, e1, e2, e3, e4, _, _, _, _, _, rfl, unboxB3 HSF.out⟩⟩
  · as_aux_lemma =>
    have qk2 : (kd == 2) = false := by simp [hk2]
    have HF : Hid (Pl.bstep b ⟨kd, (f : Nat), (t : Nat), mn⟩ = (b, false)) := Lib.hid (by rw [HBS.out, if_neg hk1, if_neg hk2])
    clear hk1 hk2
    go_upto_region 15 with fail
    clear s0 s3 b1
    have z0 := HS.out.frz (k := 0) 6 rfl
    have z1 := HS.out.frz (k := 1) 6 rfl
    have z2 := HS.out.frz (k := 2) 6 rfl
    have z3 := HS.out.frz (k := 3) 6 rfl
    have z4 := HS.out.frz (k := 4) 6 rfl
    have r0 := HS.out.cell (k := 0) 6 rfl rfl
    have r1 := HS.out.cell (k := 1) 6 rfl rfl
    have r2 := HS.out.cell (k := 2) 6 rfl rfl
    have r3 := HS.out.cell (k := 3) 6 rfl rfl
    have r4 := HS.out.cell (k := 4) 6 rfl rfl
    have b0 := HS.out.cell (k := 0) 0 rfl rfl
    have b1 := HS.out.cell (k := 1) 0 rfl rfl
    have b2 := HS.out.cell (k := 2) 0 rfl rfl
    have b3 := HS.out.cell (k := 3) 0 rfl rfl
    have b4 := HS.out.cell (k := 4) 0 rfl rfl
    obtain ⟨WF, hWF⟩ : ∃ WQ : World, (((((X.setCell ⟨gc, 0, none⟩ (.slice (some ⟨g0, 0, none⟩) n c0)).setCell ⟨gc, 1, none⟩ (.slice (some ⟨g1, 0, none⟩) (n * n) c1)).setCell ⟨gc, 2, none⟩ (.slice (some ⟨g2, 0, none⟩) n c2)).setCell ⟨gc, 3, none⟩ (.slice (some ⟨g3, 0, none⟩) n c3)).setCell ⟨gc, 4, none⟩ (.slice (some ⟨g4, 0, none⟩) n c4)) = WQ := ⟨_, rfl⟩
    have HSF := Lib.hid ((((((HS.out.setBlk (k := 0) 6 rfl (.slice (some ⟨g0, 0, none⟩) n c0)).setBlk (k := 1) 6 rfl (.slice (some ⟨g1, 0, none⟩) (n * n) c1)).setBlk (k := 2) 6 rfl (.slice (some ⟨g2, 0, none⟩) n c2)).setBlk (k := 3) 6 rfl (.slice (some ⟨g3, 0, none⟩) n c3)).setBlk (k := 4) 6 rfl (.slice (some ⟨g4, 0, none⟩) n c4)).atW hWF)
    have u0 := HSF.out.cell (k := 0) 6 rfl rfl
    have u1 := HSF.out.cell (k := 1) 6 rfl rfl
    have u2 := HSF.out.cell (k := 2) 6 rfl rfl
    have u3 := HSF.out.cell (k := 3) 6 rfl rfl
    have u4 := HSF.out.cell (k := 4) 6 rfl rfl
    go_wp2
    exact bodyPost_ret (v := .tuple #[.agg #[.slice (some ⟨g0, 0, none⟩) n c0, .slice (some ⟨g1, 0, none⟩) (n * n) c1, .slice (some ⟨g2, 0, none⟩) n c2, .slice (some ⟨g3, 0, none⟩) n c3, .slice (some ⟨g4, 0, none⟩) n c4], .bool false]) (by simp [results, Try.results29, go_sem, u0, u1, u2, u3, u4]) rfl ⟨[.slice (some ⟨g0, 0, none⟩) n c0, .slice (some ⟨g1, 0, none⟩) (n * n) c1, .slice (some ⟨g2, 0, none⟩) n c2, .slice (some ⟨g3, 0, none⟩) n c3, .slice (some ⟨g4, 0, none⟩) n c4], by rw [HF.out], by rw [HF.out]; exact ⟨g0, g1, g2, g3, g4, c0, c1, c2, c3, c4, _, _, _, _, _, rfl, unboxB2 HSF.out⟩⟩
end Go.Proofs.Ytpmeagchkcffoaa

/-
  Contracts on sketches: the functions that only read. No conditions.
-/
namespace Go.Proofs.Ytpmeagchkcffoaa
open Go.RowKit
attribute [local go_sem] und_cell World.cell?_alloc_some
theorem l1All_c (l : List Int) (A : Option Addr) (n c : Nat) (a b : Int) (w : World) (B : Nat) (hl : Mm.SlAt Mm.int w B l A n c) :
    Calls Try.prog 52 #[.slice A n c, .int .i64 a, .int .i64 b] w fun e w' => e = .returned (.bool (Pl.allIn a b l)) ∧ w = w' := by
  have hlen : Hid (l.length = n) := hl.1
  have hn : n ≤ 9223372036854775807 := by have := hl.2.1; have := hl.2.2.1; unfold maxLen at this; omega
  have HL : Hid (Mm.SlAt Mm.int w B l A n c) := hl
  clear hl
  go_enter Try.func52, Try.ntmps52
  go_wp2
  go_loop [8, 11] (fun _ i => ∃ k : Nat, k ≤ n ∧ i = .int .i64 k ∧ Hid (Pl.upTo (fun x => Pl.isIn x a b) l k)) (fun _ i => n - (intOf i).toNat)
  case atStart => exact ⟨0, Nat.zero_le _, rfl, Pl.upTo0⟩
  case round =>
    obtain ⟨k, hk, rfl, HU⟩ := hrel
    by_cases hlt : k < n
    · obtain ⟨x, b0, off, hx, rfl, hb, b1, c1⟩ := int_get HL.out hlt
      have HX := Lib.hid hx
      clear hx
      cases hs : Pl.isIn x a b
      · go_wp2_with (go_at_call 51; refine (l1In_c _ _ _ _).mono ?_; rintro e w' ⟨rfl, rfl⟩)
        go_ret
        exact ⟨ret_bool (Pl.upToB HX.out hs).symm, rfl⟩
      · go_wp2_with (go_at_call 51; refine (l1In_c _ _ _ _).mono ?_; rintro e w' ⟨rfl, rfl⟩)
        go_round
        case rel => exact ⟨k + 1, by omega, by go_num, Pl.upTo1 HU.out HX.out hs⟩
        case measure => simp [intOf]; omega
    · go_wp2
      go_ret
      exact ⟨ret_bool (Pl.upToE HU.out (by rw [hlen.out]; omega)).symm, rfl⟩
end Go.Proofs.Ytpmeagchkcffoaa

/-
  Contracts: the reference's bank by value: a new bank (NewBank). No conditions beyond those named.
-/
namespace Go.Proofs.Ytpmeagchkcffoaa
open Go.RowKit
attribute [local go_sem] und_cell cha_cell World.cell?_alloc_some
theorem coins_all (l : List Int) : l.all Pl.coinOk = Pl.allIn 0 50 l := rfl
def NewBankSAns (l : List Int) (n : Nat) (w : World) (e : Ending) (w' : World) : Prop :=
  if Pl.coinsOk l = true then ∃ cs, e = .returned (.tuple #[.agg cs.toArray, .bool true]) ∧ BankV [] w w' n (Pl.newBank l) cs []
  else e = .returned (.tuple #[.agg zBk.toArray, .bool false]) ∧ Below w.heap.size w w'
theorem ints_way {e : TypeId} {w : World} {xs : List (List Int)} {v : Value} {fp : List Nat} (h : Mm.SlOwn ints e w xs v fp) : Mm.SlOwn Mm.way e w xs v fp := by
  obtain ⟨es, he, ho, rfl⟩ := h
  refine ⟨es, ⟨he.1, fun i x y hx hy => ?_⟩, ho, rfl⟩
  obtain ⟨v', h1, h2⟩ := he.2 i x y hx hy
  exact ⟨v', h1, Mm.OffOwn.of_sl h2⟩
theorem SepF.toWay {F : List Nat} {w0 w : World} {ts : List Mm.Thing} {xs : List (List Int)} {v : Value} {fp : List Nat} (h : Mm.SepF F w0 w (Mm.tsl ints 22 xs v fp :: ts)) : Mm.SepF F w0 w (Mm.tsl Mm.way 22 xs v fp :: ts) :=
  h.conv (by simp [Mm.tsl]) (List.forall_mem_cons.2 ⟨ints_way (h.sl 0 rfl), fun u hu => h.hold u (List.mem_cons_of_mem _ hu)⟩)
set_option maxRecDepth 100000 in
set_option maxHeartbeats 4000000 in
theorem specNewBank_c (l : List Int) (A : Option Addr) (n c : Nat) (w : World) (B : Nat) (hl : Mm.SlAt Mm.int w B l A n c) (hB : B ≤ w.heap.size) :
    Calls Try.prog 28 #[.slice A n c] w (NewBankSAns l n w) := by
  have hn : n ≤ maxLen := Nat.le_trans hl.2.1 hl.2.2.1
  unfold maxLen at hn
  have HL := Lib.hid hl
  have HLN : Hid (l.length = n) := hl.1
  have HBW := Lib.hid hB
  clear hl hB
  obtain ⟨gz, hgz⟩ : ∃ g, w.heap.size = g := ⟨_, rfl⟩
  obtain ⟨W1, hW1⟩ : ∃ V, w.alloc (.cells #[.slice none 0 0, .slice none 0 0, .slice none 0 0, .slice none 0 0, .slice none 0 0] 28) = V := ⟨_, rfl⟩
  have KS0 := Lib.hid (((Mm.SepF.start w).alloc' hgz 28 zBk).atW hW1)
  have HL1 := Lib.hid (HL.out.keep (w' := W1) fun b hb => KS0.out.bel0.block b (by have := HBW.out; omega))
  have CI := l1In_c n 1 5 W1
  have CA := l1All_c l A n c 0 50 W1 B HL1.out
  have HOK : Hid (Pl.coinsOk l = (Pl.isIn (n : Nat) 1 5 && Pl.allIn 0 50 l)) := Lib.hid (by unfold Pl.coinsOk; rw [HLN.out]; rfl)
  go_enter Try.func28, Try.ntmps28
  go_upto_region 2 with fail
  clear hW1 hgz
  cases h1 : Pl.isIn (n : Nat) 1 5 with
  | false =>
    as_aux_lemma =>
    have HF : Hid (Pl.coinsOk l = false) := Lib.hid (by rw [HOK.out, h1]; rfl)
    rw [h1] at CI
    clear h1 CA
    go_upto_region 3 with (go_at_call 51; (with_reducible refine CI.mono ?_); clear CI; rintro e w3 ⟨rfl, rfl⟩)
    have z0 := KS0.out.frz (k := 0) 0 rfl
    have z1 := KS0.out.frz (k := 1) 0 rfl
    have z2 := KS0.out.frz (k := 2) 0 rfl
    have z3 := KS0.out.frz (k := 3) 0 rfl
    have z4 := KS0.out.frz (k := 4) 0 rfl
    have r0 := KS0.out.cell (k := 0) 0 rfl rfl
    have r1 := KS0.out.cell (k := 1) 0 rfl rfl
    have r2 := KS0.out.cell (k := 2) 0 rfl rfl
    have r3 := KS0.out.cell (k := 3) 0 rfl rfl
    have r4 := KS0.out.cell (k := 4) 0 rfl rfl
    obtain ⟨WF, hWF⟩ : ∃ WQ : World, (((((W1.setCell ⟨gz, 0, none⟩ (.slice none 0 0)).setCell ⟨gz, 1, none⟩ (.slice none 0 0)).setCell ⟨gz, 2, none⟩ (.slice none 0 0)).setCell ⟨gz, 3, none⟩ (.slice none 0 0)).setCell ⟨gz, 4, none⟩ (.slice none 0 0)) = WQ := ⟨_, rfl⟩
    have HSF := Lib.hid ((((((KS0.out.setBlk (k := 0) 0 rfl (.slice none 0 0)).setBlk (k := 1) 0 rfl (.slice none 0 0)).setBlk (k := 2) 0 rfl (.slice none 0 0)).setBlk (k := 3) 0 rfl (.slice none 0 0)).setBlk (k := 4) 0 rfl (.slice none 0 0)).atW hWF)
    have u0 := HSF.out.cell (k := 0) 0 rfl rfl
    have u1 := HSF.out.cell (k := 1) 0 rfl rfl
    have u2 := HSF.out.cell (k := 2) 0 rfl rfl
    have u3 := HSF.out.cell (k := 3) 0 rfl rfl
    have u4 := HSF.out.cell (k := 4) 0 rfl rfl
    go_wp2
    exact bodyPost_ret (v := .tuple #[.agg zBk.toArray, .bool false]) (by simp [results, Try.results28, go_sem, zBk, u0, u1, u2, u3, u4]) rfl (by unfold NewBankSAns; rw [if_neg (by rw [HF.out]; simp)]; exact ⟨rfl, HSF.out.bel0⟩)
  | true =>
  cases h2 : Pl.allIn 0 50 l with
  | false =>
    as_aux_lemma =>
    have HF : Hid (Pl.coinsOk l = false) := Lib.hid (by rw [HOK.out, h1, h2]; rfl)
    rw [h1] at CI
    rw [h2] at CA
    clear h1 h2
    go_upto_region 3 with first
      | (go_at_call 51; (with_reducible refine CI.mono ?_); clear CI; rintro e w3 ⟨rfl, rfl⟩)
      | (go_at_call 52; (with_reducible refine CA.mono ?_); clear CA; rintro e w3 ⟨rfl, rfl⟩)
    have z0 := KS0.out.frz (k := 0) 0 rfl
    have z1 := KS0.out.frz (k := 1) 0 rfl
    have z2 := KS0.out.frz (k := 2) 0 rfl
    have z3 := KS0.out.frz (k := 3) 0 rfl
    have z4 := KS0.out.frz (k := 4) 0 rfl
    have r0 := KS0.out.cell (k := 0) 0 rfl rfl
    have r1 := KS0.out.cell (k := 1) 0 rfl rfl
    have r2 := KS0.out.cell (k := 2) 0 rfl rfl
    have r3 := KS0.out.cell (k := 3) 0 rfl rfl
    have r4 := KS0.out.cell (k := 4) 0 rfl rfl
    obtain ⟨WF, hWF⟩ : ∃ WQ : World, (((((W1.setCell ⟨gz, 0, none⟩ (.slice none 0 0)).setCell ⟨gz, 1, none⟩ (.slice none 0 0)).setCell ⟨gz, 2, none⟩ (.slice none 0 0)).setCell ⟨gz, 3, none⟩ (.slice none 0 0)).setCell ⟨gz, 4, none⟩ (.slice none 0 0)) = WQ := ⟨_, rfl⟩
    have HSF := Lib.hid ((((((KS0.out.setBlk (k := 0) 0 rfl (.slice none 0 0)).setBlk (k := 1) 0 rfl (.slice none 0 0)).setBlk (k := 2) 0 rfl (.slice none 0 0)).setBlk (k := 3) 0 rfl (.slice none 0 0)).setBlk (k := 4) 0 rfl (.slice none 0 0)).atW hWF)
    have u0 := HSF.out.cell (k := 0) 0 rfl rfl
    have u1 := HSF.out.cell (k := 1) 0 rfl rfl
    have u2 := HSF.out.cell (k := 2) 0 rfl rfl
    have u3 := HSF.out.cell (k := 3) 0 rfl rfl
    have u4 := HSF.out.cell (k := 4) 0 rfl rfl
    go_wp2
    exact bodyPost_ret (v := .tuple #[.agg zBk.toArray, .bool false]) (by simp [results, Try.results28, go_sem, zBk, u0, u1, u2, u3, u4]) rfl (by unfold NewBankSAns; rw [if_neg (by rw [HF.out]; simp)]; exact ⟨rfl, HSF.out.bel0⟩)
  | true =>
  have HF : Hid (Pl.coinsOk l = true) := Lib.hid (by rw [HOK.out, h1, h2]; rfl)
  have hn15 := Pl.isIn_iff.1 h1
  have h5 : n = 1 ∨ n = 2 ∨ n = 3 ∨ n = 4 ∨ n = 5 := by omega
  have H5 := Lib.hid h5
  have hn5 : n ≤ 5 := by omega
  have hn25 := sq_le hn5
  obtain ⟨n2, hn2⟩ : ∃ n2, n * n = n2 := ⟨_, rfl⟩
  have HN2 := Lib.hid hn2
  have hmk := make_waysB n h5
  rw [hn2] at hmk hn25
  have m1 : IntKind.i64.wrap ((n : Int) * (n : Nat)) = (n2 : Nat) := by
    rw [show (n : Int) * (n : Nat) = ((n * n : Nat) : Int) by push_cast; rfl, hn2]
    exact IntWalk.i64_in _ (by omega)
  rw [h1] at CI
  rw [h2] at CA
  obtain ⟨iI, qI, qI0, qI1, qI2⟩ := info_parts Try.infoIntB
  have hsz1 := KS0.out.bel0.size
  have HH15 := Lib.hid hn15
  clear h1 h2 h5 hn2 hn15
  go_upto_region 4 with first
    | (go_at_call 51; (with_reducible refine CI.mono ?_); clear CI; rintro e w3 ⟨rfl, rfl⟩)
    | (go_at_call 52; (with_reducible refine CA.mono ?_); clear CA; rintro e w3 ⟨rfl, rfl⟩)
  refine Mm.wp_region_give 9 (fun i => match i with | 0 => some (Mm.gSl Mm.int 3 []) | 2 => some (Mm.gSl Mm.int 3 l) | 6 => some (Mm.gSl Mm.way 22 (List.replicate n2 [])) | 8 => some (Mm.gPtr 28 zBk) | _ => none) (fun i => match i with | 2 => [0] | _ => []) (fun _ => []) (F := []) (D := fun w' => ∃ x : Und W1, w' = und W1 x) (fun X us h => Mm.sep_und h) (by kernel_rfl) (by kernel_rfl) (by kernel_rfl) (Mm.SepF.startDrew _) ?_
  repeat (refine Mm.give_det (by rfl) (by rfl) (by rfl) (fun K hK => ?_); go_big_quiet_op; refine hK _ ?_; clear hK K)
  refine Mm.give_op0 18 (by rfl) rfl (by rfl) (by rfl) (by rfl) (by rfl) Mm.gSl_in (fun others X hX => ?_) ?_
  · go_wp2
    exact Mm.gvq_fresh hX rfl rfl rfl
  rintro v ds ⟨A7, n7, c7, f7, rfl, rfl, hn7⟩
  simp only [Act.put, List.setIfInBounds_toArray, List.set_cons_succ, List.set_cons_zero]
  repeat (refine Mm.give_det (by rfl) (by rfl) (by rfl) (fun K hK => ?_); go_big_quiet_op; refine hK _ ?_; clear hK K)
  refine Mm.give_op1 20 0 (by rfl) rfl (by rfl) (by rfl) (by rfl) rfl (by rfl) _ rfl Mm.gSl_in (fun others X hX => Mm.clone_gvq rfl (.tmp 18) (.tmp 19) 22 rfl 20 rfl (by rfl) Mm.flat_int Mm.flatN_int' iI _ 8 Try.underlying22 qI qI0 qI1 qI2 rfl rfl rfl (HL1.out.keep (fun b hb => hX.bel0.block b (by have := HBW.out; omega))) (by unfold maxLen; omega) (by omega) hX) ?_
  rintro v ds ⟨A0, n0', c0, f0, rfl, rfl, hn0⟩
  simp only [Act.put, List.setIfInBounds_toArray, List.set_cons_succ, List.set_cons_zero]
  repeat (refine Mm.give_det (by rfl) (by rfl) (by rfl) (fun K hK => ?_); go_big_quiet_op; refine hK _ ?_; clear hK K)
  refine Mm.give_op0 24 (by rfl) rfl (by rfl) (by rfl) (by rfl) (by rfl) Mm.gSl_in (fun others X hX => ?_) ?_
  · go_wp2
    exact Mm.gvq_sl hX (below_new (Below.refl _ _) _) (ways0_own hn25) (by simp) (by simp) rfl rfl
  rintro v ds ⟨A1, n1', c1, f1, rfl, rfl, hn1⟩
  simp only [Act.put, List.setIfInBounds_toArray, List.set_cons_succ, List.set_cons_zero]
  repeat (refine Mm.give_det (by rfl) (by rfl) (by rfl) (fun K hK => ?_); go_big_quiet_op; refine hK _ ?_; clear hK K)
  refine Mm.give_op0 5 (by rfl) rfl (by rfl) (by rfl) (by rfl) (by rfl) Mm.gPtr_in (fun others X hX => ?_) ?_
  · go_wp2
    exact Mm.gvq_ptr hX rfl rfl rfl
  rintro v ds ⟨gp, rfl, rfl⟩
  simp only [Act.put, List.setIfInBounds_toArray, List.set_cons_succ, List.set_cons_zero]
  refine Mm.give_nil ?_
  rintro X hX
  have HX := Lib.hid (KS0.out.join (us := [Mm.tsl Mm.int 3 l (.slice A0 n0' c0) f0, Mm.tsl Mm.way 22 (List.replicate n2 []) (.slice A1 n1' c1) f1, Mm.tblk gp 28 zBk]) hX)
  clear hX
  obtain rfl : n0' = n := by have := hn0.out; have := HLN.out; omega
  obtain rfl : n1' = n2 := by have := hn1.out; simpa using this
  obtain ⟨W3, hW3⟩ : ∃ W, (((((X.setCell ⟨gp, 0, none⟩ (.slice A0 n0' c0)).setCell ⟨gp, 1, none⟩ (.slice A1 n1' c1)).setCell ⟨gp, 2, none⟩ (.slice none 0 0)).setCell ⟨gp, 3, none⟩ (.slice none 0 0)).setCell ⟨gp, 4, none⟩ (.slice none 0 0)) = W := ⟨_, rfl⟩
  have z0 := HX.out.frz (k := 0) 2 rfl
  have z1 := HX.out.frz (k := 1) 2 rfl
  have z2 := HX.out.frz (k := 2) 2 rfl
  have z3 := HX.out.frz (k := 3) 2 rfl
  have z4 := HX.out.frz (k := 4) 2 rfl
  have r0 := HX.out.cell (k := 0) 2 rfl rfl
  have r1 := HX.out.cell (k := 1) 2 rfl rfl
  have r2 := HX.out.cell (k := 2) 2 rfl rfl
  have r3 := HX.out.cell (k := 3) 2 rfl rfl
  have r4 := HX.out.cell (k := 4) 2 rfl rfl
  have HX2 := Lib.hid (((((((((HX.out.setBlk (k := 0) 2 rfl (.slice A0 n0' c0)).setBlk (k := 1) 2 rfl (.slice A1 n1' c1)).setBlk (k := 2) 2 rfl (.slice none 0 0)).setBlk (k := 3) 2 rfl (.slice none 0 0)).setBlk (k := 4) 2 rfl (.slice none 0 0)).atW hW3).add (Below.refl _ _) (t := Mm.tsl ints 22 [] (.slice none 0 0) []) Mm.SlOwn.nil List.nodup_nil (fun b hb => by cases hb)).add (Below.refl _ _) (t := Mm.tsl bools 29 [] (.slice none 0 0) []) Mm.SlOwn.nil List.nodup_nil (fun b hb => by cases hb)).add (Below.refl _ _) (t := Mm.tsl Mm.int 3 [] (.slice none 0 0) []) Mm.SlOwn.nil List.nodup_nil (fun b hb => by cases hb))
  have hm1 := make_intsB n0' H5.out
  have hm2 := make_boolsB n0' H5.out
  go_upto_region 5 with fail
  clear z0 z1 z2 z3 z4 r0 r1 r2 r3 r4 hW3 KS0 hmk HX HL1
  go_wp2
  go_loopg [6] n0' (fun g i wx => ∃ (k : Nat) (A2 : Option Addr) (c2 : Nat) (f2 : List Nat) (A3 : Option Addr) (c3 : Nat) (f3 : List Nat) (A4 : Option Addr) (c4 : Nat) (f4 : List Nat), n0' - k ≤ g ∧ k ≤ n0' ∧ i = .int .i64 k ∧ Hid (Mm.SepF [] w wx [Mm.tsl Mm.int 3 (List.replicate k (-1)) (.slice A2 k c2) f2, Mm.tsl bools 29 (List.replicate k (List.replicate n0' false)) (.slice A3 k c3) f3, Mm.tsl ints 22 (List.replicate k (List.replicate n0' 0)) (.slice A4 k c4) f4, Mm.tsl Mm.int 3 l (.slice A0 n0' c0) f0, Mm.tsl Mm.way 22 (List.replicate n1' []) (.slice A1 n1' c1) f1, Mm.tblk gp 28 [.slice A0 n0' c0, .slice A1 n1' c1, .slice A2 k c2, .slice A3 k c3, .slice A4 k c4], Mm.tblk gz 28 zBk]))
  case atStart => exact ⟨0, none, 0, [], none, 0, [], none, 0, [], Nat.le_refl _, Nat.zero_le _, rfl, HX2⟩
  case round =>
    clear HX2
    obtain ⟨k, A2, c2, f2, A3, c3, f3, A4, c4, f4, hgk, hk, rfl, HS⟩ := hrel
    obtain ⟨W, rfl⟩ : ∃ W : World, W = wr := ⟨_, rfl⟩
    by_cases hlt : k < n0'
    · as_aux_lemma =>
      have hlt' : (k : Int) < (n0' : Nat) := by omega
      obtain ⟨iA, hiA, hA0, hA1, hA2⟩ := info_parts Try.infoBoolsB
      obtain ⟨iB, hiB, hB0, hB1, hB2⟩ := info_parts Try.infoIntsB
      have d2 := HS.out.cell (k := 2) 5 rfl rfl
      have HRL : Hid ((List.replicate k (-1 : Int)).length = k) := Lib.hid (by simp)
      go_upto_region 9 with (at_builtin; refine Mm.app_list (x := (-1 : Int)) HS.out 0 rfl rfl (.tmp 32) (.tmp 33) 22 rfl iI _ 8 Try.underlying22 qI qI0 qI1 qI2 rfl (by decide) rfl rfl (fun W => ⟨rfl, by unfold Mm.I64; omega, rfl⟩) HRL.out (by unfold maxLen; omega) (by omega) ?_; intro gg cap w' fp' hs; (have HS1 := Lib.hid hs); clear hs; clear d2; (have d2 := HS1.out.cell (k := 2) 5 rfl rfl); (have y2 := HS1.out.frz (k := 2) 5 rfl))
      clear d2 y2 HS
      obtain ⟨Wa, hWa⟩ : ∃ V, w'.setCell ⟨gp, 2, none⟩ (.slice (some ⟨gg, 0, none⟩) (k + 1) cap) = V := ⟨_, rfl⟩
      have HS2 := Lib.hid ((HS1.out.setBlk (k := 2) 5 rfl (.slice (some ⟨gg, 0, none⟩) (k + 1) cap)).atW hWa)
      rw [hWa]
      clear hWa HS1
      have d3 := HS2.out.cell (k := 3) 5 rfl rfl
      have n3 : gp ∉ f3 := fun hh => HS2.out.apart (i := 5) (j := 1) rfl rfl (by decide) gp (by simp [Mm.tblk]) hh
      refine Mm.wp_region_give 7 (fun i => match i with | 3 => some (Mm.gSl Mm.bool 4 (List.replicate n0' false)) | 4 => some (Mm.gRow Mm.bool 29 4 (List.replicate n0' false)) | 5 => some (Mm.gSl bools 29 (List.replicate k (List.replicate n0' false) ++ [List.replicate n0' false])) | _ => none) (fun i => match i with | 4 => [3] | 5 => [4, 8] | _ => []) (fun i => match i with | 8 => [Mm.tsl bools 29 (List.replicate k (List.replicate n0' false)) (.slice A3 k c3) f3] | _ => []) (F := f3) (D := fun w' => ∃ z : Cha f3 Wa, w' = cha f3 Wa z) (fun X us h => Mm.sep_cha h) (by kernel_rfl) (by kernel_rfl) (by kernel_rfl) (Mm.sep_eq ((Mm.SepF.one (Mm.tsl bools 29 (List.replicate k (List.replicate n0' false)) (.slice A3 k c3) f3) Wa (HS2.out.sl 1 rfl) (HS2.out.ndat (i := 1) rfl)).step (Below.refl _ _).drew) rfl) ?_
      repeat (refine Mm.give_det (by rfl) (by rfl) (by rfl) (fun K hK => ?_); go_big_quiet_op; refine hK _ ?_; clear hK K)
      refine Mm.give_op0 39 (by rfl) rfl (by rfl) (by rfl) (by rfl) (by rfl) Mm.gSl_in (fun others X hX => ?_) ?_
      · go_wp2
        exact Mm.gvq_sl hX (below_new (Below.refl _ _) _) (bools0_own hn5) (by simp) (by simp) rfl rfl
      rintro v ds ⟨Aa, na, ca, fa, rfl, rfl, hna⟩
      simp only [Act.put, List.setIfInBounds_toArray, List.set_cons_succ, List.set_cons_zero]
      repeat (refine Mm.give_det (by rfl) (by rfl) (by rfl) (fun K hK => ?_); go_big_quiet_op; refine hK _ ?_; clear hK K)
      refine Mm.give_op1 40 3 (by rfl) rfl (by rfl) (by rfl) (by rfl) rfl (by rfl) _ rfl Mm.gRow_in (fun others X hX => ?_) ?_
      · go_wp2
        exact Mm.gvq_row hX rfl rfl rfl
      rintro v ds ⟨ga, Ab, nb, cb, fb, rfl, rfl⟩
      simp only [Act.put, List.setIfInBounds_toArray, List.set_cons_succ, List.set_cons_zero]
      repeat (refine Mm.give_det (by rfl) (by rfl) (by rfl) (fun K hK => ?_); go_big_quiet_op; refine hK _ ?_; clear hK K)
      refine Mm.give_op2 41 4 8 (by rfl) rfl (by rfl) (by rfl) (by rfl) rfl (by rfl) (by rfl) (by rfl) _ _ rfl rfl Mm.gSl_in (fun others X6 hX6 => Mm.app_gvr rfl (.tmp 37) (.tmp 40) 26 rfl 41 rfl (by rfl) iA _ 24 Try.underlying26 hiA hA0 hA1 hA2 rfl rfl rfl (by simp; unfold maxLen; omega) (by simp; omega) hX6) ?_
      rintro v ds ⟨Ac, nc, cc, fc, rfl, rfl, hnc⟩
      simp only [Act.put, List.setIfInBounds_toArray, List.set_cons_succ, List.set_cons_zero]
      repeat (refine Mm.give_det (by rfl) (by rfl) (by rfl) (fun K hK => ?_); go_big_quiet_op; refine hK _ ?_; clear hK K)
      refine Mm.give_nil ?_
      rintro X7 hX7
      have hx7 : Mm.SepF f3 Wa X7 [Mm.tsl bools 29 (List.replicate k (List.replicate n0' false) ++ [List.replicate n0' false]) (.slice Ac nc cc) fc] := Mm.sep_eq hX7 rfl
      have HS7 := Lib.hid ((HS2.out.sel [1, 0, 2, 3, 4, 5, 6] (by decide) rfl).callSome (us := [Mm.tsl bools 29 (List.replicate k (List.replicate n0' false)) (.slice A3 k c3) f3]) (rest := _) (by simpa [Mm.tsl] using hx7))
      clear hX7 hx7 d3 n3 HS2
      obtain rfl : nc = k + 1 := by have := hnc.out; simpa using this
      have e3 := HS7.out.cell (k := 3) 5 rfl rfl
      have y3 := HS7.out.frz (k := 3) 5 rfl
      obtain ⟨Wb, hWb⟩ : ∃ V, X7.setCell ⟨gp, 3, none⟩ (.slice Ac (k + 1) cc) = V := ⟨_, rfl⟩
      have HS8 := Lib.hid ((HS7.out.setBlk (k := 3) 5 rfl (.slice Ac (k + 1) cc)).atW hWb)
      go_upto_region 10 with fail
      clear e3 y3 hWb HS7
      have d4 := HS8.out.cell (k := 4) 5 rfl rfl
      have n4 : gp ∉ f4 := fun hh => HS8.out.apart (i := 5) (j := 2) rfl rfl (by decide) gp (by simp [Mm.tblk]) hh
      refine Mm.wp_region_give 7 (fun i => match i with | 3 => some (Mm.gSl Mm.int 3 (List.replicate n0' 0)) | 4 => some (Mm.gRow Mm.int 22 3 (List.replicate n0' 0)) | 5 => some (Mm.gSl ints 22 (List.replicate k (List.replicate n0' 0) ++ [List.replicate n0' 0])) | _ => none) (fun i => match i with | 4 => [3] | 5 => [4, 8] | _ => []) (fun i => match i with | 8 => [Mm.tsl ints 22 (List.replicate k (List.replicate n0' 0)) (.slice A4 k c4) f4] | _ => []) (F := f4) (D := fun w' => ∃ z : Cha f4 Wb, w' = cha f4 Wb z) (fun X us h => Mm.sep_cha h) (by kernel_rfl) (by kernel_rfl) (by kernel_rfl) (Mm.sep_eq ((Mm.SepF.one (Mm.tsl ints 22 (List.replicate k (List.replicate n0' 0)) (.slice A4 k c4) f4) Wb (HS8.out.sl 2 rfl) (HS8.out.ndat (i := 2) rfl)).step (Below.refl _ _).drew) rfl) ?_
      repeat (refine Mm.give_det (by rfl) (by rfl) (by rfl) (fun K hK => ?_); go_big_quiet_op; refine hK _ ?_; clear hK K)
      refine Mm.give_op0 46 (by rfl) rfl (by rfl) (by rfl) (by rfl) (by rfl) Mm.gSl_in (fun others X hX => ?_) ?_
      · go_wp2
        exact Mm.gvq_sl hX (below_new (Below.refl _ _) _) (ints0_own hn5) (by simp) (by simp) rfl rfl
      rintro v ds ⟨Ad, nd, cd, fd, rfl, rfl, hnd⟩
      simp only [Act.put, List.setIfInBounds_toArray, List.set_cons_succ, List.set_cons_zero]
      repeat (refine Mm.give_det (by rfl) (by rfl) (by rfl) (fun K hK => ?_); go_big_quiet_op; refine hK _ ?_; clear hK K)
      refine Mm.give_op1 47 3 (by rfl) rfl (by rfl) (by rfl) (by rfl) rfl (by rfl) _ rfl Mm.gRow_in (fun others X hX => ?_) ?_
      · go_wp2
        exact Mm.gvq_row hX rfl rfl rfl
      rintro v ds ⟨ge, Ae, ne, ce, fe, rfl, rfl⟩
      simp only [Act.put, List.setIfInBounds_toArray, List.set_cons_succ, List.set_cons_zero]
      repeat (refine Mm.give_det (by rfl) (by rfl) (by rfl) (fun K hK => ?_); go_big_quiet_op; refine hK _ ?_; clear hK K)
      refine Mm.give_op2 48 4 8 (by rfl) rfl (by rfl) (by rfl) (by rfl) rfl (by rfl) (by rfl) (by rfl) _ _ rfl rfl Mm.gSl_in (fun others X6 hX6 => Mm.app_gvr rfl (.tmp 44) (.tmp 47) 25 rfl 48 rfl (by rfl) iB _ 24 Try.underlying25 hiB hB0 hB1 hB2 rfl rfl rfl (by simp; unfold maxLen; omega) (by simp; omega) hX6) ?_
      rintro v ds ⟨Af, nf, cf, ff, rfl, rfl, hnf⟩
      simp only [Act.put, List.setIfInBounds_toArray, List.set_cons_succ, List.set_cons_zero]
      repeat (refine Mm.give_det (by rfl) (by rfl) (by rfl) (fun K hK => ?_); go_big_quiet_op; refine hK _ ?_; clear hK K)
      refine Mm.give_nil ?_
      rintro X9 hX9
      have hx9 : Mm.SepF f4 Wb X9 [Mm.tsl ints 22 (List.replicate k (List.replicate n0' 0) ++ [List.replicate n0' 0]) (.slice Af nf cf) ff] := Mm.sep_eq hX9 rfl
      have HS9 := Lib.hid ((HS8.out.sel [2, 0, 1, 3, 4, 5, 6] (by decide) rfl).callSome (us := [Mm.tsl ints 22 (List.replicate k (List.replicate n0' 0)) (.slice A4 k c4) f4]) (rest := _) (by simpa [Mm.tsl] using hx9))
      clear hX9 hx9 d4 n4 HS8
      obtain rfl : nf = k + 1 := by have := hnf.out; simpa using this
      have e4 := HS9.out.cell (k := 4) 5 rfl rfl
      have y4 := HS9.out.frz (k := 4) 5 rfl
      obtain ⟨Wc, hWc⟩ : ∃ V, X9.setCell ⟨gp, 4, none⟩ (.slice Af (k + 1) cf) = V := ⟨_, rfl⟩
      have HS10 := Lib.hid ((HS9.out.setBlk (k := 4) 5 rfl (.slice Af (k + 1) cf)).atW hWc)
      go_wp2
      go_roundg (n0' - (k + 1))
      case measure => omega
      case rel => exact ⟨k + 1, _, cap, fp', Ac, cc, fc, Af, cf, ff, Nat.le_refl _, by omega, by go_num, by rw [List.replicate_succ' (n := k), List.replicate_succ' (n := k), List.replicate_succ' (n := k)]; exact Lib.hid (HS10.out.sel [2, 1, 0, 3, 4, 5, 6] (by decide) rfl)⟩
    · as_aux_lemma =>
      obtain rfl : k = n0' := by omega
      have hlt' : ¬ ((k : Nat) : Int) < (k : Nat) := by omega
      have hk1 : 0 < k := by have := H5.out; omega
      obtain ⟨g2, rfl, -, -⟩ := Mm.sl_addr (HS.out.sl 0 rfl) (by simp; omega)
      obtain ⟨g3, rfl, -, -⟩ := Mm.sl_addr (HS.out.sl 1 rfl) (by simp; omega)
      obtain ⟨g4, rfl, -, -⟩ := Mm.sl_addr (HS.out.sl 2 rfl) (by simp; omega)
      obtain ⟨g0, rfl, -, -⟩ := Mm.sl_addr (HS.out.sl 3 rfl) (by have := HLN.out; omega)
      obtain ⟨g1, rfl, -, -⟩ := Mm.sl_addr (HS.out.sl 4 rfl) (by simp; have := HN2.out; have := Nat.mul_pos hk1 hk1; omega)
      have b0 := HS.out.cell (k := 0) 5 rfl rfl
      have b1 := HS.out.cell (k := 1) 5 rfl rfl
      have b2 := HS.out.cell (k := 2) 5 rfl rfl
      have b3 := HS.out.cell (k := 3) 5 rfl rfl
      have b4 := HS.out.cell (k := 4) 5 rfl rfl
      have z0 := HS.out.frz (k := 0) 6 rfl
      have z1 := HS.out.frz (k := 1) 6 rfl
      have z2 := HS.out.frz (k := 2) 6 rfl
      have z3 := HS.out.frz (k := 3) 6 rfl
      have z4 := HS.out.frz (k := 4) 6 rfl
      have r0 := HS.out.cell (k := 0) 6 rfl rfl
      have r1 := HS.out.cell (k := 1) 6 rfl rfl
      have r2 := HS.out.cell (k := 2) 6 rfl rfl
      have r3 := HS.out.cell (k := 3) 6 rfl rfl
      have r4 := HS.out.cell (k := 4) 6 rfl rfl
      obtain ⟨WF, hWF⟩ : ∃ WQ : World, (((((W.setCell ⟨gz, 0, none⟩ (.slice (some ⟨g0, 0, none⟩) k c0)).setCell ⟨gz, 1, none⟩ (.slice (some ⟨g1, 0, none⟩) n1' c1)).setCell ⟨gz, 2, none⟩ (.slice (some ⟨g2, 0, none⟩) k c2)).setCell ⟨gz, 3, none⟩ (.slice (some ⟨g3, 0, none⟩) k c3)).setCell ⟨gz, 4, none⟩ (.slice (some ⟨g4, 0, none⟩) k c4)) = WQ := ⟨_, rfl⟩
      have HSF := Lib.hid ((((((HS.out.setBlk (k := 0) 6 rfl (.slice (some ⟨g0, 0, none⟩) k c0)).setBlk (k := 1) 6 rfl (.slice (some ⟨g1, 0, none⟩) n1' c1)).setBlk (k := 2) 6 rfl (.slice (some ⟨g2, 0, none⟩) k c2)).setBlk (k := 3) 6 rfl (.slice (some ⟨g3, 0, none⟩) k c3)).setBlk (k := 4) 6 rfl (.slice (some ⟨g4, 0, none⟩) k c4)).atW hWF)
      have u0 := HSF.out.cell (k := 0) 6 rfl rfl
      have u1 := HSF.out.cell (k := 1) 6 rfl rfl
      have u2 := HSF.out.cell (k := 2) 6 rfl rfl
      have u3 := HSF.out.cell (k := 3) 6 rfl rfl
      have u4 := HSF.out.cell (k := 4) 6 rfl rfl
      go_wp2
      exact bodyPost_ret (v := .tuple #[.agg #[.slice (some ⟨g0, 0, none⟩) k c0, .slice (some ⟨g1, 0, none⟩) n1' c1, .slice (some ⟨g2, 0, none⟩) k c2, .slice (some ⟨g3, 0, none⟩) k c3, .slice (some ⟨g4, 0, none⟩) k c4], .bool true]) (by simp [results, Try.results28, go_sem, u0, u1, u2, u3, u4]) rfl (by
        unfold NewBankSAns
        rw [if_pos HF.out]
        refine ⟨[.slice (some ⟨g0, 0, none⟩) k c0, .slice (some ⟨g1, 0, none⟩) n1' c1, .slice (some ⟨g2, 0, none⟩) k c2, .slice (some ⟨g3, 0, none⟩) k c3, .slice (some ⟨g4, 0, none⟩) k c4], rfl, g0, g1, g2, g3, g4, c0, c1, c2, c3, c4, f0, f1, f2, f3, f4, by rw [HN2.out], ?_⟩
        unfold Pl.newBank
        rw [HLN.out, HN2.out]
        exact HSF.out.sel [3, 4, 0, 1, 2] (by decide) rfl)
end Go.Proofs.Ytpmeagchkcffoaa

/-
  Contracts: the reference's bank by value: a copy (l12Own). No conditions beyond those named.
-/
namespace Go.Proofs.Ytpmeagchkcffoaa
open Go.RowKit
attribute [local go_sem] und_cell cha_cell World.cell?_alloc_some
theorem flatN_boolW : Mm.FlatN Mm.bool (fun x => [.bool x]) := ⟨by decide, fun h => by
  obtain ⟨rfl, h1, rfl⟩ := h
  exact ⟨rfl, rfl, fun w' => ⟨rfl, trivial, rfl⟩⟩⟩
set_option maxRecDepth 100000 in
set_option maxHeartbeats 4000000 in
theorem l12Own_c (b : Bank) (q n : Nat) (cs : List Value) (w : World) (B : Nat) (hh : rBankW.at_ w B b cs) (hB : B ≤ w.heap.size) (hI : Pl.BI q b) (hn : b.Coins.length = n) (hq : q ≤ 900) :
    Calls Try.prog 30 #[.agg cs.toArray] w fun e w' => ∃ cs', e = .returned (.agg cs'.toArray) ∧ BankV [] w w' n b cs' [] := by
  obtain ⟨A0, n0, c0, A1, n1, c1, A2, n2, c2, A3, n3, c3, A4, n4, c4, rfl, r0, r1, r2, r3, r4⟩ := rBankW_at hh
  have hn5 : n ≤ 5 := by rw [← hn]; exact hI.n5
  have hn1 : 1 ≤ n := by rw [← hn]; exact hI.n1
  have hn25 := sq_le hn5
  obtain ⟨nn, hnn⟩ : ∃ nn, n * n = nn := ⟨_, rfl⟩
  have HNN := Lib.hid hnn
  have HI := Lib.hid hI
  have HN := Lib.hid hn
  obtain rfl : n0 = n := by have := r0.1; omega
  obtain rfl : n1 = nn := by have h1 := r1.1; rw [hI.wa, hn] at h1; omega
  obtain rfl : n2 = n0 := by have h1 := r2.1; rw [hI.ke] at h1; omega
  obtain rfl : n3 = n2 := by have h1 := r3.1; rw [hI.he] at h1; omega
  obtain rfl : n4 = n3 := by have h1 := r4.1; rw [hI.fo] at h1; omega
  rw [hnn] at hn25
  have G1 : Hid (b.Ways.length = n1) := Lib.hid r1.1
  have G3 : Hid (b.Heard.length = n4) := Lib.hid r3.1
  have G4 : Hid (b.Found.length = n4) := Lib.hid r4.1
  obtain ⟨ga, hga⟩ : ∃ g, w.heap.size = g := ⟨_, rfl⟩
  obtain ⟨gz, hgz⟩ : ∃ g, ga + 1 = g := ⟨_, rfl⟩
  obtain ⟨W1, hW1⟩ : ∃ V, (w.alloc (.cells #[.slice A0 n4 c0, .slice A1 n1 c1, .slice A2 n4 c2, .slice A3 n4 c3, .slice A4 n4 c4] 28)).alloc (.cells #[.slice none 0 0, .slice none 0 0, .slice none 0 0, .slice none 0 0, .slice none 0 0] 28) = V := ⟨_, rfl⟩
  have KS1 := Lib.hid ((((Mm.SepF.start w).alloc' hga 28 [.slice A0 n4 c0, .slice A1 n1 c1, .slice A2 n4 c2, .slice A3 n4 c3, .slice A4 n4 c4]).alloc' (g := gz) (by rw [Mm.sz1, hga, hgz]) 28 zBk).atW hW1)
  have HBW := Lib.hid hB
  have HGA := Lib.hid hga
  have S0 := Lib.hid (r0.keep (w' := W1) (fun b hb => KS1.out.bel0.block b (by omega)))
  have S2 := Lib.hid (r2.keep (w' := W1) (fun b hb => KS1.out.bel0.block b (by omega)))
  have R1 := Lib.hid r1
  have R3 := Lib.hid r3
  have R4 := Lib.hid r4
  obtain ⟨iI, qI, qI0, qI1, qI2⟩ := info_parts Try.infoIntB
  obtain ⟨iB, qB, qB0, qB1, qB2⟩ := info_parts Try.infoBoolW
  obtain ⟨jA, hjA, jA0, jA1, jA2⟩ := info_parts Try.infoBoolsB
  obtain ⟨jB, hjB, jB0, jB1, jB2⟩ := info_parts Try.infoIntsB
  have hsz1 := KS1.out.bel0.size
  clear hh r0 r1 r2 r3 r4 hI hn hnn hB
  have b0 := KS1.out.cell (k := 0) 1 rfl rfl
  have b2 := KS1.out.cell (k := 2) 1 rfl rfl
  go_enter Try.func30, Try.ntmps30
  go_upto_region 1 with fail
  clear hW1 hga hgz
  refine Mm.wp_region_give 10 (fun i => match i with | 0 => some (Mm.gSl Mm.int 3 []) | 3 => some (Mm.gSl Mm.int 3 b.Coins) | 4 => some (Mm.gSl Mm.int 3 []) | 7 => some (Mm.gSl Mm.int 3 b.Kept) | 9 => some (Mm.gPtr 28 zBk) | _ => none) (fun i => match i with | 3 => [0] | 7 => [4] | _ => []) (fun _ => []) (F := []) (D := fun w' => ∃ x : Und W1, w' = und W1 x) (fun X us h => Mm.sep_und h) (by kernel_rfl) (by kernel_rfl) (by kernel_rfl) (Mm.SepF.startDrew _) ?_
  repeat (refine Mm.give_det (by rfl) (by rfl) (by rfl) (fun K hK => ?_); go_big_quiet_op; refine hK _ ?_; clear hK K)
  refine Mm.give_op0 7 (by rfl) rfl (by rfl) (by rfl) (by rfl) (by rfl) Mm.gSl_in (fun others X hX => ?_) ?_
  · go_wp2
    exact Mm.gvq_fresh hX rfl rfl rfl
  rintro v ds ⟨Ax, nx, cx, fx, rfl, rfl, hnx⟩
  simp only [Act.put, List.setIfInBounds_toArray, List.set_cons_succ, List.set_cons_zero]
  repeat (refine Mm.give_det (by rfl) (by rfl) (by rfl) (fun K hK => ?_); go_big_quiet_op; refine hK _ ?_; clear hK K)
  refine Mm.give_op1 10 0 (by rfl) rfl (by rfl) (by rfl) (by rfl) rfl (by rfl) _ rfl Mm.gSl_in (fun others X hX => Mm.clone_gvq rfl (.tmp 7) (.tmp 9) 22 rfl 10 rfl (by rfl) Mm.flat_int Mm.flatN_int' iI _ 8 Try.underlying22 qI qI0 qI1 qI2 rfl rfl rfl (S0.out.keep (fun b hb => hX.bel0.block b (by have := HBW.out; omega))) (by unfold maxLen; omega) (by omega) hX) ?_
  rintro v ds ⟨D0, m0, d0, f0, rfl, rfl, hm0⟩
  simp only [Act.put, List.setIfInBounds_toArray, List.set_cons_succ, List.set_cons_zero]
  repeat (refine Mm.give_det (by rfl) (by rfl) (by rfl) (fun K hK => ?_); go_big_quiet_op; refine hK _ ?_; clear hK K)
  refine Mm.give_op0 11 (by rfl) rfl (by rfl) (by rfl) (by rfl) (by rfl) Mm.gSl_in (fun others X hX => ?_) ?_
  · go_wp2
    exact Mm.gvq_fresh hX rfl rfl rfl
  rintro v ds ⟨Ay, ny, cy, fy, rfl, rfl, hny⟩
  simp only [Act.put, List.setIfInBounds_toArray, List.set_cons_succ, List.set_cons_zero]
  repeat (refine Mm.give_det (by rfl) (by rfl) (by rfl) (fun K hK => ?_); go_big_quiet_op; refine hK _ ?_; clear hK K)
  refine Mm.give_op1 14 4 (by rfl) rfl (by rfl) (by rfl) (by rfl) rfl (by rfl) _ rfl Mm.gSl_in (fun others X hX => Mm.clone_gvq rfl (.tmp 11) (.tmp 13) 22 rfl 14 rfl (by rfl) Mm.flat_int Mm.flatN_int' iI _ 8 Try.underlying22 qI qI0 qI1 qI2 rfl rfl rfl (S2.out.keep (fun b hb => hX.bel0.block b (by have := HBW.out; omega))) (by unfold maxLen; omega) (by omega) hX) ?_
  rintro v ds ⟨D2, m2, d2, f2, rfl, rfl, hm2⟩
  simp only [Act.put, List.setIfInBounds_toArray, List.set_cons_succ, List.set_cons_zero]
  repeat (refine Mm.give_det (by rfl) (by rfl) (by rfl) (fun K hK => ?_); go_big_quiet_op; refine hK _ ?_; clear hK K)
  refine Mm.give_op0 3 (by rfl) rfl (by rfl) (by rfl) (by rfl) (by rfl) Mm.gPtr_in (fun others X hX => ?_) ?_
  · go_wp2
    exact Mm.gvq_ptr hX rfl rfl rfl
  rintro v ds ⟨gp, rfl, rfl⟩
  simp only [Act.put, List.setIfInBounds_toArray, List.set_cons_succ, List.set_cons_zero]
  refine Mm.give_nil ?_
  rintro X hX
  have HX := Lib.hid (KS1.out.join (us := [Mm.tsl Mm.int 3 b.Coins (.slice D0 m0 d0) f0, Mm.tsl Mm.int 3 b.Kept (.slice D2 m2 d2) f2, Mm.tblk gp 28 zBk]) hX)
  clear hX b0 b2
  obtain rfl : m0 = n4 := by have := hm0.out; have := HN.out; omega
  obtain rfl : m0 = m2 := by have := hm2.out; have := HI.out.ke; have := HN.out; omega
  obtain ⟨W3, hW3⟩ : ∃ W, (((((X.setCell ⟨gp, 0, none⟩ (.slice D0 m0 d0)).setCell ⟨gp, 1, none⟩ (.slice none 0 0)).setCell ⟨gp, 2, none⟩ (.slice D2 m0 d2)).setCell ⟨gp, 3, none⟩ (.slice none 0 0)).setCell ⟨gp, 4, none⟩ (.slice none 0 0)) = W := ⟨_, rfl⟩
  have z0 := HX.out.frz (k := 0) 2 rfl
  have z1 := HX.out.frz (k := 1) 2 rfl
  have z2 := HX.out.frz (k := 2) 2 rfl
  have z3 := HX.out.frz (k := 3) 2 rfl
  have z4 := HX.out.frz (k := 4) 2 rfl
  have r0 := HX.out.cell (k := 0) 2 rfl rfl
  have r1 := HX.out.cell (k := 1) 2 rfl rfl
  have r2 := HX.out.cell (k := 2) 2 rfl rfl
  have r3 := HX.out.cell (k := 3) 2 rfl rfl
  have r4 := HX.out.cell (k := 4) 2 rfl rfl
  have HX2 := Lib.hid (((((((HX.out.setBlk (k := 0) 2 rfl (.slice D0 m0 d0)).setBlk (k := 1) 2 rfl (.slice none 0 0)).setBlk (k := 2) 2 rfl (.slice D2 m0 d2)).setBlk (k := 3) 2 rfl (.slice none 0 0)).setBlk (k := 4) 2 rfl (.slice none 0 0)).atW hW3).add (Below.refl _ _) (t := Mm.tsl ints 22 [] (.slice none 0 0) []) Mm.SlOwn.nil List.nodup_nil (fun b hb => by cases hb))
  have b1 := HX2.out.cell (k := 1) 5 rfl rfl
  go_upto_region 2 with fail
  clear z0 z1 z2 z3 z4 r0 r1 r2 r3 r4 hW3 HX S0 S2
  go_wp2
  clear b1
  go_loopg [19] n1 (fun g i wx => ∃ (k : Nat) (AW : Option Addr) (cw : Nat) (fw : List Nat), n1 - k ≤ g ∧ k ≤ n1 ∧ i = .int .i64 k ∧ Hid (Mm.SepF [] w wx [Mm.tsl ints 22 (b.Ways.take k) (.slice AW k cw) fw, Mm.tsl Mm.int 3 b.Coins (.slice D0 m0 d0) f0, Mm.tsl Mm.int 3 b.Kept (.slice D2 m0 d2) f2, Mm.tblk gp 28 [.slice D0 m0 d0, .slice AW k cw, .slice D2 m0 d2, .slice none 0 0, .slice none 0 0], Mm.tblk gz 28 zBk, Mm.tblk ga 28 [.slice A0 m0 c0, .slice A1 n1 c1, .slice A2 m0 c2, .slice A3 m0 c3, .slice A4 m0 c4]]))
  case atStart => exact ⟨0, none, 0, [], Nat.le_refl _, Nat.zero_le _, rfl, HX2⟩
  case round =>
    clear HX2
    obtain ⟨k, AW, cw, fw, hgk, hk', rfl, HS⟩ := hrel
    obtain ⟨W, rfl⟩ : ∃ W : World, W = wr := ⟨_, rfl⟩
    have hbel := HS.out.bel0
    have hsw := hbel.size
    by_cases hlt : k < n1
    · as_aux_lemma =>
      have hlt' : (k : Int) < (n1 : Nat) := by omega
      obtain ⟨x, b0, off, Ar, nr, cr, hx, rfl, hb, hr, e0⟩ := ints_get (R1.out.keep (w' := W) (fun b hb => hbel.block b (by have := HBW.out; omega))) hlt
      have hnr : nr ≤ 900 := by have := HI.out.wl x (List.mem_of_getElem? hx); have := hr.1; omega
      have HRD := Lib.hid hr
      have HNX := Lib.hid (Mm.take_succ_some hx)
      have HTL : Hid ((b.Ways.take k).length = k) := Lib.hid (List.length_take_of_le (by rw [G1.out]; omega))
      have d1 := HS.out.cell (k := 1) 3 rfl rfl
      have nG : gp ∉ fw := fun hh => HS.out.apart (i := 3) (j := 0) rfl rfl (by decide) gp (by simp [Mm.tblk]) hh
      have hBW : B ≤ W.heap.size := by have := HBW.out; omega
      have nB : ∀ b, b < B → b ∉ fw := fun b hb hh => by
        have := (HS.out.slnew 0 rfl b hh).1
        rcases this with h | h
        · cases h
        · have := HBW.out; omega
      clear hx hr
      go_upto_region 5 with fail
      refine Mm.wp_region_give 8 (fun i => match i with | 2 => some (Mm.gSl Mm.int 3 []) | 4 => some (Mm.gSl Mm.int 3 x) | 5 => some (Mm.gRow Mm.int 22 3 x) | 6 => some (Mm.gSl ints 22 ((b.Ways.take k) ++ [x])) | _ => none) (fun i => match i with | 4 => [2] | 5 => [4] | 6 => [5, 9] | _ => []) (fun i => match i with | 9 => [Mm.tsl ints 22 (b.Ways.take k) (.slice AW k cw) fw] | _ => []) (F := fw) (D := fun w' => ∃ z : Cha fw W, w' = cha fw W z) (fun X us h => Mm.sep_cha h) (by kernel_rfl) (by kernel_rfl) (by kernel_rfl) (Mm.sep_eq ((Mm.SepF.one (Mm.tsl ints 22 (b.Ways.take k) (.slice AW k cw) fw) W (HS.out.sl 0 rfl) (HS.out.ndat (i := 0) rfl)).step (Below.refl _ _).drew) rfl) ?_
      repeat (refine Mm.give_det (by rfl) (by rfl) (by rfl) (fun K hK => ?_); go_big_quiet_op; refine hK _ ?_; clear hK K)
      refine Mm.give_op0 25 (by rfl) rfl (by rfl) (by rfl) (by rfl) (by rfl) Mm.gSl_in (fun others X hX => ?_) ?_
      · go_wp2
        exact Mm.gvq_fresh hX rfl rfl rfl
      rintro v ds ⟨Aa, na, ca, fa, rfl, rfl, hna⟩
      simp only [Act.put, List.setIfInBounds_toArray, List.set_cons_succ, List.set_cons_zero]
      repeat (refine Mm.give_det (by rfl) (by rfl) (by rfl) (fun K hK => ?_); go_big_quiet_op; refine hK _ ?_; clear hK K)
      refine Mm.give_op1 27 2 (by rfl) rfl (by rfl) (by rfl) (by rfl) rfl (by rfl) _ rfl Mm.gSl_in (fun others X hX => Mm.clone_gvq rfl (.tmp 25) (.tmp 26) 22 rfl 27 rfl (by rfl) Mm.flat_int Mm.flatN_int' iI _ 8 Try.underlying22 qI qI0 qI1 qI2 rfl rfl rfl (HRD.out.keep (fun b hb => hX.chg.block b (by omega) (nB b hb))) (by unfold maxLen; omega) (by omega) hX) ?_
      rintro v ds ⟨Ab, nb', cb, fb, rfl, rfl, hnb⟩
      simp only [Act.put, List.setIfInBounds_toArray, List.set_cons_succ, List.set_cons_zero]
      repeat (refine Mm.give_det (by rfl) (by rfl) (by rfl) (fun K hK => ?_); go_big_quiet_op; refine hK _ ?_; clear hK K)
      refine Mm.give_op1 28 4 (by rfl) rfl (by rfl) (by rfl) (by rfl) rfl (by rfl) _ rfl Mm.gRow_in (fun others X hX => ?_) ?_
      · go_wp2
        exact Mm.gvq_row hX rfl rfl rfl
      rintro v ds ⟨ge, Ac', nc', cc', fc', rfl, rfl⟩
      simp only [Act.put, List.setIfInBounds_toArray, List.set_cons_succ, List.set_cons_zero]
      repeat (refine Mm.give_det (by rfl) (by rfl) (by rfl) (fun K hK => ?_); go_big_quiet_op; refine hK _ ?_; clear hK K)
      refine Mm.give_op2 29 5 9 (by rfl) rfl (by rfl) (by rfl) (by rfl) rfl (by rfl) (by rfl) (by rfl) _ _ rfl rfl Mm.gSl_in (fun others X6 hX6 => Mm.app_gvr rfl (.tmp 24) (.tmp 28) 25 rfl 29 rfl (by rfl) jB _ 24 Try.underlying25 hjB jB0 jB1 jB2 rfl rfl rfl (by rw [HTL.out]; unfold maxLen; omega) (by rw [HTL.out]; omega) hX6) ?_
      rintro v ds ⟨Ad, nd, cd, fd, rfl, rfl, hnd⟩
      simp only [Act.put, List.setIfInBounds_toArray, List.set_cons_succ, List.set_cons_zero]
      repeat (refine Mm.give_det (by rfl) (by rfl) (by rfl) (fun K hK => ?_); go_big_quiet_op; refine hK _ ?_; clear hK K)
      refine Mm.give_nil ?_
      rintro X7 hX7
      have hx7 : Mm.SepF fw W X7 [Mm.tsl ints 22 ((b.Ways.take k) ++ [x]) (.slice Ad nd cd) fd] := Mm.sep_eq hX7 rfl
      obtain rfl : nd = k + 1 := by have h1 := hnd.out; rw [List.length_append, HTL.out] at h1; simpa using h1
      clear hX7 hna hnb hnd
      have HS7 := Lib.hid (HS.out.callSome (us := [Mm.tsl ints 22 (b.Ways.take k) (.slice AW k cw) fw]) (rest := _) (by simpa [Mm.tsl] using hx7))
      clear hx7 d1 nG e0
      have e1 := HS7.out.cell (k := 1) 3 rfl rfl
      have y1 := HS7.out.frz (k := 1) 3 rfl
      have HS8 := Lib.hid (HS7.out.setBlk (k := 1) 3 rfl (.slice Ad (k + 1) cd))
      go_wp2
      go_roundg (n1 - (k + 1))
      case measure => omega
      case rel => exact ⟨k + 1, Ad, cd, fd, Nat.le_refl _, by omega, by go_num, by rw [HNX.out]; exact HS8⟩
    · as_aux_lemma =>
      obtain rfl : k = n1 := by omega
      have hlt' : ¬ ((k : Nat) : Int) < (k : Nat) := by omega
      have HE : Hid (b.Ways.take k = b.Ways) := Lib.hid (List.take_of_length_le (by rw [G1.out]; exact Nat.le_refl _))
      rw [HE.out] at HS
      have b3 := HS.out.cell (k := 3) 5 rfl rfl
      have HX3 := Lib.hid ((HS.out.add (Below.refl _ _) (t := Mm.tsl ints 22 [] (.slice none 0 0) []) Mm.SlOwn.nil List.nodup_nil (fun b hb => by cases hb)).add (Below.refl _ _) (t := Mm.tsl bools 29 [] (.slice none 0 0) []) Mm.SlOwn.nil List.nodup_nil (fun b hb => by cases hb))
      go_wp2
      clear b3 HS hbel hsw hlt hlt'
      go_loopg [35] m0 (fun g i wx => ∃ (j : Nat) (AH : Option Addr) (ch : Nat) (fh : List Nat) (AF : Option Addr) (cf : Nat) (ff : List Nat), m0 - j ≤ g ∧ j ≤ m0 ∧ i = .int .i64 j ∧ Hid (Mm.SepF [] w wx [Mm.tsl bools 29 (b.Heard.take j) (.slice AH j ch) fh, Mm.tsl ints 22 (b.Found.take j) (.slice AF j cf) ff, Mm.tsl ints 22 b.Ways (.slice AW k cw) fw, Mm.tsl Mm.int 3 b.Coins (.slice D0 m0 d0) f0, Mm.tsl Mm.int 3 b.Kept (.slice D2 m0 d2) f2, Mm.tblk gp 28 [.slice D0 m0 d0, .slice AW k cw, .slice D2 m0 d2, .slice AH j ch, .slice AF j cf], Mm.tblk gz 28 zBk, Mm.tblk ga 28 [.slice A0 m0 c0, .slice A1 k c1, .slice A2 m0 c2, .slice A3 m0 c3, .slice A4 m0 c4]]))
      case atStart => exact ⟨0, none, 0, [], none, 0, [], Nat.le_refl _, Nat.zero_le _, rfl, HX3⟩
      case round =>
        clear HX3
        obtain ⟨j, AH, ch, fh, AF, cf, ff, hgj, hj', rfl, HS⟩ := hrel
        obtain ⟨W, rfl⟩ : ∃ W : World, W = wr := ⟨_, rfl⟩
        have hbel := HS.out.bel0
        have hsw := hbel.size
        by_cases hlt : j < m0
        · as_aux_lemma =>
          have hlt' : (j : Int) < (m0 : Nat) := by omega
          have fj1 : (0 : Int) ≤ (j : Nat) := by omega
          have fj2 : ((j : Nat) : Int).toNat = j := by omega
          obtain ⟨x, b0, off, Ar, nr, cr, hx, rfl, hb, hr, e0⟩ := bools_get (R3.out.keep (w' := W) (fun b hb => hbel.block b (by have := HBW.out; omega))) hlt
          have hnr : nr ≤ 900 := by have := HI.out.hr x (List.mem_of_getElem? hx); have := hr.1; have := HN.out; omega
          have HRD := Lib.hid hr
          have HNX := Lib.hid (Mm.take_succ_some hx)
          have HTL : Hid ((b.Heard.take j).length = j) := Lib.hid (List.length_take_of_le (by rw [G3.out]; omega))
          have d3 := HS.out.cell (k := 3) 5 rfl rfl
          have b3 := HS.out.cell (k := 3) 7 rfl rfl
          have nG : gp ∉ fh := fun hh => HS.out.apart (i := 5) (j := 0) rfl rfl (by decide) gp (by simp [Mm.tblk]) hh
          have nA : ga ∉ fh := fun hh => HS.out.apart (i := 7) (j := 0) rfl rfl (by decide) ga (by simp [Mm.tblk]) hh
          have hBW : B ≤ W.heap.size := by have := HBW.out; omega
          have nB : ∀ b, b < B → b ∉ fh := fun b hb hh => by
            have := (HS.out.slnew 0 rfl b hh).1
            rcases this with h | h
            · cases h
            · have := HBW.out; omega
          have nb0 : b0 ∉ fh := nB b0 hb
          clear hx hr
          go_upto_region 10 with fail
          refine Mm.wp_region_give 12 (fun i => match i with | 2 => some (Mm.gSl Mm.bool 4 []) | 8 => some (Mm.gSl Mm.bool 4 x) | 9 => some (Mm.gRow Mm.bool 29 4 x) | 10 => some (Mm.gSl bools 29 ((b.Heard.take j) ++ [x])) | _ => none) (fun i => match i with | 8 => [2] | 9 => [8] | 10 => [9, 13] | _ => []) (fun i => match i with | 13 => [Mm.tsl bools 29 (b.Heard.take j) (.slice AH j ch) fh] | _ => []) (F := fh) (D := fun w' => ∃ z : Cha fh W, w' = cha fh W z) (fun X us h => Mm.sep_cha h) (by kernel_rfl) (by kernel_rfl) (by kernel_rfl) (Mm.sep_eq ((Mm.SepF.one (Mm.tsl bools 29 (b.Heard.take j) (.slice AH j ch) fh) W (HS.out.sl 0 rfl) (HS.out.ndat (i := 0) rfl)).step (Below.refl _ _).drew) rfl) ?_
          repeat (refine Mm.give_det (by rfl) (by rfl) (by rfl) (fun K hK => ?_); go_big_quiet_op; refine hK _ ?_; clear hK K)
          refine Mm.give_op0 40 (by rfl) rfl (by rfl) (by rfl) (by rfl) (by rfl) Mm.gSl_in (fun others X hX => ?_) ?_
          · go_wp2
            exact Mm.gvq_fresh hX rfl rfl rfl
          rintro v ds ⟨Aa, na, ca, fa, rfl, rfl, hna⟩
          simp only [Act.put, List.setIfInBounds_toArray, List.set_cons_succ, List.set_cons_zero]
          repeat (refine Mm.give_det (by rfl) (by rfl) (by rfl) (fun K hK => ?_); go_big_quiet_op; refine hK _ ?_; clear hK K)
          refine Mm.give_op1 46 2 (by rfl) rfl (by rfl) (by rfl) (by rfl) rfl (by rfl) _ rfl Mm.gSl_in (fun others X hX => Mm.clone_gvq rfl (.tmp 40) (.tmp 45) 29 rfl 46 rfl (by rfl) Mm.flat_bool flatN_boolW iB _ 1 Try.underlying29 qB qB0 qB1 qB2 rfl rfl rfl (HRD.out.keep (fun b hb => hX.chg.block b (by omega) (nB b hb))) (by unfold maxLen; omega) (by omega) hX) ?_
          rintro v ds ⟨Ab, nb', cb, fb, rfl, rfl, hnb⟩
          simp only [Act.put, List.setIfInBounds_toArray, List.set_cons_succ, List.set_cons_zero]
          repeat (refine Mm.give_det (by rfl) (by rfl) (by rfl) (fun K hK => ?_); go_big_quiet_op; refine hK _ ?_; clear hK K)
          refine Mm.give_op1 47 8 (by rfl) rfl (by rfl) (by rfl) (by rfl) rfl (by rfl) _ rfl Mm.gRow_in (fun others X hX => ?_) ?_
          · go_wp2
            exact Mm.gvq_row hX rfl rfl rfl
          rintro v ds ⟨ge, Ac', nc', cc', fc', rfl, rfl⟩
          simp only [Act.put, List.setIfInBounds_toArray, List.set_cons_succ, List.set_cons_zero]
          repeat (refine Mm.give_det (by rfl) (by rfl) (by rfl) (fun K hK => ?_); go_big_quiet_op; refine hK _ ?_; clear hK K)
          refine Mm.give_op2 48 9 13 (by rfl) rfl (by rfl) (by rfl) (by rfl) rfl (by rfl) (by rfl) (by rfl) _ _ rfl rfl Mm.gSl_in (fun others X6 hX6 => Mm.app_gvr rfl (.tmp 39) (.tmp 47) 26 rfl 48 rfl (by rfl) jA _ 24 Try.underlying26 hjA jA0 jA1 jA2 rfl rfl rfl (by rw [HTL.out]; unfold maxLen; omega) (by rw [HTL.out]; omega) hX6) ?_
          rintro v ds ⟨Ad, nd, cd, fd, rfl, rfl, hnd⟩
          simp only [Act.put, List.setIfInBounds_toArray, List.set_cons_succ, List.set_cons_zero]
          repeat (refine Mm.give_det (by rfl) (by rfl) (by rfl) (fun K hK => ?_); go_big_quiet_op; refine hK _ ?_; clear hK K)
          refine Mm.give_nil ?_
          rintro X7 hX7
          have hx7 : Mm.SepF fh W X7 [Mm.tsl bools 29 ((b.Heard.take j) ++ [x]) (.slice Ad nd cd) fd] := Mm.sep_eq hX7 rfl
          obtain rfl : nd = j + 1 := by have h1 := hnd.out; rw [List.length_append, HTL.out] at h1; simpa using h1
          clear hX7 hna hnb hnd
          have HS7 := Lib.hid (HS.out.callSome (us := [Mm.tsl bools 29 (b.Heard.take j) (.slice AH j ch) fh]) (rest := _) (by simpa [Mm.tsl] using hx7))
          have hgrow := hx7.chg.size
          clear hx7 d3 b3 nG nA nb0 nB e0
          obtain ⟨Wb, hWb⟩ : ∃ V, X7.setCell ⟨gp, 3, none⟩ (.slice Ad (j + 1) cd) = V := ⟨_, rfl⟩
          have e3 := HS7.out.cell (k := 3) 5 rfl rfl
          have y3 := HS7.out.frz (k := 3) 5 rfl
          have HS8 := Lib.hid ((HS7.out.setBlk (k := 3) 5 rfl (.slice Ad (j + 1) cd)).atW hWb)
          rw [← HNX.out] at HS8
          obtain ⟨fh', rfl⟩ : ∃ q, q = fd := ⟨_, rfl⟩
          obtain ⟨AH', rfl⟩ : ∃ q, q = Ad := ⟨_, rfl⟩
          obtain ⟨ch', rfl⟩ : ∃ q, q = cd := ⟨_, rfl⟩
          go_upto_region 11 with fail
          clear hWb e3 y3 HS7 HNX HTL HRD hnr HS
          clear hbel hsw
          have hbel := HS8.out.bel0
          have hsw := hbel.size
          obtain ⟨x, b1, off1, Ar1, nr, cr1, hx, rfl, hb1, hr, e0⟩ := ints_get (R4.out.keep (w' := Wb) (fun b hb => hbel.block b (by have := HBW.out; omega))) hlt
          have hnr : nr ≤ 900 := by have := HI.out.fr x (List.mem_of_getElem? hx); have := hr.1; have := HN.out; omega
          have HRD := Lib.hid hr
          have HNX := Lib.hid (Mm.take_succ_some hx)
          have HTL : Hid ((b.Found.take j).length = j) := Lib.hid (List.length_take_of_le (by rw [G4.out]; omega))
          have d4 := HS8.out.cell (k := 4) 5 rfl rfl
          have b4 := HS8.out.cell (k := 4) 7 rfl rfl
          have nG : gp ∉ ff := fun hh => HS8.out.apart (i := 5) (j := 1) rfl rfl (by decide) gp (by simp [Mm.tblk]) hh
          have nA : ga ∉ ff := fun hh => HS8.out.apart (i := 7) (j := 1) rfl rfl (by decide) ga (by simp [Mm.tblk]) hh
          have hBW : B ≤ Wb.heap.size := by have := HBW.out; omega
          have nB : ∀ b, b < B → b ∉ ff := fun b hb hh => by
            have := (HS8.out.slnew 1 rfl b hh).1
            rcases this with h | h
            · cases h
            · have := HBW.out; omega
          have nb0 : b1 ∉ ff := nB b1 hb1
          clear hx hr
          refine Mm.wp_region_give 12 (fun i => match i with | 2 => some (Mm.gSl Mm.int 3 []) | 8 => some (Mm.gSl Mm.int 3 x) | 9 => some (Mm.gRow Mm.int 22 3 x) | 10 => some (Mm.gSl ints 22 ((b.Found.take j) ++ [x])) | _ => none) (fun i => match i with | 8 => [2] | 9 => [8] | 10 => [9, 13] | _ => []) (fun i => match i with | 13 => [Mm.tsl ints 22 (b.Found.take j) (.slice AF j cf) ff] | _ => []) (F := ff) (D := fun w' => ∃ z : Cha ff Wb, w' = cha ff Wb z) (fun X us h => Mm.sep_cha h) (by kernel_rfl) (by kernel_rfl) (by kernel_rfl) (Mm.sep_eq ((Mm.SepF.one (Mm.tsl ints 22 (b.Found.take j) (.slice AF j cf) ff) Wb (HS8.out.sl 1 rfl) (HS8.out.ndat (i := 1) rfl)).step (Below.refl _ _).drew) rfl) ?_
          repeat (refine Mm.give_det (by rfl) (by rfl) (by rfl) (fun K hK => ?_); go_big_quiet_op; refine hK _ ?_; clear hK K)
          refine Mm.give_op0 52 (by rfl) rfl (by rfl) (by rfl) (by rfl) (by rfl) Mm.gSl_in (fun others X hX => ?_) ?_
          · go_wp2
            exact Mm.gvq_fresh hX rfl rfl rfl
          rintro v ds ⟨Aa, na, ca, fa, rfl, rfl, hna⟩
          simp only [Act.put, List.setIfInBounds_toArray, List.set_cons_succ, List.set_cons_zero]
          repeat (refine Mm.give_det (by rfl) (by rfl) (by rfl) (fun K hK => ?_); go_big_quiet_op; refine hK _ ?_; clear hK K)
          refine Mm.give_op1 58 2 (by rfl) rfl (by rfl) (by rfl) (by rfl) rfl (by rfl) _ rfl Mm.gSl_in (fun others X hX => Mm.clone_gvq rfl (.tmp 52) (.tmp 57) 22 rfl 58 rfl (by rfl) Mm.flat_int Mm.flatN_int' iI _ 8 Try.underlying22 qI qI0 qI1 qI2 rfl rfl rfl (HRD.out.keep (fun b hb => hX.chg.block b (by omega) (nB b hb))) (by unfold maxLen; omega) (by omega) hX) ?_
          rintro v ds ⟨Ab, nb', cb, fb, rfl, rfl, hnb⟩
          simp only [Act.put, List.setIfInBounds_toArray, List.set_cons_succ, List.set_cons_zero]
          repeat (refine Mm.give_det (by rfl) (by rfl) (by rfl) (fun K hK => ?_); go_big_quiet_op; refine hK _ ?_; clear hK K)
          refine Mm.give_op1 59 8 (by rfl) rfl (by rfl) (by rfl) (by rfl) rfl (by rfl) _ rfl Mm.gRow_in (fun others X hX => ?_) ?_
          · go_wp2
            exact Mm.gvq_row hX rfl rfl rfl
          rintro v ds ⟨ge, Ac', nc', cc', fc', rfl, rfl⟩
          simp only [Act.put, List.setIfInBounds_toArray, List.set_cons_succ, List.set_cons_zero]
          repeat (refine Mm.give_det (by rfl) (by rfl) (by rfl) (fun K hK => ?_); go_big_quiet_op; refine hK _ ?_; clear hK K)
          refine Mm.give_op2 60 9 13 (by rfl) rfl (by rfl) (by rfl) (by rfl) rfl (by rfl) (by rfl) (by rfl) _ _ rfl rfl Mm.gSl_in (fun others X6 hX6 => Mm.app_gvr rfl (.tmp 51) (.tmp 59) 25 rfl 60 rfl (by rfl) jB _ 24 Try.underlying25 hjB jB0 jB1 jB2 rfl rfl rfl (by rw [HTL.out]; unfold maxLen; omega) (by rw [HTL.out]; omega) hX6) ?_
          rintro v ds ⟨Ad, nd, cd, fd, rfl, rfl, hnd⟩
          simp only [Act.put, List.setIfInBounds_toArray, List.set_cons_succ, List.set_cons_zero]
          repeat (refine Mm.give_det (by rfl) (by rfl) (by rfl) (fun K hK => ?_); go_big_quiet_op; refine hK _ ?_; clear hK K)
          refine Mm.give_nil ?_
          rintro X7 hX7
          have hx7 : Mm.SepF ff Wb X7 [Mm.tsl ints 22 ((b.Found.take j) ++ [x]) (.slice Ad nd cd) fd] := Mm.sep_eq hX7 rfl
          obtain rfl : nd = j + 1 := by have h1 := hnd.out; rw [List.length_append, HTL.out] at h1; simpa using h1
          clear hX7 hna hnb hnd
          have HS9 := Lib.hid ((HS8.out.sel [1, 0, 2, 3, 4, 5, 6, 7] (by decide) rfl).callSome (us := [Mm.tsl ints 22 (b.Found.take j) (.slice AF j cf) ff]) (rest := _) (by simpa [Mm.tsl] using hx7))
          clear hx7 d4 b4 nG nA nb0 nB e0
          have e4 := HS9.out.cell (k := 4) 5 rfl rfl
          have y4 := HS9.out.frz (k := 4) 5 rfl
          have HS10 := Lib.hid (HS9.out.setBlk (k := 4) 5 rfl (.slice Ad (j + 1) cd))
          go_wp2
          go_roundg (m0 - (j + 1))
          case measure => omega
          case rel => exact ⟨j + 1, AH', ch', fh', Ad, cd, fd, Nat.le_refl _, by omega, by go_num, by rw [HNX.out]; exact Lib.hid (HS10.out.sel [1, 0, 2, 3, 4, 5, 6, 7] (by decide) rfl)⟩
        · as_aux_lemma =>
          obtain rfl : j = m0 := by omega
          have hlt' : ¬ ((j : Nat) : Int) < (j : Nat) := by omega
          have HE3 : Hid (b.Heard.take j = b.Heard) := Lib.hid (List.take_of_length_le (by rw [G3.out]; exact Nat.le_refl _))
          have HE4 : Hid (b.Found.take j = b.Found) := Lib.hid (List.take_of_length_le (by rw [G4.out]; exact Nat.le_refl _))
          rw [HE3.out, HE4.out] at HS
          obtain ⟨h3, rfl, -, -⟩ := Mm.sl_addr (HS.out.sl 0 rfl) (by rw [G3.out]; omega)
          obtain ⟨h4, rfl, -, -⟩ := Mm.sl_addr (HS.out.sl 1 rfl) (by rw [G4.out]; omega)
          obtain ⟨h1, rfl, -, -⟩ := Mm.sl_addr (HS.out.sl 2 rfl) (by rw [G1.out]; have := HNN.out; have := Nat.mul_pos (show 0 < j by omega) (show 0 < j by omega); omega)
          obtain ⟨h0, rfl, -, -⟩ := Mm.sl_addr (HS.out.sl 3 rfl) (by rw [HN.out]; omega)
          obtain ⟨h2, rfl, -, -⟩ := Mm.sl_addr (HS.out.sl 4 rfl) (by rw [HI.out.ke, HN.out]; omega)
          have b0 := HS.out.cell (k := 0) 5 rfl rfl
          have b1 := HS.out.cell (k := 1) 5 rfl rfl
          have b2 := HS.out.cell (k := 2) 5 rfl rfl
          have b3 := HS.out.cell (k := 3) 5 rfl rfl
          have b4 := HS.out.cell (k := 4) 5 rfl rfl
          have z0 := HS.out.frz (k := 0) 6 rfl
          have z1 := HS.out.frz (k := 1) 6 rfl
          have z2 := HS.out.frz (k := 2) 6 rfl
          have z3 := HS.out.frz (k := 3) 6 rfl
          have z4 := HS.out.frz (k := 4) 6 rfl
          have r0 := HS.out.cell (k := 0) 6 rfl rfl
          have r1 := HS.out.cell (k := 1) 6 rfl rfl
          have r2 := HS.out.cell (k := 2) 6 rfl rfl
          have r3 := HS.out.cell (k := 3) 6 rfl rfl
          have r4 := HS.out.cell (k := 4) 6 rfl rfl
          obtain ⟨WF, hWF⟩ : ∃ WQ : World, (((((W.setCell ⟨gz, 0, none⟩ (.slice (some ⟨h0, 0, none⟩) j d0)).setCell ⟨gz, 1, none⟩ (.slice (some ⟨h1, 0, none⟩) k cw)).setCell ⟨gz, 2, none⟩ (.slice (some ⟨h2, 0, none⟩) j d2)).setCell ⟨gz, 3, none⟩ (.slice (some ⟨h3, 0, none⟩) j ch)).setCell ⟨gz, 4, none⟩ (.slice (some ⟨h4, 0, none⟩) j cf)) = WQ := ⟨_, rfl⟩
          have HSF := Lib.hid ((((((HS.out.setBlk (k := 0) 6 rfl (.slice (some ⟨h0, 0, none⟩) j d0)).setBlk (k := 1) 6 rfl (.slice (some ⟨h1, 0, none⟩) k cw)).setBlk (k := 2) 6 rfl (.slice (some ⟨h2, 0, none⟩) j d2)).setBlk (k := 3) 6 rfl (.slice (some ⟨h3, 0, none⟩) j ch)).setBlk (k := 4) 6 rfl (.slice (some ⟨h4, 0, none⟩) j cf)).atW hWF)
          have u0 := HSF.out.cell (k := 0) 6 rfl rfl
          have u1 := HSF.out.cell (k := 1) 6 rfl rfl
          have u2 := HSF.out.cell (k := 2) 6 rfl rfl
          have u3 := HSF.out.cell (k := 3) 6 rfl rfl
          have u4 := HSF.out.cell (k := 4) 6 rfl rfl
          go_wp2
          exact bodyPost_ret (v := .agg #[.slice (some ⟨h0, 0, none⟩) j d0, .slice (some ⟨h1, 0, none⟩) k cw, .slice (some ⟨h2, 0, none⟩) j d2, .slice (some ⟨h3, 0, none⟩) j ch, .slice (some ⟨h4, 0, none⟩) j cf]) (by simp [results, Try.results30, go_sem, u0, u1, u2, u3, u4]) rfl (by
            refine ⟨[.slice (some ⟨h0, 0, none⟩) j d0, .slice (some ⟨h1, 0, none⟩) k cw, .slice (some ⟨h2, 0, none⟩) j d2, .slice (some ⟨h3, 0, none⟩) j ch, .slice (some ⟨h4, 0, none⟩) j cf], rfl, h0, h1, h2, h3, h4, d0, cw, d2, ch, cf, f0, fw, f2, fh, ff, by rw [HNN.out], ?_⟩
            rw [HNN.out]
            exact (SepF.toWay (HSF.out.sel [2, 3, 4, 0, 1] (by decide) rfl)).sel [1, 0, 2, 3, 4] (by decide) rfl)
end Go.Proofs.Ytpmeagchkcffoaa

/-
  Contracts: the reference's bank: a play (PlayBank). No conditions beyond those named.
-/
namespace Go.Proofs.Ytpmeagchkcffoaa
open Go.RowKit
attribute [local go_sem] und_cell cha_cell World.cell?_alloc_some
theorem Pl.bstep_no {b : Bank} {s : SnapStep} (h : (Pl.bstep b s).2 = false) : (Pl.bstep b s).1 = b := by
  unfold Pl.bstep at h ⊢
  dsimp only at h ⊢
  split at h
  · rw [if_pos (by assumption)]
  rename_i h1
  rw [if_neg h1]
  split at h
  · rename_i h2
    rw [if_pos h2]
    split at h
    · cases h
    · rename_i h3; rw [if_neg h3]
  rename_i h2
  rw [if_neg h2]
  split at h
  · rename_i h3
    rw [if_pos h3]
    split at h
    · rfl
    · split at h
      · cases h
      · rename_i h5; rw [if_neg h5]
  rename_i h3
  rw [if_neg h3]
  split at h
  · rename_i h4
    rw [if_pos h4]
    split at h
    · cases h
    · rename_i h5; rw [if_neg h5]
  · rename_i h4; rw [if_neg h4]
theorem towV {F : List Nat} {w0 w : World} {n q : Nat} {x : Bank} {cs : List Value} {fp : List Nat} {ts : List Mm.Thing} (h : Mm.SepF F w0 w (Mm.tow rBankW x cs fp :: ts)) (hI : Pl.BI q x) (hn : x.Coins.length = n) : BankV F w0 w n x cs ts := by
  obtain ⟨A0, n0, c0, A1, n1, c1, A2, n2, c2, A3, n3, c3, A4, n4, c4, f0, f1, f2, f3, f4, rfl, rfl, k0, k1, k2, k3, k4⟩ := rBankW_own (h.at_ 0 rfl)
  have h1 := hI.n1
  have hs : Mm.SepF F w0 w (Mm.tsl Mm.int 3 x.Coins (.slice A0 n0 c0) f0 :: Mm.tsl Mm.way 22 x.Ways (.slice A1 n1 c1) f1 :: Mm.tsl Mm.int 3 x.Kept (.slice A2 n2 c2) f2 :: Mm.tsl bools 29 x.Heard (.slice A3 n3 c3) f3 :: Mm.tsl ints 22 x.Found (.slice A4 n4 c4) f4 :: ts) :=
    h.conv (by simp [Mm.tsl, Mm.tow]) (List.forall_mem_cons.2 ⟨k0, List.forall_mem_cons.2 ⟨k1, List.forall_mem_cons.2 ⟨k2, List.forall_mem_cons.2 ⟨k3, List.forall_mem_cons.2 ⟨k4, fun u hu => h.hold u (List.mem_cons_of_mem _ hu)⟩⟩⟩⟩⟩)
  obtain ⟨g0, rfl, -, e0⟩ := Mm.sl_addr (hs.sl 0 rfl) (by omega)
  obtain ⟨g1, rfl, -, e1⟩ := Mm.sl_addr (hs.sl 1 rfl) (by rw [hI.wa]; exact Nat.mul_pos (by omega) (by omega))
  obtain ⟨g2, rfl, -, e2⟩ := Mm.sl_addr (hs.sl 2 rfl) (by rw [hI.ke]; omega)
  obtain ⟨g3, rfl, -, e3⟩ := Mm.sl_addr (hs.sl 3 rfl) (by rw [hI.he]; omega)
  obtain ⟨g4, rfl, -, e4⟩ := Mm.sl_addr (hs.sl 4 rfl) (by rw [hI.fo]; omega)
  obtain rfl : n0 = n := by omega
  obtain rfl : n1 = n0 * n0 := by rw [e1, hI.wa, hn]
  obtain rfl : n2 = n0 := by rw [e2, hI.ke, hn]
  obtain rfl : n3 = n2 := by rw [e3, hI.he, hn]
  obtain rfl : n4 = n3 := by rw [e4, hI.fo, hn]
  exact ⟨g0, g1, g2, g3, g4, c0, c1, c2, c3, c4, f0, f1, f2, f3, f4, rfl, hs⟩
theorem BankV.tow {F : List Nat} {w0 w : World} {n : Nat} {x : Bank} {cs : List Value} {ts : List Mm.Thing} (h : BankV F w0 w n x cs ts) :
    ∃ A0 n0 c0 A1 n1 c1 A2 n2 c2 A3 n3 c3 A4 n4 c4 fp, cs = [.slice A0 n0 c0, .slice A1 n1 c1, .slice A2 n2 c2, .slice A3 n3 c3, .slice A4 n4 c4] ∧ Mm.SepF F w0 w (Mm.tow rBankW x [.slice A0 n0 c0, .slice A1 n1 c1, .slice A2 n2 c2, .slice A3 n3 c3, .slice A4 n4 c4] fp :: ts) := by
  obtain ⟨g0, g1, g2, g3, g4, c0, c1, c2, c3, c4, f0, f1, f2, f3, f4, rfl, hs⟩ := h
  exact ⟨_, _, _, _, _, _, _, _, _, _, _, _, _, _, _, _, rfl, hs.bankW⟩
theorem newBankS_no {P : Program} {f : FuncId} {args : Array Value} {l : List Int} {n : Nat} {w : World} (h : Calls P f args w (NewBankSAns l n w)) (hk : Pl.coinsOk l = false) : Calls P f args w fun e w' => e = .returned (.tuple #[.agg #[.slice none 0 0, .slice none 0 0, .slice none 0 0, .slice none 0 0, .slice none 0 0], .bool false]) ∧ Below w.heap.size w w' :=
  h.mono fun e w' hh => by
    unfold NewBankSAns at hh
    rwa [if_neg (by rw [hk]; simp)] at hh
theorem newBankS_yes {P : Program} {f : FuncId} {args : Array Value} {l : List Int} {n : Nat} {w : World} (h : Calls P f args w (NewBankSAns l n w)) (hk : Pl.coinsOk l = true) : Calls P f args w fun e w' => ∃ cs, e = .returned (.tuple #[.agg cs.toArray, .bool true]) ∧ BankV [] w w' n (Pl.newBank l) cs [] :=
  h.mono fun e w' hh => by
    unfold NewBankSAns at hh
    rwa [if_pos hk] at hh
def gBk (x : Bank) : Mm.Rel := fun _ _ v ds => ∃ A0 n0 c0 A1 n1 c1 A2 n2 c2 A3 n3 c3 A4 n4 c4 fp, v = .agg #[.slice A0 n0 c0, .slice A1 n1 c1, .slice A2 n2 c2, .slice A3 n3 c3, .slice A4 n4 c4] ∧ ds = [Mm.tow rBankW x [.slice A0 n0 c0, .slice A1 n1 c1, .slice A2 n2 c2, .slice A3 n3 c3, .slice A4 n4 c4] fp]
def gBk2 (x : Bank) (b : Bool) : Mm.Rel := fun _ _ v ds => ∃ A0 n0 c0 A1 n1 c1 A2 n2 c2 A3 n3 c3 A4 n4 c4 fp, v = .tuple #[.agg #[.slice A0 n0 c0, .slice A1 n1 c1, .slice A2 n2 c2, .slice A3 n3 c3, .slice A4 n4 c4], .bool b] ∧ ds = [Mm.tow rBankW x [.slice A0 n0 c0, .slice A1 n1 c1, .slice A2 n2 c2, .slice A3 n3 c3, .slice A4 n4 c4] fp]
theorem gBk_in {x : Bank} {vals : List Value} {tk : List Mm.Thing} : ∃ v ds, gBk x vals tk v ds := ⟨_, _, none, 0, 0, none, 0, 0, none, 0, 0, none, 0, 0, none, 0, 0, [], rfl, rfl⟩
theorem gBk2_in {x : Bank} {b : Bool} {vals : List Value} {tk : List Mm.Thing} : ∃ v ds, gBk2 x b vals tk v ds := ⟨_, _, none, 0, 0, none, 0, 0, none, 0, 0, none, 0, 0, none, 0, 0, [], rfl, rfl⟩
theorem Try.infoBoolC : (Try.prog.info? 4).map (fun i => (i.zero, i.size, i.bytes)) = some (some (.bool false), 1, 1) := by kernel_rfl
set_option maxRecDepth 100000 in
set_option maxHeartbeats 4000000 in
theorem specPlayBank_c (coins : List Int) (l : List SnapStep) (A' : Option Addr) (n' c' : Nat) (A : Option Addr) (n c : Nat) (w : World) (B : Nat) (ha : Mm.SlAt Mm.int w B coins A' n' c') (hl : Mm.SlAt rSnapStep w B l A n c) (hB : B ≤ w.heap.size) :
    Calls Try.prog 6 #[.slice A' n' c', .slice A n c] w (PlayAnsB (Pl.playBank coins l) w) := by
  have hn : n ≤ maxLen := Nat.le_trans hl.2.1 hl.2.2.1
  unfold maxLen at hn
  have HL := Lib.hid hl
  have HA := Lib.hid ha
  have HLN : Hid (l.length = n) := hl.1
  have HAN : Hid (coins.length = n') := ha.1
  have HBW := Lib.hid hB
  clear hl ha hB
  obtain ⟨gz, hgz⟩ : ∃ g, w.heap.size = g := ⟨_, rfl⟩
  obtain ⟨W0, hW0⟩ : ∃ V, w.alloc (.cells #[.slice none 0 0, .slice none 0 0, .slice none 0 0, .slice none 0 0, .slice none 0 0] 28) = V := ⟨_, rfl⟩
  have KS := Lib.hid (((Mm.SepF.start w).alloc' hgz 28 zBk).atW hW0)
  have CN := specNewBank_c coins A' n' c' W0 B (HA.out.keep fun b hb => KS.out.bel0.block b (by have := HBW.out; omega)) (Nat.le_trans HBW.out KS.out.bel0.size)
  go_enter Try.func6, Try.ntmps6
  go_upto_region 1 with fail
  clear hW0 hgz
  cases hok : Pl.coinsOk coins with
  | false =>
    as_aux_lemma =>
    have HF : Hid (Pl.playBank coins l = (Pl.zBank, [], false)) := Lib.hid (if_neg (by rw [hok]; simp))
    have CN := newBankS_no CN hok
    clear hok
    go_upto_region 2 with (go_at_call 28; (with_reducible refine CN.mono ?_); clear CN; rintro e w1 ⟨rfl, hb⟩; (have KS1 := Lib.hid (KS.out.step hb)); clear hb)
    obtain ⟨g7, hg7⟩ : ∃ g, w1.heap.size = g := ⟨_, rfl⟩
    obtain ⟨W2, hW2⟩ : ∃ V, w1.alloc (.cells zBk.toArray 28) = V := ⟨_, rfl⟩
    have HSR := Lib.hid ((KS1.out.alloc' hg7 28 zBk).atW hW2)
    rw [show (w1.alloc (.cells #[.slice none 0 0, .slice none 0 0, .slice none 0 0, .slice none 0 0, .slice none 0 0] 28)) = W2 from hW2, hg7]
    clear hW2 hg7 KS KS1
    have z0 := HSR.out.frz (k := 0) 1 rfl
    have z1 := HSR.out.frz (k := 1) 1 rfl
    have z2 := HSR.out.frz (k := 2) 1 rfl
    have z3 := HSR.out.frz (k := 3) 1 rfl
    have z4 := HSR.out.frz (k := 4) 1 rfl
    have r0 := HSR.out.cell (k := 0) 1 rfl rfl
    have r1 := HSR.out.cell (k := 1) 1 rfl rfl
    have r2 := HSR.out.cell (k := 2) 1 rfl rfl
    have r3 := HSR.out.cell (k := 3) 1 rfl rfl
    have r4 := HSR.out.cell (k := 4) 1 rfl rfl
    obtain ⟨WF, hWF⟩ : ∃ WQ : World, (((((W2.setCell ⟨gz, 0, none⟩ (.slice none 0 0)).setCell ⟨gz, 1, none⟩ (.slice none 0 0)).setCell ⟨gz, 2, none⟩ (.slice none 0 0)).setCell ⟨gz, 3, none⟩ (.slice none 0 0)).setCell ⟨gz, 4, none⟩ (.slice none 0 0)) = WQ := ⟨_, rfl⟩
    have HSF := Lib.hid ((((((HSR.out.setBlk (k := 0) 1 rfl (.slice none 0 0)).setBlk (k := 1) 1 rfl (.slice none 0 0)).setBlk (k := 2) 1 rfl (.slice none 0 0)).setBlk (k := 3) 1 rfl (.slice none 0 0)).setBlk (k := 4) 1 rfl (.slice none 0 0)).atW hWF)
    have u0 := HSF.out.cell (k := 0) 1 rfl rfl
    have u1 := HSF.out.cell (k := 1) 1 rfl rfl
    have u2 := HSF.out.cell (k := 2) 1 rfl rfl
    have u3 := HSF.out.cell (k := 3) 1 rfl rfl
    have u4 := HSF.out.cell (k := 4) 1 rfl rfl
    go_wp2
    rw [HF.out]
    exact bodyPost_ret (v := .tuple #[.agg zBk.toArray, .slice none 0 0, .bool false]) (by simp [results, Try.results6, go_sem, zBk, u0, u1, u2, u3, u4]) rfl (playNoB HSF.out.bel0)
  | true =>
  have CN := newBankS_yes CN hok
  have hn15 : 1 ≤ n' ∧ n' ≤ 5 := by
    have h1 := hok
    unfold Pl.coinsOk at h1
    rw [Bool.and_eq_true] at h1
    have := Pl.isIn_iff.1 h1.1
    have := HAN.out
    omega
  go_upto_region 2 with (go_at_call 28; (with_reducible refine CN.mono ?_); clear CN; rintro e w1 ⟨cs1, rfl, hv1⟩; obtain ⟨B0, p0, k0, B1, p1, k1, B2, p2, k2, B3, p3, k3, B4, p4, k4, fp1, rfl, hs1⟩ := hv1.tow; (have KS1 := Lib.hid (KS.out.join hs1)); clear hv1 hs1)
  obtain ⟨g7, hg7⟩ : ∃ g, w1.heap.size = g := ⟨_, rfl⟩
  obtain ⟨W2, hW2⟩ : ∃ V, w1.alloc (.cells #[.slice B0 p0 k0, .slice B1 p1 k1, .slice B2 p2 k2, .slice B3 p3 k3, .slice B4 p4 k4] 28) = V := ⟨_, rfl⟩
  have HSR := Lib.hid ((KS1.out.alloc' hg7 28 [.slice B0 p0 k0, .slice B1 p1 k1, .slice B2 p2 k2, .slice B3 p3 k3, .slice B4 p4 k4]).atW hW2)
  rw [hW2, hg7]
  clear hW2 hg7 KS KS1
  by_cases h3 : n ≤ 120
  rotate_left
  · as_aux_lemma =>
    have HF : Hid (Pl.playBank coins l = (Pl.zBank, [], false)) := Lib.hid (if_neg (fun hh => by have := hh.2; have := HLN.out; omega))
    have fa : (120 : Int) < (n : Nat) := by omega
    clear hok
    have z0 := HSR.out.frz (k := 0) 2 rfl
    have z1 := HSR.out.frz (k := 1) 2 rfl
    have z2 := HSR.out.frz (k := 2) 2 rfl
    have z3 := HSR.out.frz (k := 3) 2 rfl
    have z4 := HSR.out.frz (k := 4) 2 rfl
    have r0 := HSR.out.cell (k := 0) 2 rfl rfl
    have r1 := HSR.out.cell (k := 1) 2 rfl rfl
    have r2 := HSR.out.cell (k := 2) 2 rfl rfl
    have r3 := HSR.out.cell (k := 3) 2 rfl rfl
    have r4 := HSR.out.cell (k := 4) 2 rfl rfl
    obtain ⟨WF, hWF⟩ : ∃ WQ : World, (((((W2.setCell ⟨gz, 0, none⟩ (.slice none 0 0)).setCell ⟨gz, 1, none⟩ (.slice none 0 0)).setCell ⟨gz, 2, none⟩ (.slice none 0 0)).setCell ⟨gz, 3, none⟩ (.slice none 0 0)).setCell ⟨gz, 4, none⟩ (.slice none 0 0)) = WQ := ⟨_, rfl⟩
    have HSF := Lib.hid ((((((HSR.out.setBlk (k := 0) 2 rfl (.slice none 0 0)).setBlk (k := 1) 2 rfl (.slice none 0 0)).setBlk (k := 2) 2 rfl (.slice none 0 0)).setBlk (k := 3) 2 rfl (.slice none 0 0)).setBlk (k := 4) 2 rfl (.slice none 0 0)).atW hWF)
    have u0 := HSF.out.cell (k := 0) 2 rfl rfl
    have u1 := HSF.out.cell (k := 1) 2 rfl rfl
    have u2 := HSF.out.cell (k := 2) 2 rfl rfl
    have u3 := HSF.out.cell (k := 3) 2 rfl rfl
    have u4 := HSF.out.cell (k := 4) 2 rfl rfl
    go_wp2
    rw [HF.out]
    exact bodyPost_ret (v := .tuple #[.agg zBk.toArray, .slice none 0 0, .bool false]) (by simp [results, Try.results6, go_sem, zBk, u0, u1, u2, u3, u4]) rfl (playNoB HSF.out.bel0)
  have HF : Hid (Pl.playBank coins l = ((Pl.runB (Pl.newBank coins) l).1, (Pl.runB (Pl.newBank coins) l).2, true)) := Lib.hid (if_pos ⟨hok, by have := HLN.out; omega⟩)
  have fa : ¬ (120 : Int) < (n : Nat) := by omega
  have HRUN := Lib.hid (fun l => Pl.runP_ok l 0 (Pl.newBank coins, []) (Pl.BI.new hok))
  clear hok
  obtain ⟨i0, hi, hz0, hz1, hz2⟩ := info_parts Try.infoBoolC
  obtain ⟨nC, hnC⟩ : ∃ nC, n' = nC := ⟨_, rfl⟩
  have HNC := Lib.hid hnC
  have KS2 := Lib.hid (HSR.out.add (Below.refl _ _) (t := Mm.tsl Mm.bool 4 [] (.slice none 0 0) []) Mm.SlOwn.nil List.nodup_nil (fun b hb => by cases hb))
  clear HSR hnC
  go_wp2
  go_loopg [9, 29] n (fun gg d i wr => ∃ (k : Nat) (A2' : Option Addr) (c2' : Nat) (fpt fpd : List Nat) (cx : List Value), n - k ≤ gg ∧ k ≤ n ∧ d = .slice A2' k c2' ∧ i = .int .i64 k ∧ Hid (∃ x : Bank, x = (Pl.runB (Pl.newBank coins) (l.take k)).1 ∧ Mm.SepF [] w wr [Mm.tsl Mm.bool 4 (Pl.runB (Pl.newBank coins) (l.take k)).2 (.slice A2' k c2') fpd, Mm.tblk g7 28 cx, Mm.tow rBankW x cx fpt, Mm.tblk gz 28 zBk]))
  case atStart => exact ⟨0, none, 0, _, _, _, Nat.le_refl _, Nat.zero_le _, rfl, rfl, Lib.hid ⟨_, rfl, KS2.out⟩⟩
  case round =>
    clear KS2
    obtain ⟨k, A2', c2x, fpt, fpd, cx, hgk, hk', rfl, rfl, HS'⟩ := hrel
    obtain ⟨x, hx0, hS'⟩ := HS'.out
    clear HS'
    obtain ⟨E0, s0, r0', E1, s1, r1', E2, s2, r2', E3, s3, r3', E4, s4, r4', -, -, -, -, -, rfl, -⟩ := rBankW_own (hS'.at_ 2 rfl)
    have HS := Lib.hid hS'
    clear hS'
    have hbel := HS.out.bel0
    have hrun := HRUN.out (l.take k)
    rw [Nat.zero_add, List.length_take_of_le (l := l) (i := k) (by rw [HLN.out]; omega)] at hrun
    have hrun' : Pl.BI k x ∧ (Pl.runB (Pl.newBank coins) (l.take k)).2.length = k ∧ x.Coins.length = nC := by
      rw [hx0]
      exact ⟨hrun.1, hrun.2.1.trans (Nat.zero_add _), (hrun.2.2.trans HAN.out).trans HNC.out⟩
    have HBI := Lib.hid hrun'.1
    have hpl := hrun'.2.1
    have HPC := Lib.hid hrun'.2.2
    obtain ⟨dl, hp⟩ : ∃ dl, Pl.runB (Pl.newBank coins) (l.take k) = (x, dl) := ⟨_, by rw [hx0]⟩
    rw [hp] at HS hpl
    have HPL := Lib.hid hpl
    have HP := Lib.hid hp
    clear hp hx0 hrun hrun' hpl
    by_cases hlt : k < n
    · obtain ⟨s, b0', off, hx, rfl, hb, j0, j1, j2, j3, e0, e1, e2, e3⟩ := rSnapStep_get HL.out hlt
      have HN : Hid (Pl.runB (Pl.newBank coins) (l.take (k + 1)) = ((Pl.bstep x s).1, dl ++ [(Pl.bstep x s).2])) := Lib.hid (by rw [Pl.runB_next hx, HP.out])
      have HNO := Lib.hid (@Pl.bstep_no x s)
      obtain ⟨r, hr⟩ : ∃ r, Pl.bstep x s = r := ⟨_, rfl⟩
      rw [hr] at HN HNO
      have HR := Lib.hid hr
      have HJ := Lib.hid (And.intro j0 (And.intro j1 (And.intro j2 j3)))
      have hlt' : ((k : Nat) : Int) < ((n : Nat) : Int) := by omega
      have hb0 : b0' < w.heap.size := by have := HBW.out; omega
      replace e0 := below_some hbel e0
      replace e1 := below_some hbel e1
      replace e2 := below_some hbel e2
      replace e3 := below_some hbel e3
      obtain ⟨t', is⟩ := r
      clear hx j0 j1 j2 j3 hr
      cases is with
      | true =>
        as_aux_lemma =>
        have b0 := HS.out.cell (k := 0) 1 rfl rfl
        have b1 := HS.out.cell (k := 1) 1 rfl rfl
        have b2 := HS.out.cell (k := 2) 1 rfl rfl
        have b3 := HS.out.cell (k := 3) 1 rfl rfl
        have b4 := HS.out.cell (k := 4) 1 rfl rfl
        go_upto_region 8 with fail
        obtain ⟨gs, hgs⟩ : ∃ gs, wr.heap.size = gs := ⟨_, rfl⟩
        obtain ⟨W1, hW1⟩ : ∃ W1, wr.alloc (.cells #[.int .i64 s.Kind, .int .i64 s.From, .int .i64 s.To, .int .i64 s.Many] 53) = W1 := ⟨_, rfl⟩
        have HS1 := Lib.hid ((HS.out.alloc' hgs 53 [.int .i64 s.Kind, .int .i64 s.From, .int .i64 s.To, .int .i64 s.Many]).atW hW1)
        rw [hW1, hgs]
        clear hW1 hgs e0 e1 e2 e3 b0 b1 b2 b3 b4
        have b0 := HS1.out.cell (k := 0) 2 rfl rfl
        have b1 := HS1.out.cell (k := 1) 2 rfl rfl
        have b2 := HS1.out.cell (k := 2) 2 rfl rfl
        have b3 := HS1.out.cell (k := 3) 2 rfl rfl
        have b4 := HS1.out.cell (k := 4) 2 rfl rfl
        have c0' := HS1.out.cell (k := 0) 0 rfl rfl
        have c1' := HS1.out.cell (k := 1) 0 rfl rfl
        have c2' := HS1.out.cell (k := 2) 0 rfl rfl
        have c3' := HS1.out.cell (k := 3) 0 rfl rfl
        refine Mm.wp_region_give 9 (fun i => match i with | 1 => some (gBk x) | 3 => some (gBk2 t' true) | 7 => some (Mm.gPtr 28 zBk) | 8 => some (Mm.gSto 28) | _ => none) (fun i => match i with | 3 => [1] | 8 => [7] | _ => []) (fun _ => []) (F := []) (D := fun w' => ∃ x : Und W1, w' = und W1 x) (fun X us h => Mm.sep_und h) (by kernel_rfl) (by kernel_rfl) (by kernel_rfl) (Mm.SepF.startDrew _) ?_
        repeat (refine Mm.give_det (by rfl) (by rfl) (by rfl) (fun K hK => ?_); go_big_quiet_op; refine hK _ ?_; clear hK K)
        refine Mm.give_op0 35 (by rfl) rfl (by rfl) (by rfl) (by rfl) (by rfl) gBk_in (fun others X hX => ?_) ?_
        · go_wp2_with (go_at_call 30; refine (l12Own_c x k nC _ X W1.heap.size (rBankW.keep (HS1.out.rd 3 rfl) (fun b hb => hX.bel0.block b hb)) hX.chg.size HBI.out HPC.out (by omega)).mono ?_; rintro e w5 ⟨cs5, rfl, hv5⟩; obtain ⟨A0, n0, c0, A1, n1, c1, A2, n2, c2, A3, n3, c3, A4, n4, c4, fp5, rfl, hs5⟩ := hv5.tow)
          exact ⟨rfl, rfl, _, ⟨A0, n0, c0, A1, n1, c1, A2, n2, c2, A3, n3, c3, A4, n4, c4, fp5, rfl, rfl⟩, hX.join hs5⟩
        rintro v ds ⟨A0, n0, c0, A1, n1, c1, A2, n2, c2, A3, n3, c3, A4, n4, c4, fp5, rfl, rfl⟩
        simp only [Act.put, List.setIfInBounds_toArray, List.set_cons_succ, List.set_cons_zero]
        repeat (refine Mm.give_det (by rfl) (by rfl) (by rfl) (fun K hK => ?_); go_big_quiet_op; refine hK _ ?_; clear hK K)
        refine Mm.give_op1 37 1 (by rfl) rfl (by rfl) (by rfl) (by rfl) rfl (by rfl) _ rfl gBk2_in (fun others X hX => ?_) ?_
        · go_wp2_with (go_at_call 29; refine (l12Step_c x s k nC _ _ _ X _ (towV hX HBI.out HPC.out) HBI.out HPC.out (by omega) HJ.out).mono ?_; rintro e w6 ⟨cs6, rfl, hv6⟩; rw [HR.out] at hv6; rw [HR.out]; obtain ⟨A0, n0, c0, A1, n1, c1, A2, n2, c2, A3, n3, c3, A4, n4, c4, fp6, rfl, hs6⟩ := hv6.tow)
          exact ⟨rfl, rfl, _, ⟨A0, n0, c0, A1, n1, c1, A2, n2, c2, A3, n3, c3, A4, n4, c4, fp6, rfl, rfl⟩, hs6⟩
        rintro v ds ⟨B0, p0, k0, B1, p1, k1, B2, p2, k2, B3, p3, k3, B4, p4, k4, fp6, rfl, rfl⟩
        simp only [Act.put, List.setIfInBounds_toArray, List.set_cons_succ, List.set_cons_zero]
        repeat (refine Mm.give_det (by rfl) (by rfl) (by rfl) (fun K hK => ?_); go_big_quiet_op; refine hK _ ?_; clear hK K)
        refine Mm.give_op0 12 (by rfl) rfl (by rfl) (by rfl) (by rfl) (by rfl) Mm.gPtr_in (fun others X hX => ?_) ?_
        · go_wp2
          exact Mm.gvq_ptr hX rfl rfl rfl
        rintro v ds ⟨gp, rfl, rfl⟩
        simp only [Act.put, List.setIfInBounds_toArray, List.set_cons_succ, List.set_cons_zero]
        refine Mm.give_store 28 gp zBk [.slice B0 p0 k0, .slice B1 p1 k1, .slice B2 p2 k2, .slice B3 p3 k3, .slice B4 p4 k4] 7 (by rfl) rfl rfl (by rfl) rfl (by rfl) rfl rfl (fun others X hX => ?_) ?_
        · have KZ := Lib.hid hX
          have z0 := KZ.out.frz (k := 0) 0 rfl
          have z1 := KZ.out.frz (k := 1) 0 rfl
          have z2 := KZ.out.frz (k := 2) 0 rfl
          have z3 := KZ.out.frz (k := 3) 0 rfl
          have z4 := KZ.out.frz (k := 4) 0 rfl
          have r0 := KZ.out.cell (k := 0) 0 rfl rfl
          have r1 := KZ.out.cell (k := 1) 0 rfl rfl
          have r2 := KZ.out.cell (k := 2) 0 rfl rfl
          have r3 := KZ.out.cell (k := 3) 0 rfl rfl
          have r4 := KZ.out.cell (k := 4) 0 rfl rfl
          obtain ⟨WF, hWF⟩ : ∃ WQ : World, (((((X.setCell ⟨gp, 0, none⟩ (.slice B0 p0 k0)).setCell ⟨gp, 1, none⟩ (.slice B1 p1 k1)).setCell ⟨gp, 2, none⟩ (.slice B2 p2 k2)).setCell ⟨gp, 3, none⟩ (.slice B3 p3 k3)).setCell ⟨gp, 4, none⟩ (.slice B4 p4 k4)) = WQ := ⟨_, rfl⟩
          have HSF := Lib.hid ((((((KZ.out.setBlk (k := 0) 0 rfl (.slice B0 p0 k0)).setBlk (k := 1) 0 rfl (.slice B1 p1 k1)).setBlk (k := 2) 0 rfl (.slice B2 p2 k2)).setBlk (k := 3) 0 rfl (.slice B3 p3 k3)).setBlk (k := 4) 0 rfl (.slice B4 p4 k4)).atW hWF)
          go_wp2
          exact ⟨rfl, rfl, _, rfl, HSF.out⟩
        refine Mm.give_nil ?_
        rintro X hX
        have HS3 := Lib.hid (HS1.out.join (us := [Mm.tow rBankW t' [.slice B0 p0 k0, .slice B1 p1 k1, .slice B2 p2 k2, .slice B3 p3 k3, .slice B4 p4 k4] fp6, Mm.tblk gp 28 [.slice B0 p0 k0, .slice B1 p1 k1, .slice B2 p2 k2, .slice B3 p3 k3, .slice B4 p4 k4]]) hX)
        clear hX b0 b1 b2 b3 b4 c0' c1' c2' c3'
        have b0 := HS3.out.cell (k := 0) 1 rfl rfl
        have b1 := HS3.out.cell (k := 1) 1 rfl rfl
        have b2 := HS3.out.cell (k := 2) 1 rfl rfl
        have b3 := HS3.out.cell (k := 3) 1 rfl rfl
        have b4 := HS3.out.cell (k := 4) 1 rfl rfl
        have z0 := HS3.out.frz (k := 0) 4 rfl
        have z1 := HS3.out.frz (k := 1) 4 rfl
        have z2 := HS3.out.frz (k := 2) 4 rfl
        have z3 := HS3.out.frz (k := 3) 4 rfl
        have z4 := HS3.out.frz (k := 4) 4 rfl
        have r0 := HS3.out.cell (k := 0) 4 rfl rfl
        have r1 := HS3.out.cell (k := 1) 4 rfl rfl
        have r2 := HS3.out.cell (k := 2) 4 rfl rfl
        have r3 := HS3.out.cell (k := 3) 4 rfl rfl
        have r4 := HS3.out.cell (k := 4) 4 rfl rfl
        obtain ⟨WF, hWF⟩ : ∃ WQ : World, (((((X.setCell ⟨g7, 0, none⟩ (.slice B0 p0 k0)).setCell ⟨g7, 1, none⟩ (.slice B1 p1 k1)).setCell ⟨g7, 2, none⟩ (.slice B2 p2 k2)).setCell ⟨g7, 3, none⟩ (.slice B3 p3 k3)).setCell ⟨g7, 4, none⟩ (.slice B4 p4 k4)) = WQ := ⟨_, rfl⟩
        have HSF := Lib.hid ((((((HS3.out.setBlk (k := 0) 4 rfl (.slice B0 p0 k0)).setBlk (k := 1) 4 rfl (.slice B1 p1 k1)).setBlk (k := 2) 4 rfl (.slice B2 p2 k2)).setBlk (k := 3) 4 rfl (.slice B3 p3 k3)).setBlk (k := 4) 4 rfl (.slice B4 p4 k4)).atW hWF)
        go_upto_region 11 with fail
        clear r0 r1 r2 r3 r4 z0 z1 z2 z3 z4 b0 b1 b2 b3 b4 hWF
        go_wp2_with (at_builtin; refine Mm.app_list HSF.out 3 rfl rfl (.tmp 42) (.tmp 44) 29 rfl i0 _ 1 Try.underlying29 hi hz0 hz1 hz2 rfl (by decide) rfl rfl (fun W => ⟨rfl, trivial, rfl⟩) HPL.out (by unfold maxLen; omega) (by omega) ?_; intro g cap w' fp' hs; (have HS5 := Lib.hid hs); clear hs)
        go_roundg (n - (k + 1))
        case measure => omega
        case rel => exact ⟨k + 1, _, cap, _, fp', _, Nat.le_refl _, by omega, rfl, by go_num, Lib.hid ⟨t', by rw [HN.out], by rw [HN.out]; exact HS5.out.sel [3, 4, 0, 6] (by decide) rfl⟩⟩
      | false =>
        as_aux_lemma =>
        obtain rfl : t' = x := HNO.out rfl
        have b0 := HS.out.cell (k := 0) 1 rfl rfl
        have b1 := HS.out.cell (k := 1) 1 rfl rfl
        have b2 := HS.out.cell (k := 2) 1 rfl rfl
        have b3 := HS.out.cell (k := 3) 1 rfl rfl
        have b4 := HS.out.cell (k := 4) 1 rfl rfl
        go_upto_region 8 with fail
        obtain ⟨gs, hgs⟩ : ∃ gs, wr.heap.size = gs := ⟨_, rfl⟩
        obtain ⟨W1, hW1⟩ : ∃ W1, wr.alloc (.cells #[.int .i64 s.Kind, .int .i64 s.From, .int .i64 s.To, .int .i64 s.Many] 53) = W1 := ⟨_, rfl⟩
        have HS1 := Lib.hid ((HS.out.alloc' hgs 53 [.int .i64 s.Kind, .int .i64 s.From, .int .i64 s.To, .int .i64 s.Many]).atW hW1)
        rw [hW1, hgs]
        clear hW1 hgs e0 e1 e2 e3 b0 b1 b2 b3 b4
        have b0 := HS1.out.cell (k := 0) 2 rfl rfl
        have b1 := HS1.out.cell (k := 1) 2 rfl rfl
        have b2 := HS1.out.cell (k := 2) 2 rfl rfl
        have b3 := HS1.out.cell (k := 3) 2 rfl rfl
        have b4 := HS1.out.cell (k := 4) 2 rfl rfl
        have c0' := HS1.out.cell (k := 0) 0 rfl rfl
        have c1' := HS1.out.cell (k := 1) 0 rfl rfl
        have c2' := HS1.out.cell (k := 2) 0 rfl rfl
        have c3' := HS1.out.cell (k := 3) 0 rfl rfl
        refine Mm.wp_region_give 9 (fun i => match i with | 1 => some (gBk t') | 3 => some (gBk2 t' false) | 7 => some (Mm.gPtr 28 zBk) | 8 => some (Mm.gSto 28) | _ => none) (fun i => match i with | 3 => [1] | 8 => [7] | _ => []) (fun _ => []) (F := []) (D := fun w' => ∃ t' : Und W1, w' = und W1 t') (fun X us h => Mm.sep_und h) (by kernel_rfl) (by kernel_rfl) (by kernel_rfl) (Mm.SepF.startDrew _) ?_
        repeat (refine Mm.give_det (by rfl) (by rfl) (by rfl) (fun K hK => ?_); go_big_quiet_op; refine hK _ ?_; clear hK K)
        refine Mm.give_op0 35 (by rfl) rfl (by rfl) (by rfl) (by rfl) (by rfl) gBk_in (fun others X hX => ?_) ?_
        · go_wp2_with (go_at_call 30; refine (l12Own_c t' k nC _ X W1.heap.size (rBankW.keep (HS1.out.rd 3 rfl) (fun b hb => hX.bel0.block b hb)) hX.chg.size HBI.out HPC.out (by omega)).mono ?_; rintro e w5 ⟨cs5, rfl, hv5⟩; obtain ⟨A0, n0, c0, A1, n1, c1, A2, n2, c2, A3, n3, c3, A4, n4, c4, fp5, rfl, hs5⟩ := hv5.tow)
          exact ⟨rfl, rfl, _, ⟨A0, n0, c0, A1, n1, c1, A2, n2, c2, A3, n3, c3, A4, n4, c4, fp5, rfl, rfl⟩, hX.join hs5⟩
        rintro v ds ⟨A0, n0, c0, A1, n1, c1, A2, n2, c2, A3, n3, c3, A4, n4, c4, fp5, rfl, rfl⟩
        simp only [Act.put, List.setIfInBounds_toArray, List.set_cons_succ, List.set_cons_zero]
        repeat (refine Mm.give_det (by rfl) (by rfl) (by rfl) (fun K hK => ?_); go_big_quiet_op; refine hK _ ?_; clear hK K)
        refine Mm.give_op1 37 1 (by rfl) rfl (by rfl) (by rfl) (by rfl) rfl (by rfl) _ rfl gBk2_in (fun others X hX => ?_) ?_
        · go_wp2_with (go_at_call 29; refine (l12Step_c t' s k nC _ _ _ X _ (towV hX HBI.out HPC.out) HBI.out HPC.out (by omega) HJ.out).mono ?_; rintro e w6 ⟨cs6, rfl, hv6⟩; rw [HR.out] at hv6; rw [HR.out]; obtain ⟨A0, n0, c0, A1, n1, c1, A2, n2, c2, A3, n3, c3, A4, n4, c4, fp6, rfl, hs6⟩ := hv6.tow)
          exact ⟨rfl, rfl, _, ⟨A0, n0, c0, A1, n1, c1, A2, n2, c2, A3, n3, c3, A4, n4, c4, fp6, rfl, rfl⟩, hs6⟩
        rintro v ds ⟨B0, p0, k0, B1, p1, k1, B2, p2, k2, B3, p3, k3, B4, p4, k4, fp6, rfl, rfl⟩
        simp only [Act.put, List.setIfInBounds_toArray, List.set_cons_succ, List.set_cons_zero]
        repeat (refine Mm.give_det (by rfl) (by rfl) (by rfl) (fun K hK => ?_); go_big_quiet_op; refine hK _ ?_; clear hK K)
        refine Mm.give_op0 12 (by rfl) rfl (by rfl) (by rfl) (by rfl) (by rfl) Mm.gPtr_in (fun others X hX => ?_) ?_
        · go_wp2
          exact Mm.gvq_ptr hX rfl rfl rfl
        rintro v ds ⟨gp, rfl, rfl⟩
        simp only [Act.put, List.setIfInBounds_toArray, List.set_cons_succ, List.set_cons_zero]
        refine Mm.give_store 28 gp zBk [.slice B0 p0 k0, .slice B1 p1 k1, .slice B2 p2 k2, .slice B3 p3 k3, .slice B4 p4 k4] 7 (by rfl) rfl rfl (by rfl) rfl (by rfl) rfl rfl (fun others X hX => ?_) ?_
        · have KZ := Lib.hid hX
          have z0 := KZ.out.frz (k := 0) 0 rfl
          have z1 := KZ.out.frz (k := 1) 0 rfl
          have z2 := KZ.out.frz (k := 2) 0 rfl
          have z3 := KZ.out.frz (k := 3) 0 rfl
          have z4 := KZ.out.frz (k := 4) 0 rfl
          have r0 := KZ.out.cell (k := 0) 0 rfl rfl
          have r1 := KZ.out.cell (k := 1) 0 rfl rfl
          have r2 := KZ.out.cell (k := 2) 0 rfl rfl
          have r3 := KZ.out.cell (k := 3) 0 rfl rfl
          have r4 := KZ.out.cell (k := 4) 0 rfl rfl
          obtain ⟨WF, hWF⟩ : ∃ WQ : World, (((((X.setCell ⟨gp, 0, none⟩ (.slice B0 p0 k0)).setCell ⟨gp, 1, none⟩ (.slice B1 p1 k1)).setCell ⟨gp, 2, none⟩ (.slice B2 p2 k2)).setCell ⟨gp, 3, none⟩ (.slice B3 p3 k3)).setCell ⟨gp, 4, none⟩ (.slice B4 p4 k4)) = WQ := ⟨_, rfl⟩
          have HSF := Lib.hid ((((((KZ.out.setBlk (k := 0) 0 rfl (.slice B0 p0 k0)).setBlk (k := 1) 0 rfl (.slice B1 p1 k1)).setBlk (k := 2) 0 rfl (.slice B2 p2 k2)).setBlk (k := 3) 0 rfl (.slice B3 p3 k3)).setBlk (k := 4) 0 rfl (.slice B4 p4 k4)).atW hWF)
          go_wp2
          exact ⟨rfl, rfl, _, rfl, HSF.out⟩
        refine Mm.give_nil ?_
        rintro X hX
        have HS3 := Lib.hid (HS1.out.join (us := [Mm.tow rBankW t' [.slice B0 p0 k0, .slice B1 p1 k1, .slice B2 p2 k2, .slice B3 p3 k3, .slice B4 p4 k4] fp6, Mm.tblk gp 28 [.slice B0 p0 k0, .slice B1 p1 k1, .slice B2 p2 k2, .slice B3 p3 k3, .slice B4 p4 k4]]) hX)
        clear hX b0 b1 b2 b3 b4 c0' c1' c2' c3'
        go_upto_region 11 with fail
        go_wp2_with (at_builtin; refine Mm.app_list HS3.out 3 rfl rfl (.tmp 42) (.tmp 44) 29 rfl i0 _ 1 Try.underlying29 hi hz0 hz1 hz2 rfl (by decide) rfl rfl (fun W => ⟨rfl, trivial, rfl⟩) HPL.out (by unfold maxLen; omega) (by omega) ?_; intro g cap w' fp' hs; (have HS5 := Lib.hid hs); clear hs)
        go_roundg (n - (k + 1))
        case measure => omega
        case rel => exact ⟨k + 1, _, cap, _, fp', _, Nat.le_refl _, by omega, rfl, by go_num, Lib.hid ⟨t', by rw [HN.out], by rw [HN.out]; exact HS5.out.sel [3, 4, 5, 6] (by decide) rfl⟩⟩
    · as_aux_lemma =>
      obtain rfl : k = n := by omega
      have HE : Hid (l.take k = l) := List.take_of_length_le (by rw [HLN.out]; exact Nat.le_refl _)
      have hlt' : ¬ ((k : Nat) : Int) < ((k : Nat) : Int) := by omega
      rw [HE.out] at HP
      rw [HP.out] at HF
      have b0 := HS.out.cell (k := 0) 1 rfl rfl
      have b1 := HS.out.cell (k := 1) 1 rfl rfl
      have b2 := HS.out.cell (k := 2) 1 rfl rfl
      have b3 := HS.out.cell (k := 3) 1 rfl rfl
      have b4 := HS.out.cell (k := 4) 1 rfl rfl
      go_wp2_with (go_at_call 30; refine (l12Own_c x k nC _ _ wr.heap.size (HS.out.rd 2 rfl) (Nat.le_refl _) HBI.out HPC.out (by omega)).mono ?_; rintro e w5 ⟨cs5, rfl, hv5⟩; obtain ⟨B0, p0, k0, B1, p1, k1, B2, p2, k2, B3, p3, k3, B4, p4, k4, fp5, rfl, hs5⟩ := hv5.tow; (have HSR := Lib.hid (HS.out.join hs5)); clear hv5 hs5; clear b0 b1 b2 b3 b4; (have z0 := HSR.out.frz (k := 0) 4 rfl); (have z1 := HSR.out.frz (k := 1) 4 rfl); (have z2 := HSR.out.frz (k := 2) 4 rfl); (have z3 := HSR.out.frz (k := 3) 4 rfl); (have z4 := HSR.out.frz (k := 4) 4 rfl); (have r0 := HSR.out.cell (k := 0) 4 rfl rfl); (have r1 := HSR.out.cell (k := 1) 4 rfl rfl); (have r2 := HSR.out.cell (k := 2) 4 rfl rfl); (have r3 := HSR.out.cell (k := 3) 4 rfl rfl); (have r4 := HSR.out.cell (k := 4) 4 rfl rfl); (obtain ⟨WF, hWF⟩ : ∃ WQ : World, (((((w5.setCell ⟨gz, 0, none⟩ (.slice B0 p0 k0)).setCell ⟨gz, 1, none⟩ (.slice B1 p1 k1)).setCell ⟨gz, 2, none⟩ (.slice B2 p2 k2)).setCell ⟨gz, 3, none⟩ (.slice B3 p3 k3)).setCell ⟨gz, 4, none⟩ (.slice B4 p4 k4)) = WQ := ⟨_, rfl⟩); (have HSF := Lib.hid ((((((HSR.out.setBlk (k := 0) 4 rfl (.slice B0 p0 k0)).setBlk (k := 1) 4 rfl (.slice B1 p1 k1)).setBlk (k := 2) 4 rfl (.slice B2 p2 k2)).setBlk (k := 3) 4 rfl (.slice B3 p3 k3)).setBlk (k := 4) 4 rfl (.slice B4 p4 k4)).atW hWF)); (have u0 := HSF.out.cell (k := 0) 4 rfl rfl); (have u1 := HSF.out.cell (k := 1) 4 rfl rfl); (have u2 := HSF.out.cell (k := 2) 4 rfl rfl); (have u3 := HSF.out.cell (k := 3) 4 rfl rfl); (have u4 := HSF.out.cell (k := 4) 4 rfl rfl))
      exact bodyPost_ret (v := .tuple #[.agg #[.slice B0 p0 k0, .slice B1 p1 k1, .slice B2 p2 k2, .slice B3 p3 k3, .slice B4 p4 k4], .slice A2' k c2x, .bool true]) (by simp [results, Try.results6, go_sem, u0, u1, u2, u3, u4]) rfl ⟨_, A2', k, c2x, _, _, by rw [HF.out], by rw [HF.out]; exact HSF.out.sel [0, 1] (by decide) rfl⟩
end Go.Proofs.Ytpmeagchkcffoaa
