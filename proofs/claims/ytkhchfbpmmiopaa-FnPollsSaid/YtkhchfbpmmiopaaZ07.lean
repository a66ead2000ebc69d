/-
  Joined texts, in build order: Vk, Vl, Vm, Vf, Wc, Vn, Vd, Vg. Each part says what it proves; no conditions beyond those that a part names.
-/
import Derived.Test.YtkhchfbpmmiopaaZ01
import Derived.Test.YtkhchfbpmmiopaaZ02
import Derived.Test.YtkhchfbpmmiopaaZ06
import Derived.Deep.DeepCutAuto
import Derived.Lib.Hide
import Derived.WalkSpells
/-
  Contracts: an election that is good is held good, and names its leaders (chapter 8). No conditions beyond those named.
-/
namespace Go.Proofs.Ytkhchfbpmmiopaa
open Go.RowKit
attribute [local go_sem] und_cell cha_cell World.cell?_alloc_some
theorem within_isV {n a b : Int} {r : Bool} (h : Pl.isIn n a b = r) (w : World) : Calls Try.prog 43 #[.int .i64 n, .int .i64 a, .int .i64 b] w fun e w' => e = .returned (.bool r) ∧ w = w' := h ▸ within_c n a b w
theorem isAge_isV {a : Int} {r : Bool} (h : Pl.ageOk a = r) (w : World) : Calls Try.prog 46 #[.int .i64 a] w fun e w' => e = .returned (.bool r) ∧ w = w' := h ▸ isAge_c a w
theorem Pl.isInY {n a b : Int} (h : a ≤ n ∧ n ≤ b) : Pl.isIn n a b = true := Pl.isIn_iff.2 h
theorem Pl.ageY {a : Int} (h : 0 ≤ a ∧ a ≤ 9) : Pl.ageOk a = true := Pl.isIn_iff.2 h
set_option maxRecDepth 100000 in
set_option maxHeartbeats 1000000 in
theorem isPoll1_c (m g : Nat) (l : List Int) (A : Option Addr) (n c : Nat) (w : World) (B : Nat) (hb : Mm.Blk w g 3 [.int .i64 (m : Nat)]) (hl : Mm.SlAt Mm.int w B l A n c) (hB : B ≤ w.heap.size) (hm : m ≤ 5) (hok : Pl.LeadOk m l) :
    Calls Try.prog 86 #[.slice A n c, .pointer (some ⟨g, 0, none⟩)] w fun e w' => e = .returned (.bool false) ∧ Below w.heap.size w w' := by
  obtain ⟨t, k, rfl, t0, t1, k0, k1⟩ := hok
  obtain rfl : n = 2 := hl.1.symm
  obtain ⟨x, b, off, hx, rfl, hb', i0, e0⟩ := int_get hl (show 0 < 2 by omega)
  obtain ⟨y, hy, _, j0, e1⟩ := int_get' hl (show 1 < 2 by omega)
  obtain rfl : t = x := by injection hx
  obtain rfl : k = y := by injection hy
  have d0 := hb.cell (i := 0) rfl
  have fw : IntKind.i64.wrap ((m : Int) - 1) = (m : Int) - 1 := IntWalk.i64_in _ (by omega)
  have C1 := fun z : Und w => und_same z (within_isV (Pl.isInY ⟨t0, t1⟩) (und w z))
  have C2 := fun z : Und w => und_same z (within_isV (Pl.isInY (show 0 ≤ k ∧ k ≤ (m : Int) - 1 by omega)) (und w z))
  rw [Nat.add_zero] at e0
  clear hl hx hy hb i0 j0 t0 t1 k0 k1
  go_enter Try.func86, Try.ntmps86
  go_wp2
  refine wp_region_und (by kernel_rfl) (by kernel_rfl) ?_
  repeat (go_big_quiet_step ((first | first | (go_at_call 43; with_reducible exact C1 _) | (go_at_call 43; with_reducible exact C2 _))))
  refine wpQuiet_nil ?_
  intro X hX
  go_wp2
  go_ret
  exact ⟨rfl, hX⟩
set_option maxRecDepth 100000 in
set_option maxHeartbeats 1000000 in
theorem idxLeads_c (m g : Nat) (l : List (List Int)) (A : Option Addr) (n c : Nat) (w : World) (B : Nat) (hb : Mm.Blk w g 3 [.int .i64 (m : Nat)]) (hl : Mm.SlAt ints w B l A n c) (hB : B ≤ w.heap.size) (hm : m ≤ 5) (hok : ∀ x, x ∈ l → Pl.LeadOk m x) :
    Calls Try.prog 102 #[.slice A n c, .func (Fn.func 86) #[] #[.pointer (some ⟨g, 0, none⟩)]] w fun e w' => e = .returned (.int .i64 (-1)) ∧ Below w.heap.size w w' := by
  have hn : n ≤ 9223372036854775807 := by have := hl.2.1; have := hl.2.2.1; unfold maxLen at this; omega
  have HL := Lib.hid hl
  have HBK := Lib.hid hb
  have HOK := Lib.hid hok
  clear hl hb hok
  go_enter Try.func102, Try.ntmps102
  go_wp2
  go_loopg [5, 8] n (fun gg _ i wr => ∃ k : Nat, n - k ≤ gg ∧ k ≤ n ∧ i = .int .i64 k ∧ Hid (Below w.heap.size w wr))
  case atStart => exact ⟨0, Nat.le_refl _, Nat.zero_le _, rfl, Below.refl _ _⟩
  case round =>
    obtain ⟨k, hgk, hk, rfl, HB⟩ := hrel
    obtain ⟨W, rfl⟩ : ∃ W : World, W = wr := ⟨_, rfl⟩
    have hsz := HB.out.size
    by_cases hlt : k < n
    · obtain ⟨x, b, off, AX, nX, cX, hx, rfl, hb, hr, e0⟩ := ints_get (HL.out.keep (w' := W) fun b hb => HB.out.block b (by omega)) hlt
      have C := isPoll1_c m g x AX nX cX W B (HBK.out.bel HB.out) hr (by omega) hm (HOK.out x (List.mem_of_getElem? hx))
      have f1 : (k : Int) < (n : Nat) := by omega
      have f2 : (0 : Int) ≤ (k : Nat) := by omega
      have f3 : ((k : Nat) : Int).toNat = k := by omega
      clear hx hr
      go_wp2_with (go_at_call 86; (with_reducible refine C.mono ?_); clear C; rintro e w1 ⟨rfl, hb1⟩)
      go_roundg (n - (k + 1))
      case measure => omega
      case rel => exact ⟨k + 1, Nat.le_refl _, by omega, by go_num, below_step HB.out hb1⟩
    · have f1 : ¬ (k : Int) < (n : Nat) := by omega
      go_wp2
      go_ret
      exact ⟨rfl, HB.out⟩
set_option maxRecDepth 100000 in
theorem hasLeads_c (m g : Nat) (l : List (List Int)) (A : Option Addr) (n c : Nat) (w : World) (B : Nat) (hb : Mm.Blk w g 3 [.int .i64 (m : Nat)]) (hl : Mm.SlAt ints w B l A n c) (hB : B ≤ w.heap.size) (hm : m ≤ 5) (hok : ∀ x, x ∈ l → Pl.LeadOk m x) :
    Calls Try.prog 85 #[.slice A n c, .func (Fn.func 86) #[] #[.pointer (some ⟨g, 0, none⟩)]] w fun e w' => e = .returned (.bool false) ∧ Below w.heap.size w w' := by
  have C := idxLeads_c m g l A n c w B hb hl hB hm hok
  clear hl hb hok
  go_enter Try.func85, Try.ntmps85
  go_wp2_with (go_at_call 102; (with_reducible refine C.mono ?_); clear C; rintro e w1 ⟨rfl, hb1⟩)
  go_ret
  exact ⟨rfl, hb1⟩
set_option maxRecDepth 100000 in
set_option maxHeartbeats 4000000 in
theorem isPollYes_c (p : Poll) (cs : List Value) (w : World) (B : Nat) (hr : rPoll.at_ w B p cs) (hB : B ≤ w.heap.size) (hp : Pl.PW p) :
    Calls Try.prog 52 #[.agg cs.toArray] w fun e w' => e = .returned (.bool true) ∧ Below w.heap.size w w' := by
  obtain ⟨A0, n0, c0, A1, n1, c1, A2, n2, c2, rfl, r0, r1, r2⟩ := rPoll_at hr
  have h01 : 1 ≤ n0 := by have := hp.n1; rw [r0.1] at this; exact this
  have h05 : n0 ≤ 5 := by have := hp.n5; rw [r0.1] at this; exact this
  have h1 : n1 ≤ 60 := by have := hp.lets; rw [r1.1] at this; exact this
  have h2 : n2 ≤ 300 := by have := hp.leads; rw [r2.1] at this; exact this
  have HNL : Hid (p.Nodes.length = n0) := r0.1
  have R0 := Lib.hid r0
  have R1 := Lib.hid r1
  have R2 := Lib.hid r2
  have HP := Lib.hid hp
  have G1 : Hid (Pl.isIn (n0 : Int) 1 5 = true) := Lib.hid (Pl.isInY (by omega))
  have fw : IntKind.i64.wrap ((n0 : Int) - 1) = (n0 : Int) - 1 := IntWalk.i64_in _ (by omega)
  have f11 : ¬ (60 : Int) < (n1 : Nat) := by omega
  have f12 : ¬ (300 : Int) < (n2 : Nat) := by omega
  clear hr r0 r1 r2 hp
  go_enter Try.func52, Try.ntmps52
  go_upto_region 2 with fail
  obtain ⟨ga, hga⟩ : ∃ ga, w.heap.size = ga := ⟨_, rfl⟩
  obtain ⟨gb, hgb⟩ : ∃ gb, ga + 1 = gb := ⟨_, rfl⟩
  obtain ⟨W0, hW0⟩ : ∃ W0, (w.alloc (.cells #[.slice A0 n0 c0, .slice A1 n1 c1, .slice A2 n2 c2] 31)).alloc (.cells #[.int .i64 (n0 : Nat)] 3) = W0 := ⟨_, rfl⟩
  have HS0 := Lib.hid ((((Mm.SepF.start w).alloc' hga 31 [.slice A0 n0 c0, .slice A1 n1 c1, .slice A2 n2 c2]).alloc' (g := gb) (by rw [Mm.sz1, hga, hgb]) 3 [.int .i64 (n0 : Nat)]).atW hW0)
  rw [hW0, hga, hgb]
  clear hW0 hga hgb
  have HB0 := Lib.hid HS0.out.bel0
  have HBW := Lib.hid (Nat.le_trans hB HB0.out.size)
  have b0 := HS0.out.cell (k := 0) 1 rfl rfl
  have b1 := HS0.out.cell (k := 1) 1 rfl rfl
  have b2 := HS0.out.cell (k := 2) 1 rfl rfl
  have d0 := HS0.out.cell (k := 0) 0 rfl rfl
  go_wp2_with (go_at_call 43; (with_reducible refine (within_isV G1.out _).mono ?_); rintro e w' ⟨rfl, rfl⟩)
  clear b0 b1 b2 d0 f11 f12
  go_loopg [29] n0 (fun gg i wr => ∃ k : Nat, n0 - k ≤ gg ∧ k ≤ n0 ∧ i = .int .i64 k ∧ Hid (Below W0.heap.size W0 wr))
  case atStart => exact ⟨0, Nat.le_refl _, Nat.zero_le _, rfl, Below.refl _ _⟩
  case round =>
    obtain ⟨k, hgk, hk, rfl, HX⟩ := hrel
    obtain ⟨W1, rfl⟩ : ∃ W1 : World, W1 = wr := ⟨_, rfl⟩
    by_cases hlt : k < n0
    · have hBw : B ≤ W1.heap.size := Nat.le_trans HBW.out HX.out.size
      obtain ⟨x, b, off, P1, p1, t1, hx, rfl, hb, -, -, -, uf0, -, e0, e1, e2, e3, e4⟩ := rNode_get (R0.out.keep (w' := W1) fun b hb => (HX.out.block b (Nat.lt_of_lt_of_le hb HBW.out)).trans (HB0.out.block b (Nat.lt_of_lt_of_le hb hB))) hlt
      have hnok : Pl.NodeOk n0 x := by have := HP.out.node k x hx; rw [HNL.out] at this; exact this
      have K1 : Hid (Pl.isIn x.Term 0 200 = true) := Lib.hid (Pl.isInY hnok.term)
      have K2 : Hid (Pl.isIn x.Voted (-1) ((n0 : Int) - 1) = true) := Lib.hid (Pl.isInY hnok.voted)
      have K3 : Hid (Pl.ageOk x.Age = true) := Lib.hid (Pl.ageY hnok.age)
      have K4 : Hid (Pl.risI (n0 : Int) x.Heard = true) := Lib.hid (Pl.risI_iff.2 ⟨hnok.heard, hnok.hin⟩)
      have K5 : Hid (Pl.isIn x.Role 0 2 = true) := Lib.hid (Pl.isInY hnok.role)
      have UF := Lib.hid uf0
      have HNO : Hid (x.Role = 0 → p1 = 0) := Lib.hid (fun h => by have h1 := hnok.none h; have h2 := uf0.1; rw [h1] at h2; exact h2.symm)
      have f1 : (k : Int) < (n0 : Nat) := by omega
      have f2 : (0 : Int) ≤ (k : Nat) := by omega
      have f3 : ((k : Nat) : Int).toNat = k := by omega
      clear hx uf0 hnok
      go_upto_region 7 with fail
      obtain ⟨gx, hgx⟩ : ∃ gx, W1.heap.size = gx := ⟨_, rfl⟩
      obtain ⟨W2, hW2⟩ : ∃ W2, W1.alloc (.cells #[.int .i64 x.Term, .int .i64 x.Voted, .int .i64 x.Age, .slice P1 p1 t1, .int .i64 x.Role] 42) = W2 := ⟨_, rfl⟩
      have HSR := Lib.hid (((Mm.SepF.start W1).alloc' hgx 42 [.int .i64 x.Term, .int .i64 x.Voted, .int .i64 x.Age, .slice P1 p1 t1, .int .i64 x.Role]).atW hW2)
      rw [hW2, hgx]
      clear hW2 hgx e0 e1 e2 e3 e4
      have HB2 := Lib.hid HSR.out.bel0
      have d0 := below_some HB2.out (below_some HX.out (HS0.out.cell (k := 0) 0 rfl rfl))
      have g0 := HSR.out.cell (k := 0) 0 rfl rfl
      have g1 := HSR.out.cell (k := 1) 0 rfl rfl
      have g2 := HSR.out.cell (k := 2) 0 rfl rfl
      have g3 := HSR.out.cell (k := 3) 0 rfl rfl
      have g4 := HSR.out.cell (k := 4) 0 rfl rfl
      have CN := areNodes_c n0 x.Heard P1 p1 t1 W2 B (UF.out.keep (w' := W2) fun b hb => HB2.out.block b (Nat.lt_of_lt_of_le hb hBw)) (by omega)
      rw [K4.out] at CN
      by_cases hr0 : x.Role = 0
      · have hp1 := HNO.out hr0
        subst hp1
        have q1 : ¬ (0 : Int) < ((0 : Nat) : Int) := by omega
        have q2 : (x.Role == 0) = true := by simp [hr0]
        have K6 : Hid (Pl.isIn 0 0 2 = true) := Lib.hid (by decide)
        go_wp2_with first
          | (go_at_call 43; (with_reducible refine (within_isV K1.out _).mono ?_); rintro e w' ⟨rfl, rfl⟩)
          | (go_at_call 43; (with_reducible refine (within_isV K2.out _).mono ?_); rintro e w' ⟨rfl, rfl⟩)
          | (go_at_call 46; (with_reducible refine (isAge_isV K3.out _).mono ?_); rintro e w' ⟨rfl, rfl⟩)
          | (go_at_call 71; (with_reducible refine CN.mono ?_); clear CN g0 g1 g2 g3 d0; rintro e w5 ⟨rfl, hb5⟩; (have g4' := below_some hb5 g4); (have g3' := below_some hb5 (HSR.out.cell (k := 3) 0 rfl rfl)))
          | (go_at_call 43; (with_reducible refine (within_isV K5.out _).mono ?_); rintro e w' ⟨rfl, rfl⟩)
          | (go_at_call 43; (with_reducible refine (within_isV K6.out _).mono ?_); rintro e w' ⟨rfl, rfl⟩)
        go_roundg (n0 - (k + 1))
        case measure => omega
        case rel => exact ⟨k + 1, Nat.le_refl _, by omega, by go_num, below_step HX.out (below_step HB2.out hb5)⟩
      · have q2 : (x.Role == 0) = false := by simp [hr0]
        go_wp2_with first
          | (go_at_call 43; (with_reducible refine (within_isV K1.out _).mono ?_); rintro e w' ⟨rfl, rfl⟩)
          | (go_at_call 43; (with_reducible refine (within_isV K2.out _).mono ?_); rintro e w' ⟨rfl, rfl⟩)
          | (go_at_call 46; (with_reducible refine (isAge_isV K3.out _).mono ?_); rintro e w' ⟨rfl, rfl⟩)
          | (go_at_call 71; (with_reducible refine CN.mono ?_); clear CN g0 g1 g2 g3 d0; rintro e w5 ⟨rfl, hb5⟩; (have g4' := below_some hb5 g4); (have g3' := below_some hb5 (HSR.out.cell (k := 3) 0 rfl rfl)))
          | (go_at_call 43; (with_reducible refine (within_isV K5.out _).mono ?_); rintro e w' ⟨rfl, rfl⟩)
        go_roundg (n0 - (k + 1))
        case measure => omega
        case rel => exact ⟨k + 1, Nat.le_refl _, by omega, by go_num, below_step HX.out (below_step HB2.out hb5)⟩
    have f1 : ¬ (k : Int) < (n0 : Nat) := by omega
    have b1 := below_some HX.out (HS0.out.cell (k := 1) 1 rfl rfl)
    go_wp2_with fail
    clear b1
    have HXX := Lib.hid HX.out
    clear HX
    go_loopg [79] n1 (fun gg i wr => ∃ k : Nat, n1 - k ≤ gg ∧ k ≤ n1 ∧ i = .int .i64 k ∧ Hid (Below W0.heap.size W0 wr))
    case atStart => exact ⟨0, Nat.le_refl _, Nat.zero_le _, rfl, HXX.out⟩
    case round =>
      clear HXX f1 hlt hk hgk
      obtain ⟨k, hgk, hk, rfl, HX⟩ := hrel
      obtain ⟨W1, rfl⟩ : ∃ W1 : World, W1 = wr := ⟨_, rfl⟩
      by_cases hlt : k < n1
      · obtain ⟨x, b, off, hx, rfl, hb, -, -, -, -, e0, e1, e2, e3, e4⟩ := rLetter_get (R1.out.keep (w' := W1) fun b hb => (HX.out.block b (Nat.lt_of_lt_of_le hb HBW.out)).trans (HB0.out.block b (Nat.lt_of_lt_of_le hb hB))) hlt
        have hlok : Pl.LetOk n0 x := by have := HP.out.letr x (List.mem_of_getElem? hx); rw [HNL.out] at this; exact this
        have K1 : Hid (Pl.isIn x.From 0 ((n0 : Int) - 1) = true) := Lib.hid (Pl.isInY (by have := hlok.src; omega))
        have K2 : Hid (Pl.isIn x.To 0 ((n0 : Int) - 1) = true) := Lib.hid (Pl.isInY (by have := hlok.dst; omega))
        have K3 : Hid (Pl.isIn x.Term 1 200 = true) := Lib.hid (Pl.isInY hlok.term)
        have K4 : Hid (Pl.ageOk x.Age = true) := Lib.hid (Pl.ageY hlok.age)
        have HNO : Hid (x.Ask = false → x.Age = 0) := Lib.hid hlok.no
        have f1 : (k : Int) < (n1 : Nat) := by omega
        have f2 : (0 : Int) ≤ (k : Nat) := by omega
        have f3 : ((k : Nat) : Int).toNat = k := by omega
        clear hx hlok
        obtain ⟨ak, hak⟩ : ∃ ak, x.Ask = ak := ⟨_, rfl⟩
        rw [hak] at HNO e3
        clear hak
        go_upto_region 13 with fail
        obtain ⟨gx, hgx⟩ : ∃ gx, W1.heap.size = gx := ⟨_, rfl⟩
        obtain ⟨W2, hW2⟩ : ∃ W2, W1.alloc (.cells #[.int .i64 x.From, .int .i64 x.To, .int .i64 x.Term, .bool ak, .int .i64 x.Age] 84) = W2 := ⟨_, rfl⟩
        have HSR := Lib.hid (((Mm.SepF.start W1).alloc' hgx 84 [.int .i64 x.From, .int .i64 x.To, .int .i64 x.Term, .bool ak, .int .i64 x.Age]).atW hW2)
        rw [hW2, hgx]
        clear hW2 hgx e0 e1 e2 e3 e4
        have HB2 := Lib.hid HSR.out.bel0
        have d0 := below_some HB2.out (below_some HX.out (HS0.out.cell (k := 0) 0 rfl rfl))
        have g0 := HSR.out.cell (k := 0) 0 rfl rfl
        have g1 := HSR.out.cell (k := 1) 0 rfl rfl
        have g2 := HSR.out.cell (k := 2) 0 rfl rfl
        have g3 := HSR.out.cell (k := 3) 0 rfl rfl
        have g4 := HSR.out.cell (k := 4) 0 rfl rfl
        cases ak with
        | true =>
          go_wp2_with first
            | (go_at_call 43; (with_reducible refine (within_isV K1.out _).mono ?_); rintro e w' ⟨rfl, rfl⟩)
            | (go_at_call 43; (with_reducible refine (within_isV K2.out _).mono ?_); rintro e w' ⟨rfl, rfl⟩)
            | (go_at_call 43; (with_reducible refine (within_isV K3.out _).mono ?_); rintro e w' ⟨rfl, rfl⟩)
            | (go_at_call 46; (with_reducible refine (isAge_isV K4.out _).mono ?_); rintro e w' ⟨rfl, rfl⟩)
          go_roundg (n1 - (k + 1))
          case measure => omega
          case rel => exact ⟨k + 1, Nat.le_refl _, by omega, by go_num, below_step HX.out HB2.out⟩
        | false =>
          have hz := HNO.out rfl
          have q2 : (x.Age != 0) = false := by simp [hz]
          go_wp2_with first
            | (go_at_call 43; (with_reducible refine (within_isV K1.out _).mono ?_); rintro e w' ⟨rfl, rfl⟩)
            | (go_at_call 43; (with_reducible refine (within_isV K2.out _).mono ?_); rintro e w' ⟨rfl, rfl⟩)
            | (go_at_call 43; (with_reducible refine (within_isV K3.out _).mono ?_); rintro e w' ⟨rfl, rfl⟩)
            | (go_at_call 46; (with_reducible refine (isAge_isV K4.out _).mono ?_); rintro e w' ⟨rfl, rfl⟩)
          go_roundg (n1 - (k + 1))
          case measure => omega
          case rel => exact ⟨k + 1, Nat.le_refl _, by omega, by go_num, below_step HX.out HB2.out⟩
      have f1 : ¬ (k : Int) < (n1 : Nat) := by omega
      have b2 := below_some HX.out (HS0.out.cell (k := 2) 1 rfl rfl)
      have hBw : B ≤ W1.heap.size := Nat.le_trans HBW.out HX.out.size
      have CL := hasLeads_c n0 gb p.Leaders A2 n2 c2 W1 B ((HS0.out.at_ 0 rfl : Mm.Blk _ _ _ _).bel HX.out) (R2.out.keep (w' := W1) fun b hb => (HX.out.block b (Nat.lt_of_lt_of_le hb HBW.out)).trans (HB0.out.block b (Nat.lt_of_lt_of_le hb hB))) hBw h05 (fun x hx => by have := HP.out.lead x hx; rw [HNL.out] at this; exact this)
      go_wp2_with (go_at_call 85; (with_reducible refine CL.mono ?_); clear CL; rintro e w5 ⟨rfl, hb5⟩)
      go_ret
      exact ⟨rfl, below_step HB0.out (below_step HX.out hb5)⟩
set_option maxRecDepth 100000 in
theorem implGoodPollYes_c (p : Poll) (cs : List Value) (w : World) (B : Nat) (hr : rPoll.at_ w B p cs) (hB : B ≤ w.heap.size) (hp : Pl.PW p) :
    Calls Try.prog 11 #[.agg cs.toArray] w fun e w' => e = .returned (.bool true) ∧ Below w.heap.size w w' := by
  obtain ⟨A0, n0, c0, A1, n1, c1, A2, n2, c2, rfl, -⟩ := rPoll_at hr
  have HS := Lib.hid ((Mm.SepF.start w).alloc' rfl 31 [.slice A0 n0 c0, .slice A1 n1 c1, .slice A2 n2 c2])
  have HR := Lib.hid (rPoll.keep hr (w' := w.alloc (.cells #[.slice A0 n0 c0, .slice A1 n1 c1, .slice A2 n2 c2] 31)) fun b hb => HS.out.bel0.block b (by omega))
  have hB2 := Nat.le_trans hB HS.out.chg.size
  clear hr
  go_enter Try.func11, Try.ntmps11
  go_wp2_with (go_at_call 52; refine (isPollYes_c p _ _ B HR.out hB2 hp).mono ?_; rintro e w1 ⟨rfl, hb1⟩)
  go_ret
  exact ⟨rfl, below_step HS.out.bel0 hb1⟩
set_option maxRecDepth 100000 in
theorem implMajorityOf_c (n : Nat) (w : World) (h1 : 1 ≤ n) (h5 : n ≤ 100) :
    Calls Try.prog 13 #[.int .i64 (n : Nat)] w fun e w' => e = .returned (.tuple #[.int .i64 ((n / 2 + 1 : Nat) : Int), .bool true]) ∧ w = w' := by
  have G1 : Hid (Pl.isIn (n : Int) 1 100 = true) := Lib.hid (Pl.isInY (by omega))
  have f3 : ((n / 2 + 1 : Nat) : Int) = (n : Int) / 2 + 1 := by omega
  go_enter Try.func13, Try.ntmps13
  go_wp2_with (go_at_call 43; (with_reducible refine (within_isV G1.out _).mono ?_); rintro e w' ⟨rfl, rfl⟩)
  go_ret2
  exact ⟨by rw [f3]; rfl, rfl⟩
set_option maxRecDepth 100000 in
set_option maxHeartbeats 1000000 in
theorem implLeaderOf_c (p : Poll) (t v : Int) (cs : List Value) (w : World) (B : Nat) (hr : rPoll.at_ w B p cs) (hB : B ≤ w.heap.size) (hp : Pl.PW p) (hu : p.Leaders.Pairwise (fun a b => a.head? ≠ b.head?)) (hm : [t, v] ∈ p.Leaders) :
    Calls Try.prog 12 #[.agg cs.toArray, .int .i64 t] w fun e w' => e = .returned (.tuple #[.int .i64 v, .bool true]) ∧ Below w.heap.size w w' := by
  obtain ⟨i0, hi0⟩ := List.mem_iff_getElem?.1 hm
  have hil := (List.getElem?_eq_some_iff.1 hi0).1
  have hun : ∀ (k : Nat) (a b : Int), p.Leaders[k]? = some [a, b] → (k = i0 ∧ a = t ∧ b = v) ∨ (k ≠ i0 ∧ a ≠ t) := fun k a b hk => by
    by_cases h : k = i0
    · subst h; rw [hi0] at hk; injection hk with hk; injection hk with h1 hk; injection hk with h2 _; exact .inl ⟨rfl, h1.symm, h2.symm⟩
    · refine .inr ⟨h, fun ha => ?_⟩
      have hkl := (List.getElem?_eq_some_iff.1 hk).1
      have e1 := (List.getElem?_eq_some_iff.1 hk).2
      have e2 := (List.getElem?_eq_some_iff.1 hi0).2
      rcases Nat.lt_or_gt_of_ne h with h3 | h3
      · exact List.pairwise_iff_getElem.1 hu _ _ hkl hil h3 (by rw [e1, e2, ha]; rfl)
      · exact List.pairwise_iff_getElem.1 hu _ _ hil hkl h3 (by rw [e1, e2, ha]; rfl)
  obtain ⟨A0, n0, c0, A1, n1, c1, A2, n2, c2, rfl, r0, r1, r2⟩ := rPoll_at hr
  have l2 : n2 ≤ maxLen := Nat.le_trans r2.2.1 r2.2.2.1
  unfold maxLen at l2
  have hi2 : i0 < n2 := by rw [← r2.1]; exact hil
  obtain ⟨ga, hga⟩ : ∃ ga, w.heap.size = ga := ⟨_, rfl⟩
  obtain ⟨W0, hW0⟩ : ∃ W0, w.alloc (.cells #[.slice A0 n0 c0, .slice A1 n1 c1, .slice A2 n2 c2] 31) = W0 := ⟨_, rfl⟩
  have HS0 := Lib.hid (((Mm.SepF.start w).alloc' hga 31 [.slice A0 n0 c0, .slice A1 n1 c1, .slice A2 n2 c2]).atW hW0)
  have HB0 := Lib.hid HS0.out.bel0
  have HBW := Lib.hid (Nat.le_trans hB HB0.out.size)
  have C := isPollYes_c p [.slice A0 n0 c0, .slice A1 n1 c1, .slice A2 n2 c2] W0 B (rPoll.keep hr fun b hb => HB0.out.block b (Nat.lt_of_lt_of_le hb hB)) HBW.out hp
  have HLD := Lib.hid hp.lead
  have R2 := Lib.hid r2
  have HUN := Lib.hid hun
  have b0 := HS0.out.cell (k := 0) 0 rfl rfl
  have b1 := HS0.out.cell (k := 1) 0 rfl rfl
  have b2 := HS0.out.cell (k := 2) 0 rfl rfl
  clear hr r0 r1 r2 hp hun hu hm hi0 hil
  go_enter Try.func12, Try.ntmps12
  go_wp2_with (go_at_call 52; (with_reducible refine C.mono ?_); clear C; rintro e w1 ⟨rfl, hb1⟩; have HX := Lib.hid hb1; have b3 := below_some HX.out b2)
  clear b0 b1 b2 b3
  go_loopg [14] n2 (fun gg i wr => ∃ k : Nat, n2 - k ≤ gg ∧ k ≤ i0 ∧ i = .int .i64 k ∧ wr = w1)
  case atStart => exact ⟨0, Nat.le_refl _, Nat.zero_le _, rfl, rfl⟩
  case round =>
    obtain ⟨k, hgk, hk, rfl, rfl⟩ := hrel
    have hlt : k < n2 := by omega
    obtain ⟨x, b, off, P1, p1, t1, hx, rfl, hb, uf0, uc0⟩ := ints_get (R2.out.keep (w' := wr) fun b hb => (HX.out.block b (Nat.lt_of_lt_of_le hb HBW.out)).trans (HB0.out.block b (Nat.lt_of_lt_of_le hb hB))) hlt
    obtain ⟨y, z, rfl, -⟩ := HLD.out x (List.mem_of_getElem? hx)
    obtain rfl : p1 = 2 := uf0.1.symm
    obtain ⟨x', b', off', hx', rfl, hb', i0', e0⟩ := int_get uf0 (show 0 < 2 by omega)
    obtain ⟨y', hy', _, j0, e1⟩ := int_get' uf0 (show 1 < 2 by omega)
    obtain rfl : y = x' := by injection hx'
    obtain rfl : z = y' := by injection hy'
    rw [Nat.add_zero] at e0
    have hor := HUN.out k y z hx
    have f1 : (k : Int) < (n2 : Nat) := by omega
    have f2 : (0 : Int) ≤ (k : Nat) := by omega
    have f3 : ((k : Nat) : Int).toNat = k := by omega
    clear hx uf0 hx' hy'
    rcases hor with ⟨-, rfl, rfl⟩ | ⟨h1, h2⟩
    · go_wp2_with fail
      go_ret2
      exact ⟨rfl, below_step HB0.out HX.out⟩
    · have q1 : (y == t) = false := by simp [h2]
      go_wp2_with fail
      go_roundg (n2 - (k + 1))
      case measure => omega
      case rel => exact ⟨k + 1, Nat.le_refl _, by omega, by go_num, rfl⟩
end Go.Proofs.Ytkhchfbpmmiopaa

/-
  Contracts: what a good election is, at drawn ones, good or not: the program's test (chapter 8). No conditions beyond those named.
-/
namespace Go.Proofs.Ytkhchfbpmmiopaa
open Go.RowKit
attribute [local go_sem] und_cell cha_cell World.cell?_alloc_some
def Pl.nodeIn (m : Nat) (n : Node) : Bool := Pl.isIn n.Term 0 200 && Pl.isIn n.Voted (-1) ((m : Int) - 1)
def Pl.letIn (m : Nat) (x : Letter) : Bool := Pl.isIn x.From 0 ((m : Int) - 1) && (Pl.isIn x.To 0 ((m : Int) - 1) && Pl.isIn x.Term 1 200)
/-- what a drawn election, good or not, always has -/
structure Pl.NodeSemi (m : Nat) (n : Node) : Prop where
  age : 0 ≤ n.Age ∧ n.Age ≤ 9
  heard : n.Heard.Pairwise (· < ·)
  hin : ∀ k, k ∈ n.Heard → 0 ≤ k ∧ k < m
  role : 0 ≤ n.Role ∧ n.Role ≤ 2
  none : n.Role = 0 → n.Heard = []
structure Pl.PS (p : Poll) : Prop where
  n1 : 1 ≤ p.Nodes.length
  n5 : p.Nodes.length ≤ 5
  lets : p.Letters.length ≤ 61
  leads : p.Leaders.length ≤ 300
  node : ∀ (k : Nat) (n : Node), p.Nodes[k]? = some n → Pl.NodeSemi p.Nodes.length n
  letr : ∀ x, x ∈ p.Letters → (0 ≤ x.Age ∧ x.Age ≤ 9) ∧ (x.Ask = false → x.Age = 0)
  lead : ∀ l, l ∈ p.Leaders → Pl.LeadOk p.Nodes.length l
def Pl.pollOk (p : Poll) : Bool := decide (p.Letters.length ≤ 60) && (p.Nodes.all (Pl.nodeIn p.Nodes.length) && p.Letters.all (Pl.letIn p.Nodes.length))
theorem Pl.PW.ps {p : Poll} (h : Pl.PW p) : Pl.PS p :=
  ⟨h.n1, h.n5, by have := h.lets; omega, h.leads, fun k n hn => ⟨(h.node k n hn).age, (h.node k n hn).heard, (h.node k n hn).hin, (h.node k n hn).role, (h.node k n hn).none⟩, fun x hx => ⟨(h.letr x hx).age, (h.letr x hx).no⟩, h.lead⟩
theorem Pl.PW.ok {p : Poll} (h : Pl.PW p) : Pl.pollOk p = true := by
  unfold Pl.pollOk
  rw [Bool.and_eq_true, Bool.and_eq_true]
  refine ⟨decide_eq_true h.lets, List.all_eq_true.2 fun n hn => ?_, List.all_eq_true.2 fun x hx => ?_⟩
  · obtain ⟨k, hk⟩ := List.mem_iff_getElem?.1 hn
    have := h.node k n hk
    unfold Pl.nodeIn
    rw [Bool.and_eq_true]
    exact ⟨Pl.isIn_iff.2 this.term, Pl.isIn_iff.2 this.voted⟩
  · have := h.letr x hx
    unfold Pl.letIn
    rw [Bool.and_eq_true, Bool.and_eq_true]
    have h1 := this.src
    have h2 := this.dst
    exact ⟨Pl.isIn_iff.2 (by omega), Pl.isIn_iff.2 (by omega), Pl.isIn_iff.2 this.term⟩
theorem Pl.PS.pw {p : Poll} (h : Pl.PS p) (ok : Pl.pollOk p = true) : Pl.PW p := by
  unfold Pl.pollOk at ok
  rw [Bool.and_eq_true, Bool.and_eq_true] at ok
  obtain ⟨h1, h2, h3⟩ := ok
  refine ⟨h.n1, h.n5, of_decide_eq_true h1, h.leads, fun k n hn => ?_, fun x hx => ?_, h.lead⟩
  · have h4 := List.all_eq_true.1 h2 n (List.mem_of_getElem? hn)
    unfold Pl.nodeIn at h4
    rw [Bool.and_eq_true] at h4
    have h5 := h.node k n hn
    exact ⟨Pl.isIn_iff.1 h4.1, Pl.isIn_iff.1 h4.2, h5.age, h5.heard, h5.hin, h5.role, h5.none⟩
  · have h4 := List.all_eq_true.1 h3 x hx
    unfold Pl.letIn at h4
    rw [Bool.and_eq_true, Bool.and_eq_true] at h4
    have h5 := h.letr x hx
    have e1 := Pl.isIn_iff.1 h4.1
    have e2 := Pl.isIn_iff.1 h4.2.1
    exact ⟨by omega, by omega, Pl.isIn_iff.1 h4.2.2, h5.1, h5.2⟩
theorem Pl.allTake_snoc {α : Type} {f : α → Bool} {l : List α} {k : Nat} {x : α} (h : l[k]? = some x) : (l.take (k + 1)).all f = ((l.take k).all f && f x) := by
  rw [Mm.take_succ_some h, List.all_append]; simp
theorem Pl.allNo_of {α : Type} {f : α → Bool} {l : List α} {k : Nat} {x : α} (h : l[k]? = some x) (hf : f x = false) : l.all f = false := by
  cases ha : l.all f with
  | false => rfl
  | true => rw [List.all_eq_true.1 ha x (List.mem_of_getElem? h)] at hf; cases hf
set_option maxRecDepth 100000 in
set_option maxHeartbeats 4000000 in
theorem isPoll_c (p : Poll) (cs : List Value) (w : World) (B : Nat) (hr : rPoll.at_ w B p cs) (hB : B ≤ w.heap.size) (hp : Pl.PS p) :
    Calls Try.prog 52 #[.agg cs.toArray] w fun e w' => e = .returned (.bool (Pl.pollOk p)) ∧ Below w.heap.size w w' := by
  obtain ⟨A0, n0, c0, A1, n1, c1, A2, n2, c2, rfl, r0, r1, r2⟩ := rPoll_at hr
  have h01 : 1 ≤ n0 := by have := hp.n1; rw [r0.1] at this; exact this
  have h05 : n0 ≤ 5 := by have := hp.n5; rw [r0.1] at this; exact this
  have h161 : n1 ≤ 61 := by have := hp.lets; rw [r1.1] at this; exact this
  have h2 : n2 ≤ 300 := by have := hp.leads; rw [r2.1] at this; exact this
  have HNL : Hid (p.Nodes.length = n0) := r0.1
  have HLL : Hid (p.Letters.length = n1) := r1.1
  have HOK : Hid (Pl.pollOk p = (decide (n1 ≤ 60) && (p.Nodes.all (Pl.nodeIn n0) && p.Letters.all (Pl.letIn n0)))) := Lib.hid (by unfold Pl.pollOk; rw [r0.1, r1.1])
  have R0 := Lib.hid r0
  have R1 := Lib.hid r1
  have R2 := Lib.hid r2
  have HP := Lib.hid hp
  have G1 : Hid (Pl.isIn (n0 : Int) 1 5 = true) := Lib.hid (Pl.isInY (by omega))
  have fw : IntKind.i64.wrap ((n0 : Int) - 1) = (n0 : Int) - 1 := IntWalk.i64_in _ (by omega)
  have f12 : ¬ (300 : Int) < (n2 : Nat) := by omega
  clear hr r0 r1 r2 hp
  go_enter Try.func52, Try.ntmps52
  go_upto_region 2 with fail
  obtain ⟨ga, hga⟩ : ∃ ga, w.heap.size = ga := ⟨_, rfl⟩
  obtain ⟨gb, hgb⟩ : ∃ gb, ga + 1 = gb := ⟨_, rfl⟩
  obtain ⟨W0, hW0⟩ : ∃ W0, (w.alloc (.cells #[.slice A0 n0 c0, .slice A1 n1 c1, .slice A2 n2 c2] 31)).alloc (.cells #[.int .i64 (n0 : Nat)] 3) = W0 := ⟨_, rfl⟩
  have HS0 := Lib.hid ((((Mm.SepF.start w).alloc' hga 31 [.slice A0 n0 c0, .slice A1 n1 c1, .slice A2 n2 c2]).alloc' (g := gb) (by rw [Mm.sz1, hga, hgb]) 3 [.int .i64 (n0 : Nat)]).atW hW0)
  rw [hW0, hga, hgb]
  clear hW0 hga hgb
  have HB0 := Lib.hid HS0.out.bel0
  have HBW := Lib.hid (Nat.le_trans hB HB0.out.size)
  have b0 := HS0.out.cell (k := 0) 1 rfl rfl
  have b1 := HS0.out.cell (k := 1) 1 rfl rfl
  have b2 := HS0.out.cell (k := 2) 1 rfl rfl
  have d0 := HS0.out.cell (k := 0) 0 rfl rfl
  by_cases h1 : n1 ≤ 60
  rotate_left
  · have f11 : (60 : Int) < (n1 : Nat) := by omega
    have HF : Hid (Pl.pollOk p = false) := Lib.hid (by rw [HOK.out, decide_eq_false h1]; rfl)
    clear h1
    go_wp2_with (go_at_call 43; (with_reducible refine (within_isV G1.out _).mono ?_); rintro e w' ⟨rfl, rfl⟩)
    go_ret
    exact ⟨ret_bool HF.out.symm, HB0.out⟩
  have f11 : ¬ (60 : Int) < (n1 : Nat) := by omega
  rw [decide_eq_true h1, Bool.true_and] at HOK
  go_wp2_with (go_at_call 43; (with_reducible refine (within_isV G1.out _).mono ?_); rintro e w' ⟨rfl, rfl⟩)
  clear b0 b1 b2 d0 f11 f12
  go_loopg [29] n0 (fun gg i wr => ∃ k : Nat, n0 - k ≤ gg ∧ k ≤ n0 ∧ i = .int .i64 k ∧ Hid ((p.Nodes.take k).all (Pl.nodeIn n0) = true) ∧ Hid (Below W0.heap.size W0 wr))
  case atStart => exact ⟨0, Nat.le_refl _, Nat.zero_le _, rfl, rfl, Below.refl _ _⟩
  case round =>
    obtain ⟨k, hgk, hk, rfl, HA, HX⟩ := hrel
    obtain ⟨W1, rfl⟩ : ∃ W1 : World, W1 = wr := ⟨_, rfl⟩
    by_cases hlt : k < n0
    · have hBw : B ≤ W1.heap.size := Nat.le_trans HBW.out HX.out.size
      obtain ⟨x, b, off, P1, p1, t1, hx, rfl, hb, -, -, -, uf0, -, e0, e1, e2, e3, e4⟩ := rNode_get (R0.out.keep (w' := W1) fun b hb => (HX.out.block b (Nat.lt_of_lt_of_le hb HBW.out)).trans (HB0.out.block b (Nat.lt_of_lt_of_le hb hB))) hlt
      have hnok : Pl.NodeSemi n0 x := by have := HP.out.node k x hx; rw [HNL.out] at this; exact this
      have HSN : Hid ((p.Nodes.take (k + 1)).all (Pl.nodeIn n0) = Pl.nodeIn n0 x) := Lib.hid (by rw [Pl.allTake_snoc hx, HA.out, Bool.true_and])
      have HBD : Hid (Pl.nodeIn n0 x = false → Pl.pollOk p = false) := Lib.hid (fun h => by rw [HOK.out, Pl.allNo_of hx h]; rfl)
      obtain ⟨a1, ha1⟩ : ∃ a, Pl.isIn x.Term 0 200 = a := ⟨_, rfl⟩
      obtain ⟨a2, ha2⟩ : ∃ a, Pl.isIn x.Voted (-1) ((n0 : Int) - 1) = a := ⟨_, rfl⟩
      have HNI : Hid (Pl.nodeIn n0 x = (a1 && a2)) := Lib.hid (by unfold Pl.nodeIn; rw [ha1, ha2])
      have K1 := Lib.hid ha1
      have K2 := Lib.hid ha2
      clear ha1 ha2
      have K3 : Hid (Pl.ageOk x.Age = true) := Lib.hid (Pl.ageY hnok.age)
      have K4 : Hid (Pl.risI (n0 : Int) x.Heard = true) := Lib.hid (Pl.risI_iff.2 ⟨hnok.heard, hnok.hin⟩)
      have K5 : Hid (Pl.isIn x.Role 0 2 = true) := Lib.hid (Pl.isInY hnok.role)
      have UF := Lib.hid uf0
      have HNO : Hid (x.Role = 0 → p1 = 0) := Lib.hid (fun h => by have h1 := hnok.none h; have h2 := uf0.1; rw [h1] at h2; exact h2.symm)
      have f1 : (k : Int) < (n0 : Nat) := by omega
      have f2 : (0 : Int) ≤ (k : Nat) := by omega
      have f3 : ((k : Nat) : Int).toNat = k := by omega
      clear hx uf0 hnok
      go_upto_region 7 with fail
      obtain ⟨gx, hgx⟩ : ∃ gx, W1.heap.size = gx := ⟨_, rfl⟩
      obtain ⟨W2, hW2⟩ : ∃ W2, W1.alloc (.cells #[.int .i64 x.Term, .int .i64 x.Voted, .int .i64 x.Age, .slice P1 p1 t1, .int .i64 x.Role] 42) = W2 := ⟨_, rfl⟩
      have HSR := Lib.hid (((Mm.SepF.start W1).alloc' hgx 42 [.int .i64 x.Term, .int .i64 x.Voted, .int .i64 x.Age, .slice P1 p1 t1, .int .i64 x.Role]).atW hW2)
      rw [hW2, hgx]
      clear hW2 hgx e0 e1 e2 e3 e4
      have HB2 := Lib.hid HSR.out.bel0
      have d0 := below_some HB2.out (below_some HX.out (HS0.out.cell (k := 0) 0 rfl rfl))
      have g0 := HSR.out.cell (k := 0) 0 rfl rfl
      have g1 := HSR.out.cell (k := 1) 0 rfl rfl
      have g2 := HSR.out.cell (k := 2) 0 rfl rfl
      have g3 := HSR.out.cell (k := 3) 0 rfl rfl
      have g4 := HSR.out.cell (k := 4) 0 rfl rfl
      have CN := areNodes_c n0 x.Heard P1 p1 t1 W2 B (UF.out.keep (w' := W2) fun b hb => HB2.out.block b (Nat.lt_of_lt_of_le hb hBw)) (by omega)
      rw [K4.out] at CN
      cases a1 with
      | false =>
        have HF : Hid (Pl.pollOk p = false) := Lib.hid (HBD.out (by rw [HNI.out]; rfl))
        go_wp2_with (go_at_call 43; (with_reducible refine (within_isV K1.out _).mono ?_); rintro e w' ⟨rfl, rfl⟩)
        go_ret
        exact ⟨ret_bool HF.out.symm, below_step HB0.out (below_step HX.out HB2.out)⟩
      | true =>
      cases a2 with
      | false =>
        have HF : Hid (Pl.pollOk p = false) := Lib.hid (HBD.out (by rw [HNI.out]; rfl))
        go_wp2_with first
          | (go_at_call 43; (with_reducible refine (within_isV K1.out _).mono ?_); rintro e w' ⟨rfl, rfl⟩)
          | (go_at_call 43; (with_reducible refine (within_isV K2.out _).mono ?_); rintro e w' ⟨rfl, rfl⟩)
        go_ret
        exact ⟨ret_bool HF.out.symm, below_step HB0.out (below_step HX.out HB2.out)⟩
      | true =>
      have HA1 : Hid ((p.Nodes.take (k + 1)).all (Pl.nodeIn n0) = true) := Lib.hid (by rw [HSN.out, HNI.out]; rfl)
      by_cases hr0 : x.Role = 0
      · have hp1 := HNO.out hr0
        subst hp1
        have q1 : ¬ (0 : Int) < ((0 : Nat) : Int) := by omega
        have q2 : (x.Role == 0) = true := by simp [hr0]
        have K6 : Hid (Pl.isIn 0 0 2 = true) := Lib.hid (by decide)
        go_wp2_with first
          | (go_at_call 43; (with_reducible refine (within_isV K1.out _).mono ?_); rintro e w' ⟨rfl, rfl⟩)
          | (go_at_call 43; (with_reducible refine (within_isV K2.out _).mono ?_); rintro e w' ⟨rfl, rfl⟩)
          | (go_at_call 46; (with_reducible refine (isAge_isV K3.out _).mono ?_); rintro e w' ⟨rfl, rfl⟩)
          | (go_at_call 71; (with_reducible refine CN.mono ?_); clear CN g0 g1 g2 g3 d0; rintro e w5 ⟨rfl, hb5⟩; (have g4' := below_some hb5 g4); (have g3' := below_some hb5 (HSR.out.cell (k := 3) 0 rfl rfl)))
          | (go_at_call 43; (with_reducible refine (within_isV K5.out _).mono ?_); rintro e w' ⟨rfl, rfl⟩)
          | (go_at_call 43; (with_reducible refine (within_isV K6.out _).mono ?_); rintro e w' ⟨rfl, rfl⟩)
        go_roundg (n0 - (k + 1))
        case measure => omega
        case rel => exact ⟨k + 1, Nat.le_refl _, by omega, by go_num, HA1.out, below_step HX.out (below_step HB2.out hb5)⟩
      · have q2 : (x.Role == 0) = false := by simp [hr0]
        go_wp2_with first
          | (go_at_call 43; (with_reducible refine (within_isV K1.out _).mono ?_); rintro e w' ⟨rfl, rfl⟩)
          | (go_at_call 43; (with_reducible refine (within_isV K2.out _).mono ?_); rintro e w' ⟨rfl, rfl⟩)
          | (go_at_call 46; (with_reducible refine (isAge_isV K3.out _).mono ?_); rintro e w' ⟨rfl, rfl⟩)
          | (go_at_call 71; (with_reducible refine CN.mono ?_); clear CN g0 g1 g2 g3 d0; rintro e w5 ⟨rfl, hb5⟩; (have g4' := below_some hb5 g4); (have g3' := below_some hb5 (HSR.out.cell (k := 3) 0 rfl rfl)))
          | (go_at_call 43; (with_reducible refine (within_isV K5.out _).mono ?_); rintro e w' ⟨rfl, rfl⟩)
        go_roundg (n0 - (k + 1))
        case measure => omega
        case rel => exact ⟨k + 1, Nat.le_refl _, by omega, by go_num, HA1.out, below_step HX.out (below_step HB2.out hb5)⟩
    have f1 : ¬ (k : Int) < (n0 : Nat) := by omega
    have HOK2 : Hid (Pl.pollOk p = p.Letters.all (Pl.letIn n0)) := Lib.hid (by
      have h := HA.out
      rw [List.take_of_length_le (by rw [HNL.out]; omega)] at h
      rw [HOK.out, h, Bool.true_and])
    clear HA HOK
    have b1 := below_some HX.out (HS0.out.cell (k := 1) 1 rfl rfl)
    go_wp2_with fail
    clear b1
    have HXX := Lib.hid HX.out
    clear HX
    go_loopg [79] n1 (fun gg i wr => ∃ k : Nat, n1 - k ≤ gg ∧ k ≤ n1 ∧ i = .int .i64 k ∧ Hid ((p.Letters.take k).all (Pl.letIn n0) = true) ∧ Hid (Below W0.heap.size W0 wr))
    case atStart => exact ⟨0, Nat.le_refl _, Nat.zero_le _, rfl, rfl, HXX.out⟩
    case round =>
      clear HXX f1 hlt hk hgk
      obtain ⟨k, hgk, hk, rfl, HA, HX⟩ := hrel
      obtain ⟨W1, rfl⟩ : ∃ W1 : World, W1 = wr := ⟨_, rfl⟩
      by_cases hlt : k < n1
      · obtain ⟨x, b, off, hx, rfl, hb, -, -, -, -, e0, e1, e2, e3, e4⟩ := rLetter_get (R1.out.keep (w' := W1) fun b hb => (HX.out.block b (Nat.lt_of_lt_of_le hb HBW.out)).trans (HB0.out.block b (Nat.lt_of_lt_of_le hb hB))) hlt
        have hlok := HP.out.letr x (List.mem_of_getElem? hx)
        have HSN : Hid ((p.Letters.take (k + 1)).all (Pl.letIn n0) = Pl.letIn n0 x) := Lib.hid (by rw [Pl.allTake_snoc hx, HA.out, Bool.true_and])
        have HBD : Hid (Pl.letIn n0 x = false → Pl.pollOk p = false) := Lib.hid (fun h => by rw [HOK2.out]; exact Pl.allNo_of hx h)
        obtain ⟨a1, ha1⟩ : ∃ a, Pl.isIn x.From 0 ((n0 : Int) - 1) = a := ⟨_, rfl⟩
        obtain ⟨a2, ha2⟩ : ∃ a, Pl.isIn x.To 0 ((n0 : Int) - 1) = a := ⟨_, rfl⟩
        obtain ⟨a3, ha3⟩ : ∃ a, Pl.isIn x.Term 1 200 = a := ⟨_, rfl⟩
        have HNI : Hid (Pl.letIn n0 x = (a1 && (a2 && a3))) := Lib.hid (by unfold Pl.letIn; rw [ha1, ha2, ha3])
        have K1 := Lib.hid ha1
        have K2 := Lib.hid ha2
        have K3 := Lib.hid ha3
        clear ha1 ha2 ha3
        have K4 : Hid (Pl.ageOk x.Age = true) := Lib.hid (Pl.ageY hlok.1)
        have HNO : Hid (x.Ask = false → x.Age = 0) := Lib.hid hlok.2
        have f1 : (k : Int) < (n1 : Nat) := by omega
        have f2 : (0 : Int) ≤ (k : Nat) := by omega
        have f3 : ((k : Nat) : Int).toNat = k := by omega
        clear hx hlok
        obtain ⟨ak, hak⟩ : ∃ ak, x.Ask = ak := ⟨_, rfl⟩
        rw [hak] at HNO e3
        clear hak
        go_upto_region 13 with fail
        obtain ⟨gx, hgx⟩ : ∃ gx, W1.heap.size = gx := ⟨_, rfl⟩
        obtain ⟨W2, hW2⟩ : ∃ W2, W1.alloc (.cells #[.int .i64 x.From, .int .i64 x.To, .int .i64 x.Term, .bool ak, .int .i64 x.Age] 84) = W2 := ⟨_, rfl⟩
        have HSR := Lib.hid (((Mm.SepF.start W1).alloc' hgx 84 [.int .i64 x.From, .int .i64 x.To, .int .i64 x.Term, .bool ak, .int .i64 x.Age]).atW hW2)
        rw [hW2, hgx]
        clear hW2 hgx e0 e1 e2 e3 e4
        have HB2 := Lib.hid HSR.out.bel0
        have d0 := below_some HB2.out (below_some HX.out (HS0.out.cell (k := 0) 0 rfl rfl))
        have g0 := HSR.out.cell (k := 0) 0 rfl rfl
        have g1 := HSR.out.cell (k := 1) 0 rfl rfl
        have g2 := HSR.out.cell (k := 2) 0 rfl rfl
        have g3 := HSR.out.cell (k := 3) 0 rfl rfl
        have g4 := HSR.out.cell (k := 4) 0 rfl rfl
        cases a1 with
        | false =>
          have HF : Hid (Pl.pollOk p = false) := Lib.hid (HBD.out (by rw [HNI.out]; rfl))
          go_wp2_with first
            | (go_at_call 43; (with_reducible refine (within_isV K1.out _).mono ?_); rintro e w' ⟨rfl, rfl⟩)
            | (go_at_call 43; (with_reducible refine (within_isV K2.out _).mono ?_); rintro e w' ⟨rfl, rfl⟩)
            | (go_at_call 43; (with_reducible refine (within_isV K3.out _).mono ?_); rintro e w' ⟨rfl, rfl⟩)
          go_ret
          exact ⟨ret_bool HF.out.symm, below_step HB0.out (below_step HX.out HB2.out)⟩
        | true =>
        cases a2 with
        | false =>
          have HF : Hid (Pl.pollOk p = false) := Lib.hid (HBD.out (by rw [HNI.out]; rfl))
          go_wp2_with first
            | (go_at_call 43; (with_reducible refine (within_isV K1.out _).mono ?_); rintro e w' ⟨rfl, rfl⟩)
            | (go_at_call 43; (with_reducible refine (within_isV K2.out _).mono ?_); rintro e w' ⟨rfl, rfl⟩)
            | (go_at_call 43; (with_reducible refine (within_isV K3.out _).mono ?_); rintro e w' ⟨rfl, rfl⟩)
          go_ret
          exact ⟨ret_bool HF.out.symm, below_step HB0.out (below_step HX.out HB2.out)⟩
        | true =>
        cases a3 with
        | false =>
          have HF : Hid (Pl.pollOk p = false) := Lib.hid (HBD.out (by rw [HNI.out]; rfl))
          go_wp2_with first
            | (go_at_call 43; (with_reducible refine (within_isV K1.out _).mono ?_); rintro e w' ⟨rfl, rfl⟩)
            | (go_at_call 43; (with_reducible refine (within_isV K2.out _).mono ?_); rintro e w' ⟨rfl, rfl⟩)
            | (go_at_call 43; (with_reducible refine (within_isV K3.out _).mono ?_); rintro e w' ⟨rfl, rfl⟩)
          go_ret
          exact ⟨ret_bool HF.out.symm, below_step HB0.out (below_step HX.out HB2.out)⟩
        | true =>
        have HA1 : Hid ((p.Letters.take (k + 1)).all (Pl.letIn n0) = true) := Lib.hid (by rw [HSN.out, HNI.out]; rfl)
        cases ak with
        | true =>
          go_wp2_with first
            | (go_at_call 43; (with_reducible refine (within_isV K1.out _).mono ?_); rintro e w' ⟨rfl, rfl⟩)
            | (go_at_call 43; (with_reducible refine (within_isV K2.out _).mono ?_); rintro e w' ⟨rfl, rfl⟩)
            | (go_at_call 43; (with_reducible refine (within_isV K3.out _).mono ?_); rintro e w' ⟨rfl, rfl⟩)
            | (go_at_call 46; (with_reducible refine (isAge_isV K4.out _).mono ?_); rintro e w' ⟨rfl, rfl⟩)
          go_roundg (n1 - (k + 1))
          case measure => omega
          case rel => exact ⟨k + 1, Nat.le_refl _, by omega, by go_num, HA1.out, below_step HX.out HB2.out⟩
        | false =>
          have hz := HNO.out rfl
          have q2 : (x.Age != 0) = false := by simp [hz]
          go_wp2_with first
            | (go_at_call 43; (with_reducible refine (within_isV K1.out _).mono ?_); rintro e w' ⟨rfl, rfl⟩)
            | (go_at_call 43; (with_reducible refine (within_isV K2.out _).mono ?_); rintro e w' ⟨rfl, rfl⟩)
            | (go_at_call 43; (with_reducible refine (within_isV K3.out _).mono ?_); rintro e w' ⟨rfl, rfl⟩)
            | (go_at_call 46; (with_reducible refine (isAge_isV K4.out _).mono ?_); rintro e w' ⟨rfl, rfl⟩)
          go_roundg (n1 - (k + 1))
          case measure => omega
          case rel => exact ⟨k + 1, Nat.le_refl _, by omega, by go_num, HA1.out, below_step HX.out HB2.out⟩
      have f1 : ¬ (k : Int) < (n1 : Nat) := by omega
      have b2 := below_some HX.out (HS0.out.cell (k := 2) 1 rfl rfl)
      have hBw : B ≤ W1.heap.size := Nat.le_trans HBW.out HX.out.size
      have CL := hasLeads_c n0 gb p.Leaders A2 n2 c2 W1 B ((HS0.out.at_ 0 rfl : Mm.Blk _ _ _ _).bel HX.out) (R2.out.keep (w' := W1) fun b hb => (HX.out.block b (Nat.lt_of_lt_of_le hb HBW.out)).trans (HB0.out.block b (Nat.lt_of_lt_of_le hb hB))) hBw h05 (fun x hx => by have := HP.out.lead x hx; rw [HNL.out] at this; exact this)
      go_wp2_with (go_at_call 85; (with_reducible refine CL.mono ?_); clear CL; rintro e w5 ⟨rfl, hb5⟩)
      go_ret
      have HF : Pl.pollOk p = true := by
        have h := HA.out
        rw [List.take_of_length_le (by rw [HLL.out]; omega)] at h
        rw [HOK2.out, h]
      exact ⟨ret_bool HF.symm, below_step HB0.out (below_step HX.out hb5)⟩
end Go.Proofs.Ytkhchfbpmmiopaa

/-
  Contracts: what a good election is, at drawn ones, good or not: the reference's test (chapter 8). No conditions beyond those named.
-/
namespace Go.Proofs.Ytkhchfbpmmiopaa
open Go.RowKit
attribute [local go_sem] und_cell cha_cell World.cell?_alloc_some
theorem l1In_isV {n a b : Int} {r : Bool} (h : Pl.isIn n a b = r) (w : World) : Calls Try.prog 67 #[.int .i64 n, .int .i64 a, .int .i64 b] w fun e w' => e = .returned (.bool r) ∧ w = w' := h ▸ l1In_c n a b w
theorem l8NodeB_c {k : Int} {r : Bool} (A0 : Option Addr) (n0 c0 : Nat) (v1 v2 : Value) (w : World) (h : Pl.isIn k 0 ((n0 : Int) - 1) = r) : Calls Try.prog 69 #[.agg #[.slice A0 n0 c0, v1, v2], .int .i64 k] w fun e w' => e = .returned (.bool r) ∧ Below w.heap.size w w' := by
  cases r with
  | true => exact l8NodeIn_c k A0 n0 c0 v1 v2 w (by have := Pl.isIn_iff.1 h; omega)
  | false => exact l8NodeOut_c k A0 n0 c0 v1 v2 w (fun hh => by rw [Pl.isIn_iff.2 (by omega)] at h; cases h)
set_option maxRecDepth 100000 in
set_option maxHeartbeats 4000000 in
theorem specGoodPoll_c (p : Poll) (cs : List Value) (w : World) (B : Nat) (hr : rPoll.at_ w B p cs) (hB : B ≤ w.heap.size) (hp : Pl.PS p) :
    Calls Try.prog 30 #[.agg cs.toArray] w fun e w' => e = .returned (.bool (Pl.pollOk p)) ∧ Below w.heap.size w w' := by
  obtain ⟨A0, n0, c0, A1, n1, c1, A2, n2, c2, rfl, r0, r1, r2⟩ := rPoll_at hr
  have h01 : 1 ≤ n0 := by have := hp.n1; rw [r0.1] at this; exact this
  have h05 : n0 ≤ 5 := by have := hp.n5; rw [r0.1] at this; exact this
  have h161 : n1 ≤ 61 := by have := hp.lets; rw [r1.1] at this; exact this
  have h2 : n2 ≤ 300 := by have := hp.leads; rw [r2.1] at this; exact this
  have HNL : Hid (p.Nodes.length = n0) := r0.1
  have HLL : Hid (p.Letters.length = n1) := r1.1
  have HOK : Hid (Pl.pollOk p = (decide (n1 ≤ 60) && (p.Nodes.all (Pl.nodeIn n0) && p.Letters.all (Pl.letIn n0)))) := Lib.hid (by unfold Pl.pollOk; rw [r0.1, r1.1])
  have R0 := Lib.hid r0
  have R1 := Lib.hid r1
  have R2 := Lib.hid r2
  have HP := Lib.hid hp
  have fw : IntKind.i64.wrap ((n0 : Int) - 1) = (n0 : Int) - 1 := IntWalk.i64_in _ (by omega)
  clear hr r0 r1 r2 hp
  go_enter Try.func30, Try.ntmps30
  go_upto_region 1 with fail
  obtain ⟨ga, hga⟩ : ∃ ga, w.heap.size = ga := ⟨_, rfl⟩
  obtain ⟨W0, hW0⟩ : ∃ W0, w.alloc (.cells #[.slice A0 n0 c0, .slice A1 n1 c1, .slice A2 n2 c2] 31) = W0 := ⟨_, rfl⟩
  have HS0 := Lib.hid (((Mm.SepF.start w).alloc' hga 31 [.slice A0 n0 c0, .slice A1 n1 c1, .slice A2 n2 c2]).atW hW0)
  rw [hW0, hga]
  clear hW0 hga
  have HB0 := Lib.hid HS0.out.bel0
  have HBW := Lib.hid (Nat.le_trans hB HB0.out.size)
  have b0 := HS0.out.cell (k := 0) 0 rfl rfl
  go_wp2_with fail
  clear b0
  go_loopg [12] n0 (fun gg i wr => ∃ k : Nat, n0 - k ≤ gg ∧ k ≤ n0 ∧ i = .int .i64 k ∧ Hid ((p.Nodes.take k).all (Pl.nodeIn n0) = true) ∧ Hid (Below W0.heap.size W0 wr))
  case atStart => exact ⟨0, Nat.le_refl _, Nat.zero_le _, rfl, rfl, Below.refl _ _⟩
  case round =>
    obtain ⟨k, hgk, hk, rfl, HA, HX⟩ := hrel
    obtain ⟨W1, rfl⟩ : ∃ W1 : World, W1 = wr := ⟨_, rfl⟩
    by_cases hlt : k < n0
    · have hBw : B ≤ W1.heap.size := Nat.le_trans HBW.out HX.out.size
      obtain ⟨x, b, off, P1, p1, t1, hx, rfl, hb, -, -, -, uf0, -, e0, e1, e2, e3, e4⟩ := rNode_get (R0.out.keep (w' := W1) fun b hb => (HX.out.block b (Nat.lt_of_lt_of_le hb HBW.out)).trans (HB0.out.block b (Nat.lt_of_lt_of_le hb hB))) hlt
      have hnok : Pl.NodeSemi n0 x := by have := HP.out.node k x hx; rw [HNL.out] at this; exact this
      have HSN : Hid ((p.Nodes.take (k + 1)).all (Pl.nodeIn n0) = Pl.nodeIn n0 x) := Lib.hid (by rw [Pl.allTake_snoc hx, HA.out, Bool.true_and])
      have HBD : Hid (Pl.nodeIn n0 x = false → Pl.pollOk p = false) := Lib.hid (fun h => by rw [HOK.out, Pl.allNo_of hx h]; simp)
      obtain ⟨a1, ha1⟩ : ∃ a, Pl.isIn x.Term 0 200 = a := ⟨_, rfl⟩
      obtain ⟨a2, ha2⟩ : ∃ a, Pl.isIn x.Voted (-1) ((n0 : Int) - 1) = a := ⟨_, rfl⟩
      have HNI : Hid (Pl.nodeIn n0 x = (a1 && a2)) := Lib.hid (by unfold Pl.nodeIn; rw [ha1, ha2])
      have K1 := Lib.hid ha1
      have K2 := Lib.hid ha2
      clear ha1 ha2
      have K3 : Hid (Pl.isIn x.Age 0 9 = true) := Lib.hid (Pl.isInY hnok.age)
      have K4 : Hid (Pl.risI (n0 : Int) x.Heard = true) := Lib.hid (Pl.risI_iff.2 ⟨hnok.heard, hnok.hin⟩)
      have K5 : Hid (Pl.isIn x.Role 0 2 = true) := Lib.hid (Pl.isInY hnok.role)
      have UF := Lib.hid uf0
      have HNO : Hid (x.Role = 0 → p1 = 0) := Lib.hid (fun h => by have h1 := hnok.none h; have h2 := uf0.1; rw [h1] at h2; exact h2.symm)
      have f1 : (k : Int) < (n0 : Nat) := by omega
      have f2 : (0 : Int) ≤ (k : Nat) := by omega
      have f3 : ((k : Nat) : Int).toNat = k := by omega
      clear hx uf0 hnok
      go_upto_region 4 with fail
      obtain ⟨gx, hgx⟩ : ∃ gx, W1.heap.size = gx := ⟨_, rfl⟩
      obtain ⟨W2, hW2⟩ : ∃ W2, W1.alloc (.cells #[.int .i64 x.Term, .int .i64 x.Voted, .int .i64 x.Age, .slice P1 p1 t1, .int .i64 x.Role] 42) = W2 := ⟨_, rfl⟩
      have HSR := Lib.hid (((Mm.SepF.start W1).alloc' hgx 42 [.int .i64 x.Term, .int .i64 x.Voted, .int .i64 x.Age, .slice P1 p1 t1, .int .i64 x.Role]).atW hW2)
      rw [hW2, hgx]
      clear hW2 hgx e0 e1 e2 e3 e4
      have HB2 := Lib.hid HSR.out.bel0
      have b0 := below_some HB2.out (below_some HX.out (HS0.out.cell (k := 0) 0 rfl rfl))
      have g0 := HSR.out.cell (k := 0) 0 rfl rfl
      have g1 := HSR.out.cell (k := 1) 0 rfl rfl
      have g2 := HSR.out.cell (k := 2) 0 rfl rfl
      have g3 := HSR.out.cell (k := 3) 0 rfl rfl
      have g4 := HSR.out.cell (k := 4) 0 rfl rfl
      have CN := l8Rising_c n0 x.Heard P1 p1 t1 W2 B (UF.out.keep (w' := W2) fun b hb => HB2.out.block b (Nat.lt_of_lt_of_le hb hBw)) (by omega)
      rw [K4.out] at CN
      cases a1 with
      | false =>
        have HF : Hid (Pl.pollOk p = false) := Lib.hid (HBD.out (by rw [HNI.out]; rfl))
        go_wp2_with (((go_at_call 67; (with_reducible refine (l1In_isV K1.out _).mono ?_); rintro e w' ⟨rfl, rfl⟩)))
        go_ret
        exact ⟨ret_bool HF.out.symm, below_step HB0.out (below_step HX.out HB2.out)⟩
      | true =>
      cases a2 with
      | false =>
        have HF : Hid (Pl.pollOk p = false) := Lib.hid (HBD.out (by rw [HNI.out]; rfl))
        go_wp2_with first | (((go_at_call 67; (with_reducible refine (l1In_isV K1.out _).mono ?_); rintro e w' ⟨rfl, rfl⟩))) | (((go_at_call 67; (with_reducible refine (l1In_isV K2.out _).mono ?_); rintro e w' ⟨rfl, rfl⟩)))
        go_ret
        exact ⟨ret_bool HF.out.symm, below_step HB0.out (below_step HX.out HB2.out)⟩
      | true =>
      have HA1 : Hid ((p.Nodes.take (k + 1)).all (Pl.nodeIn n0) = true) := Lib.hid (by rw [HSN.out, HNI.out]; rfl)
      by_cases hr0 : x.Role = 0
      · have hp1 := HNO.out hr0
        subst hp1
        have q1 : ¬ (0 : Int) < ((0 : Nat) : Int) := by omega
        have q2 : (x.Role == 0) = true := by simp [hr0]
        have K6 : Hid (Pl.isIn 0 0 2 = true) := Lib.hid (by decide)
        go_wp2_with first | (((go_at_call 67; (with_reducible refine (l1In_isV K1.out _).mono ?_); rintro e w' ⟨rfl, rfl⟩))) | (((go_at_call 67; (with_reducible refine (l1In_isV K2.out _).mono ?_); rintro e w' ⟨rfl, rfl⟩))) | (((go_at_call 67; (with_reducible refine (l1In_isV K3.out _).mono ?_); rintro e w' ⟨rfl, rfl⟩))) | (go_at_call 68; (with_reducible refine CN.mono ?_); clear CN g0 g1 g2 g3 b0; rintro e w5 ⟨rfl, hb5⟩; (have g4' := below_some hb5 g4); (have g3' := below_some hb5 (HSR.out.cell (k := 3) 0 rfl rfl))) | (((go_at_call 67; (with_reducible refine (l1In_isV K5.out _).mono ?_); rintro e w' ⟨rfl, rfl⟩))) | (((go_at_call 67; (with_reducible refine (l1In_isV K6.out _).mono ?_); rintro e w' ⟨rfl, rfl⟩)))
        go_roundg (n0 - (k + 1))
        case measure => omega
        case rel => exact ⟨k + 1, Nat.le_refl _, by omega, by go_num, HA1.out, below_step HX.out (below_step HB2.out hb5)⟩
      · have q2 : (x.Role == 0) = false := by simp [hr0]
        go_wp2_with first | (((go_at_call 67; (with_reducible refine (l1In_isV K1.out _).mono ?_); rintro e w' ⟨rfl, rfl⟩))) | (((go_at_call 67; (with_reducible refine (l1In_isV K2.out _).mono ?_); rintro e w' ⟨rfl, rfl⟩))) | (((go_at_call 67; (with_reducible refine (l1In_isV K3.out _).mono ?_); rintro e w' ⟨rfl, rfl⟩))) | (go_at_call 68; (with_reducible refine CN.mono ?_); clear CN g0 g1 g2 g3 b0; rintro e w5 ⟨rfl, hb5⟩; (have g4' := below_some hb5 g4); (have g3' := below_some hb5 (HSR.out.cell (k := 3) 0 rfl rfl))) | (((go_at_call 67; (with_reducible refine (l1In_isV K5.out _).mono ?_); rintro e w' ⟨rfl, rfl⟩)))
        go_roundg (n0 - (k + 1))
        case measure => omega
        case rel => exact ⟨k + 1, Nat.le_refl _, by omega, by go_num, HA1.out, below_step HX.out (below_step HB2.out hb5)⟩
    have f1 : ¬ (k : Int) < (n0 : Nat) := by omega
    have HOK2 : Hid (Pl.pollOk p = (decide (n1 ≤ 60) && p.Letters.all (Pl.letIn n0))) := Lib.hid (by
      have h := HA.out
      rw [List.take_of_length_le (by rw [HNL.out]; omega)] at h
      rw [HOK.out, h, Bool.true_and])
    clear HA HOK
    have b1 := below_some HX.out (HS0.out.cell (k := 1) 0 rfl rfl)
    go_wp2_with fail
    clear b1
    have HXX := Lib.hid HX.out
    clear HX
    go_loopg [66] n1 (fun gg i wr => ∃ k : Nat, n1 - k ≤ gg ∧ k ≤ n1 ∧ i = .int .i64 k ∧ Hid ((p.Letters.take k).all (Pl.letIn n0) = true) ∧ Hid (Below W0.heap.size W0 wr))
    case atStart => exact ⟨0, Nat.le_refl _, Nat.zero_le _, rfl, rfl, HXX.out⟩
    case round =>
      clear HXX f1 hlt hk hgk
      obtain ⟨k, hgk, hk, rfl, HA, HX⟩ := hrel
      obtain ⟨W1, rfl⟩ : ∃ W1 : World, W1 = wr := ⟨_, rfl⟩
      by_cases hlt : k < n1
      · obtain ⟨x, b, off, hx, rfl, hb, -, -, -, -, e0, e1, e2, e3, e4⟩ := rLetter_get (R1.out.keep (w' := W1) fun b hb => (HX.out.block b (Nat.lt_of_lt_of_le hb HBW.out)).trans (HB0.out.block b (Nat.lt_of_lt_of_le hb hB))) hlt
        have hlok := HP.out.letr x (List.mem_of_getElem? hx)
        have HSN : Hid ((p.Letters.take (k + 1)).all (Pl.letIn n0) = Pl.letIn n0 x) := Lib.hid (by rw [Pl.allTake_snoc hx, HA.out, Bool.true_and])
        have HBD : Hid (Pl.letIn n0 x = false → Pl.pollOk p = false) := Lib.hid (fun h => by rw [HOK2.out, Pl.allNo_of hx h]; simp)
        obtain ⟨a1, ha1⟩ : ∃ a, Pl.isIn x.From 0 ((n0 : Int) - 1) = a := ⟨_, rfl⟩
        obtain ⟨a2, ha2⟩ : ∃ a, Pl.isIn x.To 0 ((n0 : Int) - 1) = a := ⟨_, rfl⟩
        obtain ⟨a3, ha3⟩ : ∃ a, Pl.isIn x.Term 1 200 = a := ⟨_, rfl⟩
        have HNI : Hid (Pl.letIn n0 x = (a1 && (a2 && a3))) := Lib.hid (by unfold Pl.letIn; rw [ha1, ha2, ha3])
        have K1 := Lib.hid ha1
        have K2 := Lib.hid ha2
        have K3 := Lib.hid ha3
        clear ha1 ha2 ha3
        have K4 : Hid (Pl.isIn x.Age 0 9 = true) := Lib.hid (Pl.isInY hlok.1)
        have HNO : Hid (x.Ask = false → x.Age = 0) := Lib.hid hlok.2
        have f1 : (k : Int) < (n1 : Nat) := by omega
        have f2 : (0 : Int) ≤ (k : Nat) := by omega
        have f3 : ((k : Nat) : Int).toNat = k := by omega
        clear hx hlok
        obtain ⟨ak, hak⟩ : ∃ ak, x.Ask = ak := ⟨_, rfl⟩
        rw [hak] at HNO e3
        clear hak
        go_upto_region 10 with fail
        obtain ⟨gx, hgx⟩ : ∃ gx, W1.heap.size = gx := ⟨_, rfl⟩
        obtain ⟨W2, hW2⟩ : ∃ W2, W1.alloc (.cells #[.int .i64 x.From, .int .i64 x.To, .int .i64 x.Term, .bool ak, .int .i64 x.Age] 84) = W2 := ⟨_, rfl⟩
        have HSR := Lib.hid (((Mm.SepF.start W1).alloc' hgx 84 [.int .i64 x.From, .int .i64 x.To, .int .i64 x.Term, .bool ak, .int .i64 x.Age]).atW hW2)
        rw [hW2, hgx]
        clear hW2 hgx e0 e1 e2 e3 e4
        have HB2 := Lib.hid HSR.out.bel0
        have b0 := below_some HB2.out (below_some HX.out (HS0.out.cell (k := 0) 0 rfl rfl))
        have b1 := below_some HB2.out (below_some HX.out (HS0.out.cell (k := 1) 0 rfl rfl))
        have b2 := below_some HB2.out (below_some HX.out (HS0.out.cell (k := 2) 0 rfl rfl))
        have g0 := HSR.out.cell (k := 0) 0 rfl rfl
        have g1 := HSR.out.cell (k := 1) 0 rfl rfl
        have g2 := HSR.out.cell (k := 2) 0 rfl rfl
        have g3 := HSR.out.cell (k := 3) 0 rfl rfl
        have g4 := HSR.out.cell (k := 4) 0 rfl rfl
        have C1 := l8NodeB_c A0 n0 c0 (.slice (some ⟨b, off, none⟩) n1 c1) (.slice A2 n2 c2) W2 K1.out
        cases a1 with
        | false =>
          have HF : Hid (Pl.pollOk p = false) := Lib.hid (HBD.out (by rw [HNI.out]; rfl))
          go_wp2_with (((go_at_call 69; (with_reducible refine C1.mono ?_); clear C1 b0 b1 b2 g0 g1 g2 g3 g4; rintro e w3 ⟨rfl, hb3⟩; have b0 := below_some hb3 (below_some HB2.out (below_some HX.out (HS0.out.cell (k := 0) 0 rfl rfl))); have b1 := below_some hb3 (below_some HB2.out (below_some HX.out (HS0.out.cell (k := 1) 0 rfl rfl))); have b2 := below_some hb3 (below_some HB2.out (below_some HX.out (HS0.out.cell (k := 2) 0 rfl rfl))); have g1 := below_some hb3 (HSR.out.cell (k := 1) 0 rfl rfl); have C2 := l8NodeB_c A0 n0 c0 (.slice (some ⟨b, off, none⟩) n1 c1) (.slice A2 n2 c2) w3 K2.out)))
          go_ret
          exact ⟨ret_bool HF.out.symm, below_step HB0.out (below_step HX.out (below_step HB2.out hb3))⟩
        | true =>
        cases a2 with
        | false =>
          have HF : Hid (Pl.pollOk p = false) := Lib.hid (HBD.out (by rw [HNI.out]; rfl))
          go_wp2_with first | (((go_at_call 69; (with_reducible refine C1.mono ?_); clear C1 b0 b1 b2 g0 g1 g2 g3 g4; rintro e w3 ⟨rfl, hb3⟩; have b0 := below_some hb3 (below_some HB2.out (below_some HX.out (HS0.out.cell (k := 0) 0 rfl rfl))); have b1 := below_some hb3 (below_some HB2.out (below_some HX.out (HS0.out.cell (k := 1) 0 rfl rfl))); have b2 := below_some hb3 (below_some HB2.out (below_some HX.out (HS0.out.cell (k := 2) 0 rfl rfl))); have g1 := below_some hb3 (HSR.out.cell (k := 1) 0 rfl rfl); have C2 := l8NodeB_c A0 n0 c0 (.slice (some ⟨b, off, none⟩) n1 c1) (.slice A2 n2 c2) w3 K2.out))) | (((go_at_call 69; (with_reducible refine C2.mono ?_); clear C2 b0 b1 b2 g1; rintro e w4 ⟨rfl, hb4⟩; have HB4 := Lib.hid (below_step hb3 hb4); have g2 := below_some HB4.out (HSR.out.cell (k := 2) 0 rfl rfl); have g3 := below_some HB4.out (HSR.out.cell (k := 3) 0 rfl rfl); have g4 := below_some HB4.out (HSR.out.cell (k := 4) 0 rfl rfl))))
          go_ret
          exact ⟨ret_bool HF.out.symm, below_step HB0.out (below_step HX.out (below_step HB2.out HB4.out))⟩
        | true =>
        cases a3 with
        | false =>
          have HF : Hid (Pl.pollOk p = false) := Lib.hid (HBD.out (by rw [HNI.out]; rfl))
          go_wp2_with first | (((go_at_call 69; (with_reducible refine C1.mono ?_); clear C1 b0 b1 b2 g0 g1 g2 g3 g4; rintro e w3 ⟨rfl, hb3⟩; have b0 := below_some hb3 (below_some HB2.out (below_some HX.out (HS0.out.cell (k := 0) 0 rfl rfl))); have b1 := below_some hb3 (below_some HB2.out (below_some HX.out (HS0.out.cell (k := 1) 0 rfl rfl))); have b2 := below_some hb3 (below_some HB2.out (below_some HX.out (HS0.out.cell (k := 2) 0 rfl rfl))); have g1 := below_some hb3 (HSR.out.cell (k := 1) 0 rfl rfl); have C2 := l8NodeB_c A0 n0 c0 (.slice (some ⟨b, off, none⟩) n1 c1) (.slice A2 n2 c2) w3 K2.out))) | (((go_at_call 69; (with_reducible refine C2.mono ?_); clear C2 b0 b1 b2 g1; rintro e w4 ⟨rfl, hb4⟩; have HB4 := Lib.hid (below_step hb3 hb4); have g2 := below_some HB4.out (HSR.out.cell (k := 2) 0 rfl rfl); have g3 := below_some HB4.out (HSR.out.cell (k := 3) 0 rfl rfl); have g4 := below_some HB4.out (HSR.out.cell (k := 4) 0 rfl rfl)))) | (((go_at_call 67; (with_reducible refine (l1In_isV K3.out _).mono ?_); rintro e w' ⟨rfl, rfl⟩)))
          go_ret
          exact ⟨ret_bool HF.out.symm, below_step HB0.out (below_step HX.out (below_step HB2.out HB4.out))⟩
        | true =>
        have HA1 : Hid ((p.Letters.take (k + 1)).all (Pl.letIn n0) = true) := Lib.hid (by rw [HSN.out, HNI.out]; rfl)
        cases ak with
        | true =>
          go_wp2_with first | (((go_at_call 69; (with_reducible refine C1.mono ?_); clear C1 b0 b1 b2 g0 g1 g2 g3 g4; rintro e w3 ⟨rfl, hb3⟩; have b0 := below_some hb3 (below_some HB2.out (below_some HX.out (HS0.out.cell (k := 0) 0 rfl rfl))); have b1 := below_some hb3 (below_some HB2.out (below_some HX.out (HS0.out.cell (k := 1) 0 rfl rfl))); have b2 := below_some hb3 (below_some HB2.out (below_some HX.out (HS0.out.cell (k := 2) 0 rfl rfl))); have g1 := below_some hb3 (HSR.out.cell (k := 1) 0 rfl rfl); have C2 := l8NodeB_c A0 n0 c0 (.slice (some ⟨b, off, none⟩) n1 c1) (.slice A2 n2 c2) w3 K2.out))) | (((go_at_call 69; (with_reducible refine C2.mono ?_); clear C2 b0 b1 b2 g1; rintro e w4 ⟨rfl, hb4⟩; have HB4 := Lib.hid (below_step hb3 hb4); have g2 := below_some HB4.out (HSR.out.cell (k := 2) 0 rfl rfl); have g3 := below_some HB4.out (HSR.out.cell (k := 3) 0 rfl rfl); have g4 := below_some HB4.out (HSR.out.cell (k := 4) 0 rfl rfl)))) | (((go_at_call 67; (with_reducible refine (l1In_isV K3.out _).mono ?_); rintro e w' ⟨rfl, rfl⟩))) | (((go_at_call 67; (with_reducible refine (l1In_isV K4.out _).mono ?_); rintro e w' ⟨rfl, rfl⟩)))
          go_roundg (n1 - (k + 1))
          case measure => omega
          case rel => exact ⟨k + 1, Nat.le_refl _, by omega, by go_num, HA1.out, below_step HX.out (below_step HB2.out HB4.out)⟩
        | false =>
          have hz := HNO.out rfl
          have q2 : (x.Age != 0) = false := by simp [hz]
          have K6 : Hid (Pl.isIn 0 0 9 = true) := Lib.hid (by decide)
          go_wp2_with first | (((go_at_call 69; (with_reducible refine C1.mono ?_); clear C1 b0 b1 b2 g0 g1 g2 g3 g4; rintro e w3 ⟨rfl, hb3⟩; have b0 := below_some hb3 (below_some HB2.out (below_some HX.out (HS0.out.cell (k := 0) 0 rfl rfl))); have b1 := below_some hb3 (below_some HB2.out (below_some HX.out (HS0.out.cell (k := 1) 0 rfl rfl))); have b2 := below_some hb3 (below_some HB2.out (below_some HX.out (HS0.out.cell (k := 2) 0 rfl rfl))); have g1 := below_some hb3 (HSR.out.cell (k := 1) 0 rfl rfl); have C2 := l8NodeB_c A0 n0 c0 (.slice (some ⟨b, off, none⟩) n1 c1) (.slice A2 n2 c2) w3 K2.out))) | (((go_at_call 69; (with_reducible refine C2.mono ?_); clear C2 b0 b1 b2 g1; rintro e w4 ⟨rfl, hb4⟩; have HB4 := Lib.hid (below_step hb3 hb4); have g2 := below_some HB4.out (HSR.out.cell (k := 2) 0 rfl rfl); have g3 := below_some HB4.out (HSR.out.cell (k := 3) 0 rfl rfl); have g4 := below_some HB4.out (HSR.out.cell (k := 4) 0 rfl rfl)))) | (((go_at_call 67; (with_reducible refine (l1In_isV K3.out _).mono ?_); rintro e w' ⟨rfl, rfl⟩))) | (((go_at_call 67; (with_reducible refine (l1In_isV K4.out _).mono ?_); rintro e w' ⟨rfl, rfl⟩))) | (((go_at_call 67; (with_reducible refine (l1In_isV K6.out _).mono ?_); rintro e w' ⟨rfl, rfl⟩)))
          go_roundg (n1 - (k + 1))
          case measure => omega
          case rel => exact ⟨k + 1, Nat.le_refl _, by omega, by go_num, HA1.out, below_step HX.out (below_step HB2.out HB4.out)⟩
      have f1 : ¬ (k : Int) < (n1 : Nat) := by omega
      have HOK3 : Hid (Pl.pollOk p = decide (n1 ≤ 60)) := Lib.hid (by
        have h := HA.out
        rw [List.take_of_length_le (by rw [HLL.out]; omega)] at h
        rw [HOK2.out, h, Bool.and_true])
      clear HA HOK2
      have b2 := below_some HX.out (HS0.out.cell (k := 2) 0 rfl rfl)
      go_wp2_with fail
      clear b2
      have HXX := Lib.hid HX.out
      clear HX
      go_loopg [108] n2 (fun gg i wr => ∃ k : Nat, n2 - k ≤ gg ∧ k ≤ n2 ∧ i = .int .i64 k ∧ Hid (Below W0.heap.size W0 wr))
      case atStart => exact ⟨0, Nat.le_refl _, Nat.zero_le _, rfl, HXX.out⟩
      case round =>
        clear HXX f1 hlt hk hgk
        obtain ⟨k, hgk, hk, rfl, HX⟩ := hrel
        obtain ⟨W1, rfl⟩ : ∃ W1 : World, W1 = wr := ⟨_, rfl⟩
        by_cases hlt : k < n2
        · obtain ⟨x, b, off, AX, nX, cX, hx, rfl, hb, hrx, e0⟩ := ints_get (R2.out.keep (w' := W1) fun b hb => (HX.out.block b (Nat.lt_of_lt_of_le hb HBW.out)).trans (HB0.out.block b (Nat.lt_of_lt_of_le hb hB))) hlt
          have hld := HP.out.lead x (List.mem_of_getElem? hx)
          rw [HNL.out] at hld
          obtain ⟨t, v, rfl, t0, t1, v0, v1⟩ := hld
          obtain rfl : nX = 2 := hrx.1.symm
          obtain ⟨x', b', off', hx', rfl, hb', i0', y0⟩ := int_get hrx (show 0 < 2 by omega)
          obtain ⟨y', hy', _, j0', y1⟩ := int_get' hrx (show 1 < 2 by omega)
          obtain rfl : t = x' := by injection hx'
          obtain rfl : v = y' := by injection hy'
          rw [Nat.add_zero] at y0
          have C1 := fun z : Und W1 => und_same z (l1In_isV (Pl.isInY ⟨t0, t1⟩) (und W1 z))
          have C2 := fun z : Und W1 => und_call z (l8NodeB_c A0 n0 c0 (.slice A1 n1 c1) (.slice (some ⟨b, off, none⟩) n2 c2) (und W1 z) (Pl.isInY (show 0 ≤ v ∧ v ≤ (n0 : Int) - 1 by omega)))
          have f1 : (k : Int) < (n2 : Nat) := by omega
          have f2 : (0 : Int) ≤ (k : Nat) := by omega
          have f3 : ((k : Nat) : Int).toNat = k := by omega
          have b0 := below_some HX.out (HS0.out.cell (k := 0) 0 rfl rfl)
          have b1 := below_some HX.out (HS0.out.cell (k := 1) 0 rfl rfl)
          have b2 := below_some HX.out (HS0.out.cell (k := 2) 0 rfl rfl)
          clear hx hrx hx' hy' i0' j0' t0 t1 v0 v1
          go_wp2
          refine wp_region_und (by kernel_rfl) (by kernel_rfl) ?_
          repeat (go_big_quiet_step ((first | first | (go_at_call 67; with_reducible exact C1 _) | (go_at_call 69; with_reducible exact C2 _))))
          refine wpQuiet_nil ?_
          intro X hX
          clear C1 C2 b0 b1 b2 y0 y1
          go_wp2
          go_roundg (n2 - (k + 1))
          case measure => omega
          case rel => exact ⟨k + 1, Nat.le_refl _, by omega, by go_num, below_step HX.out hX⟩
        · have f1 : ¬ (k : Int) < (n2 : Nat) := by omega
          have K1 : Hid (Pl.isIn (n0 : Int) 1 5 = true) := Lib.hid (Pl.isInY (by omega))
          have f4 : (n2 : Int) ≤ 300 := by omega
          have f5 : decide ((n2 : Int) ≤ 300) = true := by simp; omega
          have b0 := below_some HX.out (HS0.out.cell (k := 0) 0 rfl rfl)
          have b1 := below_some HX.out (HS0.out.cell (k := 1) 0 rfl rfl)
          have b2 := below_some HX.out (HS0.out.cell (k := 2) 0 rfl rfl)
          by_cases h1 : n1 ≤ 60
          · have f6 : (n1 : Int) ≤ 60 := by omega
            have f7 : decide ((n1 : Int) ≤ 60) = true := by simp; omega
            have HF : Hid (Pl.pollOk p = true) := Lib.hid (by rw [HOK3.out]; exact decide_eq_true h1)
            clear h1
            go_wp2_with (((go_at_call 67; (with_reducible refine (l1In_isV K1.out _).mono ?_); rintro e w' ⟨rfl, rfl⟩)))
            go_ret
            exact ⟨ret_bool HF.out.symm, below_step HB0.out HX.out⟩
          · have f6 : ¬ (n1 : Int) ≤ 60 := by omega
            have f7 : decide ((n1 : Int) ≤ 60) = false := by simp; omega
            have HF : Hid (Pl.pollOk p = false) := Lib.hid (by rw [HOK3.out]; exact decide_eq_false h1)
            clear h1
            go_wp2_with (((go_at_call 67; (with_reducible refine (l1In_isV K1.out _).mono ?_); rintro e w' ⟨rfl, rfl⟩)))
            go_ret
            exact ⟨ret_bool HF.out.symm, below_step HB0.out HX.out⟩
end Go.Proofs.Ytkhchfbpmmiopaa

/-
  Contracts: the reference's copy of an election (chapter 8). No conditions beyond those named.
-/
namespace Go.Proofs.Ytkhchfbpmmiopaa
open Go.RowKit
attribute [local go_sem] und_cell cha_cell World.cell?_alloc_some
set_option maxRecDepth 100000 in
set_option maxHeartbeats 4000000 in
theorem l8Own_c (p : Poll) (cs : List Value) (w : World) (B : Nat) (hh : rPoll.at_ w B p cs) (hB : B ≤ w.heap.size) (hw : Pl.PW p) :
    Calls Try.prog 50 #[.agg cs.toArray] w (Mm.NewAg rPoll w p) := by
  obtain ⟨A0, n0, c0, A1, n1, c1, A2, n2, c2, rfl, r0, r1, r2⟩ := rPoll_at hh
  have g0 := r0.1
  have g1 := r1.1
  have g2 := r2.1
  have hn05 : n0 ≤ 5 := by have := hw.n5; omega
  have hn160 : n1 ≤ 60 := by have := hw.lets; omega
  have hn2300 : n2 ≤ 300 := by have := hw.leads; omega
  have HW := Lib.hid hw
  have G0 := Lib.hid g0
  have G1 := Lib.hid g1
  have G2 := Lib.hid g2
  have R0 := Lib.hid r0
  have R1 := Lib.hid r1
  have R2 := Lib.hid r2
  have HBW := Lib.hid hB
  obtain ⟨iN, qN, qN0, qN1, qN2⟩ := info_parts Try.infoNode
  obtain ⟨iI, qI, qI0, qI1, qI2⟩ := info_parts Try.infoIntP
  obtain ⟨iT, qT, qT0, qT1, qT2⟩ := info_parts Try.infoLetter
  obtain ⟨iL, qL, qL0, qL1, qL2⟩ := info_parts Try.infoIntsP
  clear hh r0 r1 r2 hw g0 g1 g2
  obtain ⟨ga, hga⟩ : ∃ g, w.heap.size = g := ⟨_, rfl⟩
  obtain ⟨gc, hgc⟩ : ∃ g, ga + 1 = g := ⟨_, rfl⟩
  obtain ⟨W0, hW0⟩ : ∃ W, (w.alloc (.cells #[.slice A0 n0 c0, .slice A1 n1 c1, .slice A2 n2 c2] 31)).alloc (.cells #[.slice none 0 0, .slice none 0 0, .slice none 0 0] 31) = W := ⟨_, rfl⟩
  have HS := Lib.hid ((((Mm.SepF.start w).alloc' hga 31 [.slice A0 n0 c0, .slice A1 n1 c1, .slice A2 n2 c2]).alloc' (g := gc) (by rw [Mm.sz1, hga, hgc]) 31 zPoll).atW hW0)
  go_enter Try.func50, Try.ntmps50
  go_upto_region 1 with fail
  clear hW0 hga hgc
  have b0 := HS.out.cell (k := 0) 1 rfl rfl
  have b1 := HS.out.cell (k := 1) 1 rfl rfl
  have b2 := HS.out.cell (k := 2) 1 rfl rfl
  have HS3 := Lib.hid (HS.out.fresh (g := W0.heap.size) rfl rLetter 84)
  have hbw0 := HS.out.bel0
  have hsz0 := HS3.out.bel0.size
  go_upto_region 2 with (at_builtin; refine Mm.wpList_appMany rfl (.tmp 8) (.tmp 10) 28 rfl Mm.flatA_letter Mm.flat_letter iT _ 40 Try.underlying28 qT qT0 qT1 qT2 rfl HS3.out 0 rfl (R1.out.keep (fun b hb => HS3.out.bel0.block b (by omega))) (m := n1) (by simp) (by unfold maxLen; omega) (by omega) rfl rfl ?_; intro A5 c5 f5 w5 hs5; (have HS5 := Lib.hid hs5); clear hs5)
  clear HS3 b0 b1 b2 HS hbw0 hsz0
  obtain ⟨gp, hgp⟩ : ∃ g, w5.heap.size = g := ⟨_, rfl⟩
  obtain ⟨W6, hW6⟩ : ∃ W, w5.alloc (.cells #[.slice none 0 0, .slice A5 n1 c5, .slice none 0 0] 31) = W := ⟨_, rfl⟩
  have HS6 := Lib.hid ((HS5.out.alloc' hgp 31 [.slice none 0 0, .slice A5 n1 c5, .slice none 0 0]).atW hW6)
  rw [hW6, hgp]
  clear hW6 hgp HS5
  rw [List.nil_append] at HS6
  have KS := Lib.hid (HS6.out.add (Below.refl _ _) (t := Mm.tsl rNode 42 [] (.slice none 0 0) []) Mm.SlOwn.nil List.nodup_nil (fun b hb => by cases hb))
  have b0 := HS6.out.cell (k := 0) 3 rfl rfl
  have b1 := HS6.out.cell (k := 1) 3 rfl rfl
  have b2 := HS6.out.cell (k := 2) 3 rfl rfl
  go_upto_region 3 with fail
  clear b0 b1 b2 HS6
  go_loopg [16] n0 (fun gg i wr => ∃ (k : Nat) (A' : Option Addr) (c' : Nat) (fp : List Nat), n0 - k ≤ gg ∧ k ≤ n0 ∧ i = .int .i64 k ∧ Hid (Mm.SepF [] w wr [Mm.tsl rNode 42 (p.Nodes.take k) (.slice A' k c') fp, Mm.tblk gp 31 [.slice A' k c', .slice A5 n1 c5, .slice none 0 0], Mm.tsl rLetter 84 p.Letters (.slice A5 n1 c5) f5, Mm.tblk gc 31 zPoll, Mm.tblk ga 31 [.slice A0 n0 c0, .slice A1 n1 c1, .slice A2 n2 c2]]))
  case atStart => exact ⟨0, none, 0, [], Nat.le_refl _, Nat.zero_le _, rfl, KS.out⟩
  case round =>
    clear KS
    obtain ⟨k, A', c', fp, hgk, hk', rfl, HS⟩ := hrel
    obtain ⟨W, rfl⟩ : ∃ W : World, W = wr := ⟨_, rfl⟩
    by_cases hlt : k < n0
    · have fc : (k : Int) < (n0 : Nat) := by omega
      obtain ⟨x, b, off, AH, mH, dH, hx, rfl, hb, i0', i1', i2', hrd, i4', e0, e1, e2, e3, e4⟩ := rNode_get (R0.out.keep (w' := W) fun b hb => HS.out.bel0.block b (by have := HBW.out; omega)) hlt
      have HIX := Lib.hid (And.intro i0' (And.intro i1' (And.intro i2' i4')))
      have HRD := Lib.hid hrd
      have HNX := Lib.hid (Mm.take_succ_some hx)
      have hmH : mH ≤ 5 := by
        have hno := HW.out.node k x hx
        have h5 := Pl.rising_bound x.Heard 0 n0 hno.heard (fun i hi => by have := hno.hin i hi; have := G0.out; omega)
        rw [hrd.1, if_pos (by omega)] at h5
        omega
      have hlk : (p.Nodes.take k).length = k := by rw [List.length_take]; have := G0.out; omega
      have HLK := Lib.hid hlk
      have hBW : B ≤ W.heap.size := by have := HBW.out; have := HS.out.bel0.size; omega
      clear hx i0' i1' i2' i4' hrd hlk
      go_upto_region 5 with fail
      obtain ⟨gn, hgn⟩ : ∃ g, W.heap.size = g := ⟨_, rfl⟩
      obtain ⟨W1, hW1⟩ : ∃ V, W.alloc (.cells #[.int .i64 x.Term, .int .i64 x.Voted, .int .i64 x.Age, .slice AH mH dH, .int .i64 x.Role] 42) = V := ⟨_, rfl⟩
      have HS1 := Lib.hid ((HS.out.alloc' hgn 42 [.int .i64 x.Term, .int .i64 x.Voted, .int .i64 x.Age, .slice AH mH dH, .int .i64 x.Role]).atW hW1)
      have hb1 : Below W.heap.size W W1 := by rw [← hW1]; exact below_new (Below.refl _ _) _
      rw [hW1, hgn]
      have HB1 := Lib.hid hb1
      have HGN := Lib.hid hgn
      clear hW1 e0 e1 e2 e3 e4 hb1 HS hgn
      have HS2 := Lib.hid (HS1.out.fresh (g := W1.heap.size) rfl Mm.int 3)
      have hb2 : Below W.heap.size W (W1.alloc (.cells #[] 3)) := below_step HB1.out (below_new (Below.refl _ _) _)
      have HB2 := Lib.hid hb2
      clear hb2
      have q3 := HS1.out.cell (k := 3) 0 rfl rfl
      go_upto_region 6 with (at_builtin; refine Mm.wpList_appMany rfl (.tmp 20) (.tmp 22) 23 rfl Mm.flat_int Mm.flatN_int' iI _ 8 Try.underlying23 qI qI0 qI1 qI2 rfl HS2.out 0 rfl (HRD.out.keep (fun b hb => HB2.out.block b (by omega))) (m := mH) (by simp) (by unfold maxLen; omega) (by omega) rfl rfl ?_; intro A6 c6 f6 w6 hs6; rw [List.nil_append] at hs6; (have HS3 := Lib.hid hs6); clear hs6; clear q3; (have q3 := HS3.out.cell (k := 3) 1 rfl rfl); (have y3 := HS3.out.frz (k := 3) 1 rfl))
      clear q3 y3 HS2 HB2 HB1 HS1 HRD
      obtain ⟨W7, hW7⟩ : ∃ V, w6.setCell ⟨gn, 3, none⟩ (.slice A6 mH c6) = V := ⟨_, rfl⟩
      have HS4 := Lib.hid ((HS3.out.setBlk (k := 3) 1 rfl (.slice A6 mH c6)).atW hW7)
      rw [hW7]
      clear hW7 HS3
      have q0 := HS4.out.cell (k := 0) 1 rfl rfl
      have q1 := HS4.out.cell (k := 1) 1 rfl rfl
      have q2 := HS4.out.cell (k := 2) 1 rfl rfl
      have q3 := HS4.out.cell (k := 3) 1 rfl rfl
      have q4 := HS4.out.cell (k := 4) 1 rfl rfl
      have b0 := HS4.out.cell (k := 0) 3 rfl rfl
      go_wp2_with (at_builtin; refine Mm.app_thing (x := x) (cx := [.int .i64 x.Term, .int .i64 x.Voted, .int .i64 x.Age, .slice A6 mH c6, .int .i64 x.Role]) HS4.out 2 0 (by decide) rfl rfl rfl (.tmp 26) (.tmp 28) 27 rfl iN _ 56 Try.underlying27 qN qN0 qN1 qN2 rfl (by decide) rfl rfl (fun W hh => rNode_own_mk HIX.out.1 HIX.out.2.1 HIX.out.2.2.1 hh HIX.out.2.2.2) HLK.out (by unfold maxLen; omega) (by omega) ?_; intro gg cap w' fp' hs; (have HS8 := Lib.hid hs); clear hs; clear q0 q1 q2 q3 q4 b0; (have b0 := HS8.out.cell (k := 0) 3 rfl rfl); (have y0 := HS8.out.frz (k := 0) 3 rfl))
      go_roundg (n0 - (k + 1))
      case measure => omega
      case rel => exact ⟨k + 1, _, cap, fp', Nat.le_refl _, by omega, by go_num, by rw [HNX.out]; exact (HS8.out.setBlk (k := 0) 3 rfl _).sel [2, 3, 4, 5, 6] (by decide) rfl⟩
    · obtain rfl : k = n0 := by omega
      have HE : Hid (p.Nodes.take k = p.Nodes) := Lib.hid (List.take_of_length_le (by have := G0.out; omega))
      rw [HE.out] at HS
      have fc : ¬ ((k : Nat) : Int) < (k : Nat) := by omega
      obtain ⟨AN, rfl⟩ : ∃ q, q = A' := ⟨_, rfl⟩
      obtain ⟨cN, rfl⟩ : ∃ q, q = c' := ⟨_, rfl⟩
      have b0 := HS.out.cell (k := 0) 4 rfl rfl
      have b1 := HS.out.cell (k := 1) 4 rfl rfl
      have b2 := HS.out.cell (k := 2) 4 rfl rfl
      have KS2 := Lib.hid ((HS.out.sel [1, 0, 2, 3, 4] (by decide) rfl).add (Below.refl _ _) (t := Mm.tsl ints 23 [] (.slice none 0 0) []) Mm.SlOwn.nil List.nodup_nil (fun b hb => by cases hb)).toSep
      go_wp2
      clear b0 b1 b2 HS
      go_loopg [35] n2 (fun gg i wr => ∃ (j : Nat) (A' : Option Addr) (c' : Nat) (fq : List Nat), n2 - j ≤ gg ∧ j ≤ n2 ∧ i = .int .i64 j ∧ Hid (Mm.Sep w wr [Mm.tsl ints 23 (p.Leaders.take j) (.slice A' j c') fq, Mm.tblk gp 31 [.slice AN k cN, .slice A5 n1 c5, .slice A' j c'], Mm.tsl rNode 42 p.Nodes (.slice AN k cN) fp, Mm.tsl rLetter 84 p.Letters (.slice A5 n1 c5) f5, Mm.tblk gc 31 zPoll]))
      case atStart => exact ⟨0, none, 0, [], Nat.le_refl _, Nat.zero_le _, rfl, (KS2.out.toF.sel [0, 1, 2, 3, 4] (by decide) rfl).toSep⟩
      case round =>
        clear KS2
        obtain ⟨j, A', c', fq, hgj, hj, rfl, HS⟩ := hrel
        have hbel := HS.out.bel
        have hsw := hbel.size
        have hBw : B ≤ w.heap.size := HBW.out
        by_cases hlt : j < n2
        · obtain ⟨x, b0, off, A1', n1', c1', hx, rfl, hb, hr, e0⟩ := ints_get R2.out hlt
          have hxl := HW.out.lead x (List.mem_of_getElem? hx)
          have hn2' : n1' = 2 := by obtain ⟨t, q, rfl, _⟩ := hxl; exact hr.1.symm
          have y0 := HS.out.cell (k := 2) 1 rfl rfl
          have z0 := HS.out.frz (k := 2) 1 rfl
          have e0' := below_some hbel e0
          have HRW := Lib.hid (show Mm.SlAt Mm.int (wr.alloc (.cells #[] 3)).drew B x A1' n1' c1' from hr.keep fun b' hb' => (Below.heap_alloc wr _ b' (by omega)).trans (hbel.block b' (by omega)))
          have HN := Lib.hid (Mm.take_succ_some hx)
          have htl := List.length_take_of_le (l := p.Leaders) (i := j) (by rw [G2.out]; omega)
          have HTL := Lib.hid htl
          have fd : (j : Int) < (n2 : Nat) := by omega
          have HN2 := Lib.hid hn2'
          clear hx hr e0 htl hxl hn2'
          have hn1'5 : n1' ≤ 5 := by have := HN2.out; omega
          go_wp2
          go_region_law (first
            | (refine Mm.step_clone (by rfl) (.tmp 41) (.tmp 42) 23 (by rfl) Mm.flat_int iI _ 8 Try.underlying23 qI qI0 qI1 qI2 rfl (by decide) HS.out ((below_new (Below.refl wr.heap.size wr) (.cells #[] 3)).drew) (heap_alloc_new wr _) (Nat.le_refl _) HRW.out (by unfold maxLen; omega) (by omega) (by rfl) (by rfl) ?_; intro A2 c2 fp2 w1 hs1 hb1; obtain ⟨l0, ho3, hnext⟩ := hs1.push (W2 := w1.alloc (.cells #[.slice A2 n1' c2] 23)) 1 0 (by decide) rfl rfl (below_new (Below.refl _ _) _) (x := x) (cx := [.slice A2 n1' c2]) (fun W h => ⟨_, rfl, h⟩); rw [HTL.out] at ho3 hnext; (have HNX := Lib.hid hnext); (have HS1 := Lib.hid hs1); (have y1 := hs1.cell (k := 2) 2 rfl rfl); (have z1 := hs1.frz (k := 2) 2 rfl); clear hnext hs1 hb1)
            | (refine step_append_lies _ (by rfl) (.tmp 40) (.tmp 44) 29 (by rfl) 0 23 iL _ 1 24 Try.underlying29 qL qL0 qL1 qL2 rfl (by omega) (.slice A' j c') j l0 (by rfl) ho3 ⟨w1.heap.size, 0, none⟩ 1 1 [.slice A2 n1' c2] (by rfl) (by rfl) (World.news_of_block (B := w1.heap.size) (cs := #[.slice A2 n1' c2]) (t := 23) (fr := (0, 0)) (heap_alloc_new w1 _)) (by simp [Value.oneCell']) (by omega) (by unfold maxLen; omega) (by omega) (Nat.zero_le _) _ rfl ?_; intro gg cap w4 hown1 hgrow hat hlt'; obtain ⟨fp', hs4⟩ := HNX.out gg cap w4 hown1 hgrow hat; (have HS4 := Lib.hid hs4); (have y0' := HS4.out.cell (k := 2) 2 rfl rfl); (have z0' := HS4.out.frz (k := 2) 2 rfl); clear hs4 hown1 hgrow hat))
          all_goals
            go_wp2
            go_roundg (n2 - (j + 1))
            case measure => omega
            case rel => exact ⟨j + 1, _, cap, fp', Nat.le_refl _, by omega, by go_num, by rw [HN.out]; exact (HS4.out.setBlk 2 rfl _).tail⟩
        · obtain rfl : j = n2 := by omega
          have HE2 : Hid (p.Leaders.take j = p.Leaders) := List.take_of_length_le (by rw [G2.out]; exact Nat.le_refl _)
          have fd : ¬ ((j : Nat) : Int) < (j : Nat) := by omega
          rw [HE2.out] at HS
          have HSR := Lib.hid HS.out.toF
          have b0 := HSR.out.cell (k := 0) 1 rfl rfl
          have b1 := HSR.out.cell (k := 1) 1 rfl rfl
          have b2 := HSR.out.cell (k := 2) 1 rfl rfl
          have r0 := HSR.out.cell (k := 0) 4 rfl rfl
          have r1 := HSR.out.cell (k := 1) 4 rfl rfl
          have r2 := HSR.out.cell (k := 2) 4 rfl rfl
          have z0 := HSR.out.frz (k := 0) 4 rfl
          have z1 := HSR.out.frz (k := 1) 4 rfl
          have z2 := HSR.out.frz (k := 2) 4 rfl
          have HSF := Lib.hid (((HSR.out.setBlk (k := 0) 4 rfl (.slice AN k cN)).setBlk (k := 1) 4 rfl (.slice A5 n1 c5)).setBlk (k := 2) 4 rfl (.slice A' j c'))
          have u0 := HSF.out.cell (k := 0) 4 rfl rfl
          have u1 := HSF.out.cell (k := 1) 4 rfl rfl
          have u2 := HSF.out.cell (k := 2) 4 rfl rfl
          have HFI := Lib.hid (shutv_Poll (x := p) (HSF.out.sel [2, 3, 0] (by decide) rfl))
          go_wp2
          exact bodyPost_ret (v := .agg #[.slice AN k cN, .slice A5 n1 c5, .slice A' j c']) (by simp [results, Try.results50, go_sem, u0, u1, u2]) rfl (poll_ret HFI.out)
end Go.Proofs.Ytkhchfbpmmiopaa

/-
  Contracts: slices.Clone where the elements lead nowhere. No conditions.
-/
namespace Go.Proofs.Ytkhchfbpmmiopaa
open Go.RowKit
theorem Try.info_clInt : (Try.prog.info? 3).map (fun i => (i.zero, i.size, i.bytes)) = some (some (.int .i64 0), 1, 8) := by kernel_rfl
set_option maxHeartbeats 1000000 in
theorem clInt_c (l : List Int) (A : Option Addr) (n c : Nat) (w : World) (B : Nat) (hl : Mm.SlAt Mm.int w B l A n c) (hn : n ≤ 1048576) :
    Calls Try.prog 92 #[.slice A n c] w (Mm.NewSl Mm.int 3 w l) := by
  have hlen := Lib.hid hl.1
  have hcap := hl.2.1
  have hq : ∀ (w : World) (a : Option Addr) (n c n' c' : Nat), (binOp .eql 23 (.slice a n c) (.slice none n' c')).run Try.prog w = .ok (.bool a.isNone) w := fun w a n c n' c' => Lib.run_eql_slice_nil w _ _ a n c n' c' Try.underlying23
  cases A with
  | none =>
    have hc : c = 0 := hl.2.2.2.1 rfl
    have hl0 : l = [] := List.length_eq_zero_iff.1 (by rw [hlen.out]; omega)
    subst hl0
    clear hl
    go_enter Try.func92, Try.ntmps92
    go_wp2
    go_ret
    exact (Mm.Acc.nil (Below.refl _ _)).newsl
  | some a =>
    have HC := Lib.hid (Mm.flat_cells' (E := Mm.int) (enc := (fun x : Int => ([.int .i64 x] : List Value))) (fun x cs h => h.1) hl)
    have HLN := Lib.hid (Mm.flat_len (E := Mm.int) (enc := (fun x : Int => ([.int .i64 x] : List Value))) (fun x cs h => h.1) hl)
    have HOK : Hid (∀ (w' : World) x, x ∈ l → (Mm.int).own w' x ((fun x : Int => ([.int .i64 x] : List Value)) x) []) := fun w' x hx => by
      obtain ⟨i, hi, rfl⟩ := List.mem_iff_getElem.1 hx
      obtain ⟨y, b, off, cs, hy, _, _, ha, _⟩ := hl.get (k := i) (by rw [← hlen.out]; exact hi)
      rw [List.getElem?_eq_getElem hi] at hy
      injection hy with hy
      subst hy
      exact ⟨rfl, ha.2, rfl⟩
    have H1 : Hid (∀ u : Value, u ∈ l.flatMap (fun x : Int => ([.int .i64 x] : List Value)) → u.oneCell' = true) := fun u hu => by
      obtain ⟨x, hx, hu⟩ := List.mem_flatMap.1 hu
      exact Mm.int.one (HOK.out w x hx) u hu
    clear hl
    obtain ⟨i0, hi, hz0, hz1, hz2⟩ := info_parts Try.info_clInt
    go_enter Try.func92, Try.ntmps92
    go_wp2_with (at_builtin; refine wpList_append_own_at _ rfl _ _ 23 rfl w.heap.size 3 i0 (.int .i64 0) 1 8 Try.underlying23 hi hz0 hz1 hz2 rfl (by decide) _ _ _ rfl (World.ownsRow_made w #[] 0 (Nat.le_refl _) (Nat.zero_le _) rfl) a n c (l.flatMap (fun x : Int => ([.int .i64 x] : List Value))) rfl HLN.out (fun j u hj => Lib.cell?_alloc_some _ (HC.out j u hj)) H1.out (by unfold maxLen; omega) (by omega) (by simp) ?_; intro v' w1 hown hgrow hnil hat)
    have HA := Lib.hid (Mm.clone_post (E := Mm.int) (e := 3) (Nat.zero_add _) (List.nil_append _) hown hgrow (fun x hx => HOK.out _ x hx) hlen.out)
    clear hown hgrow hat hnil
    go_wp2
    go_ret
    exact HA.out.newsl
end Go.Proofs.Ytkhchfbpmmiopaa

/-
  Contracts: the program's copy of an election (chapter 8). No conditions beyond those named.
-/
namespace Go.Proofs.Ytkhchfbpmmiopaa
open Go.RowKit
attribute [local go_sem] und_cell cha_cell World.cell?_alloc_some
theorem Try.info_clLet : (Try.prog.info? 84).map (fun i => (i.zero, i.size, i.bytes)) = some (some (.agg #[.int .i64 0, .int .i64 0, .int .i64 0, .bool false, .int .i64 0]), 5, 40) := by kernel_rfl
set_option maxRecDepth 100000 in
set_option maxHeartbeats 1000000 in
theorem clLet_c (l : List Letter) (A : Option Addr) (n c : Nat) (w : World) (B : Nat) (hl : Mm.SlAt rLetter w B l A n c) (hn : n ≤ 1048576) :
    Calls Try.prog 91 #[.slice A n c] w (Mm.NewSl rLetter 84 w l) := by
  have hlen := Lib.hid hl.1
  have hcap := hl.2.1
  have hq : ∀ (w : World) (a : Option Addr) (n c n' c' : Nat), (binOp .eql 28 (.slice a n c) (.slice none n' c')).run Try.prog w = .ok (.bool a.isNone) w := fun w a n c n' c' => Lib.run_eql_slice_nil w _ _ a n c n' c' Try.underlying28
  cases A with
  | none =>
    have hc : c = 0 := hl.2.2.2.1 rfl
    have hl0 : l = [] := List.length_eq_zero_iff.1 (by rw [hlen.out]; omega)
    subst hl0
    clear hl
    go_enter Try.func91, Try.ntmps91
    go_wp2
    go_ret
    exact (Mm.Acc.nil (Below.refl _ _)).newsl
  | some a =>
    have HC := Lib.hid (Mm.flat_cells' (E := rLetter) (enc := Mm.encLetter) (fun x cs h => (Mm.flatA_letter).at_ h) hl)
    have HLN := Lib.hid (Mm.flat_len (E := rLetter) (enc := Mm.encLetter) (fun x cs h => (Mm.flatA_letter).at_ h) hl)
    have HOK : Hid (∀ (w' : World) x, x ∈ l → (rLetter).own w' x ((Mm.encLetter) x) []) := fun w' x hx => by
      obtain ⟨i, hi, rfl⟩ := List.mem_iff_getElem.1 hx
      obtain ⟨y, b, off, cs, hy, _, _, ha, _⟩ := hl.get (k := i) (by rw [← hlen.out]; exact hi)
      rw [List.getElem?_eq_getElem hi] at hy
      injection hy with hy
      subst hy
      exact (Mm.flatA_letter).own ha w'
    have H1 : Hid (∀ u : Value, u ∈ l.flatMap Mm.encLetter → u.oneCell' = true) := fun u hu => by
      obtain ⟨x, hx, hu⟩ := List.mem_flatMap.1 hu
      exact (rLetter).one (HOK.out w x hx) u hu
    clear hl
    obtain ⟨i0, hi, hz0, hz1, hz2⟩ := info_parts Try.info_clLet
    go_enter Try.func91, Try.ntmps91
    go_wp2_with (at_builtin; refine wpList_append_own_at _ rfl _ _ 28 rfl w.heap.size 84 i0 (.agg #[.int .i64 0, .int .i64 0, .int .i64 0, .bool false, .int .i64 0]) 5 40 Try.underlying28 hi hz0 hz1 hz2 rfl (by decide) _ _ _ rfl (World.ownsRow_made w #[] 0 (Nat.le_refl _) (Nat.zero_le _) rfl) a n c (l.flatMap Mm.encLetter) rfl HLN.out (fun j u hj => Lib.cell?_alloc_some _ (HC.out j u hj)) H1.out (by unfold maxLen; omega) (by omega) (by simp) ?_; intro v' w1 hown hgrow hnil hat)
    have HA := Lib.hid (Mm.clone_post (E := rLetter) (e := 84) (Nat.zero_add _) (List.nil_append _) hown hgrow (fun x hx => HOK.out _ x hx) hlen.out)
    clear hown hgrow hat hnil
    go_wp2
    go_ret
    exact HA.out.newsl
set_option maxRecDepth 100000 in
set_option maxHeartbeats 4000000 in
theorem clonePoll_c (p : Poll) (cs : List Value) (w : World) (B : Nat) (hh : rPoll.at_ w B p cs) (hB : B ≤ w.heap.size) (hw : Pl.PW p) :
    Calls Try.prog 66 #[.agg cs.toArray] w (Mm.NewAg rPoll w p) := by
  obtain ⟨A0, n0, c0, A1, n1, c1, A2, n2, c2, rfl, r0, r1, r2⟩ := rPoll_at hh
  have g0 := r0.1
  have g1 := r1.1
  have g2 := r2.1
  have hn05 : n0 ≤ 5 := by have := hw.n5; omega
  have hn160 : n1 ≤ 60 := by have := hw.lets; omega
  have hn2300 : n2 ≤ 300 := by have := hw.leads; omega
  have HW := Lib.hid hw
  have G0 := Lib.hid g0
  have G1 := Lib.hid g1
  have G2 := Lib.hid g2
  have R0 := Lib.hid r0
  have R1 := Lib.hid r1
  have R2 := Lib.hid r2
  have HBW := Lib.hid hB
  obtain ⟨iN, qN, qN0, qN1, qN2⟩ := info_parts Try.infoNode
  obtain ⟨iI, qI, qI0, qI1, qI2⟩ := info_parts Try.infoIntP
  obtain ⟨iT, qT, qT0, qT1, qT2⟩ := info_parts Try.infoLetter
  obtain ⟨iL, qL, qL0, qL1, qL2⟩ := info_parts Try.infoIntsP
  clear hh r0 r1 r2 hw g0 g1 g2
  obtain ⟨ga, hga⟩ : ∃ g, w.heap.size = g := ⟨_, rfl⟩
  obtain ⟨gc, hgc⟩ : ∃ g, ga + 1 = g := ⟨_, rfl⟩
  obtain ⟨W0, hW0⟩ : ∃ W, (w.alloc (.cells #[.slice A0 n0 c0, .slice A1 n1 c1, .slice A2 n2 c2] 31)).alloc (.cells #[.slice none 0 0, .slice none 0 0, .slice none 0 0] 31) = W := ⟨_, rfl⟩
  have HS := Lib.hid ((((Mm.SepF.start w).alloc' hga 31 [.slice A0 n0 c0, .slice A1 n1 c1, .slice A2 n2 c2]).alloc' (g := gc) (by rw [Mm.sz1, hga, hgc]) 31 zPoll).atW hW0)
  go_enter Try.func66, Try.ntmps66
  go_upto_region 1 with fail
  clear hW0 hga hgc
  have b0 := HS.out.cell (k := 0) 1 rfl rfl
  have b1 := HS.out.cell (k := 1) 1 rfl rfl
  have b2 := HS.out.cell (k := 2) 1 rfl rfl
  have hbw0 := HS.out.bel0
  have hsz0 := hbw0.size
  go_upto_region 2 with (go_at_call 91; refine (clLet_c p.Letters A1 n1 c1 W0 B (R1.out.keep (fun b hb => hbw0.block b (by omega))) (by omega)).mono ?_; rintro e w5 ⟨A5, m5, c5, f5, rfl, ho, hnd, hnew, hb5⟩; (have HS5 := Lib.hid (HS.out.add hb5 (t := Mm.tsl rLetter 84 p.Letters (.slice A5 m5 c5) f5) ho hnd hnew)); clear ho hnd hnew hb5)
  clear b0 b1 b2 HS hbw0 hsz0
  obtain ⟨gp, hgp⟩ : ∃ g, w5.heap.size = g := ⟨_, rfl⟩
  obtain ⟨W6, hW6⟩ : ∃ W, w5.alloc (.cells #[.slice none 0 0, .slice A5 m5 c5, .slice none 0 0] 31) = W := ⟨_, rfl⟩
  have HS6 := Lib.hid ((HS5.out.alloc' hgp 31 [.slice none 0 0, .slice A5 m5 c5, .slice none 0 0]).atW hW6)
  rw [hW6, hgp]
  clear hW6 hgp HS5
  have KS := Lib.hid (HS6.out.add (Below.refl _ _) (t := Mm.tsl rNode 42 [] (.slice none 0 0) []) Mm.SlOwn.nil List.nodup_nil (fun b hb => by cases hb))
  have b0 := HS6.out.cell (k := 0) 3 rfl rfl
  have b1 := HS6.out.cell (k := 1) 3 rfl rfl
  have b2 := HS6.out.cell (k := 2) 3 rfl rfl
  go_upto_region 3 with fail
  clear b0 b1 b2 HS6
  go_loopg [15] n0 (fun gg i wr => ∃ (k : Nat) (A' : Option Addr) (c' : Nat) (fp : List Nat), n0 - k ≤ gg ∧ k ≤ n0 ∧ i = .int .i64 k ∧ Hid (Mm.SepF [] w wr [Mm.tsl rNode 42 (p.Nodes.take k) (.slice A' k c') fp, Mm.tblk gp 31 [.slice A' k c', .slice A5 m5 c5, .slice none 0 0], Mm.tsl rLetter 84 p.Letters (.slice A5 m5 c5) f5, Mm.tblk gc 31 zPoll, Mm.tblk ga 31 [.slice A0 n0 c0, .slice A1 n1 c1, .slice A2 n2 c2]]))
  case atStart => exact ⟨0, none, 0, [], Nat.le_refl _, Nat.zero_le _, rfl, KS.out⟩
  case round =>
    clear KS
    obtain ⟨k, A', c', fp, hgk, hk', rfl, HS⟩ := hrel
    obtain ⟨W, rfl⟩ : ∃ W : World, W = wr := ⟨_, rfl⟩
    by_cases hlt : k < n0
    · have fc : (k : Int) < (n0 : Nat) := by omega
      obtain ⟨x, b, off, AH, mH, dH, hx, rfl, hb, i0', i1', i2', hrd, i4', e0, e1, e2, e3, e4⟩ := rNode_get (R0.out.keep (w' := W) fun b hb => HS.out.bel0.block b (by have := HBW.out; omega)) hlt
      have HIX := Lib.hid (And.intro i0' (And.intro i1' (And.intro i2' i4')))
      have HRD := Lib.hid hrd
      have HNX := Lib.hid (Mm.take_succ_some hx)
      have hmH : mH ≤ 5 := by
        have hno := HW.out.node k x hx
        have h5 := Pl.rising_bound x.Heard 0 n0 hno.heard (fun i hi => by have := hno.hin i hi; have := G0.out; omega)
        rw [hrd.1, if_pos (by omega)] at h5
        omega
      have hlk : (p.Nodes.take k).length = k := by rw [List.length_take]; have := G0.out; omega
      have HLK := Lib.hid hlk
      have hBW : B ≤ W.heap.size := by have := HBW.out; have := HS.out.bel0.size; omega
      clear hx i0' i1' i2' i4' hrd hlk
      go_upto_region 5 with fail
      obtain ⟨gn, hgn⟩ : ∃ g, W.heap.size = g := ⟨_, rfl⟩
      obtain ⟨W1, hW1⟩ : ∃ V, W.alloc (.cells #[.int .i64 x.Term, .int .i64 x.Voted, .int .i64 x.Age, .slice AH mH dH, .int .i64 x.Role] 42) = V := ⟨_, rfl⟩
      have HS1 := Lib.hid ((HS.out.alloc' hgn 42 [.int .i64 x.Term, .int .i64 x.Voted, .int .i64 x.Age, .slice AH mH dH, .int .i64 x.Role]).atW hW1)
      have hb1 : Below W.heap.size W W1 := by rw [← hW1]; exact below_new (Below.refl _ _) _
      rw [hW1, hgn]
      have HB1 := Lib.hid hb1
      have HGN := Lib.hid hgn
      clear hW1 e0 e1 e2 e3 e4 hb1 HS hgn
      have q3 := HS1.out.cell (k := 3) 0 rfl rfl
      go_upto_region 6 with (go_at_call 92; refine (clInt_c x.Heard AH mH dH W1 B (HRD.out.keep (fun b hb => HB1.out.block b (by omega))) (by omega)).mono ?_; rintro e w6 ⟨A6, m6, c6, f6, rfl, ho, hnd, hnew, hb6⟩; (have HS3 := Lib.hid (HS1.out.add hb6 (t := Mm.tsl Mm.int 3 x.Heard (.slice A6 m6 c6) f6) ho hnd hnew)); clear ho hnd hnew hb6; clear q3; (have q3 := HS3.out.cell (k := 3) 1 rfl rfl); (have y3 := HS3.out.frz (k := 3) 1 rfl))
      clear q3 y3 HB1 HS1 HRD
      obtain ⟨W7, hW7⟩ : ∃ V, w6.setCell ⟨gn, 3, none⟩ (.slice A6 m6 c6) = V := ⟨_, rfl⟩
      have HS4 := Lib.hid ((HS3.out.setBlk (k := 3) 1 rfl (.slice A6 m6 c6)).atW hW7)
      rw [hW7]
      clear hW7 HS3
      have q0 := HS4.out.cell (k := 0) 1 rfl rfl
      have q1 := HS4.out.cell (k := 1) 1 rfl rfl
      have q2 := HS4.out.cell (k := 2) 1 rfl rfl
      have q3 := HS4.out.cell (k := 3) 1 rfl rfl
      have q4 := HS4.out.cell (k := 4) 1 rfl rfl
      have b0 := HS4.out.cell (k := 0) 3 rfl rfl
      go_wp2_with (at_builtin; refine Mm.app_thing (x := x) (cx := [.int .i64 x.Term, .int .i64 x.Voted, .int .i64 x.Age, .slice A6 m6 c6, .int .i64 x.Role]) HS4.out 2 0 (by decide) rfl rfl rfl (.tmp 24) (.tmp 26) 27 rfl iN _ 56 Try.underlying27 qN qN0 qN1 qN2 rfl (by decide) rfl rfl (fun W hh => rNode_own_mk HIX.out.1 HIX.out.2.1 HIX.out.2.2.1 hh HIX.out.2.2.2) HLK.out (by unfold maxLen; omega) (by omega) ?_; intro gg cap w' fp' hs; (have HS8 := Lib.hid hs); clear hs; clear q0 q1 q2 q3 q4 b0; (have b0 := HS8.out.cell (k := 0) 3 rfl rfl); (have y0 := HS8.out.frz (k := 0) 3 rfl))
      go_roundg (n0 - (k + 1))
      case measure => omega
      case rel => exact ⟨k + 1, _, cap, fp', Nat.le_refl _, by omega, by go_num, by rw [HNX.out]; exact (HS8.out.setBlk (k := 0) 3 rfl _).sel [2, 3, 4, 5, 6] (by decide) rfl⟩
    · obtain rfl : k = n0 := by omega
      have HE : Hid (p.Nodes.take k = p.Nodes) := Lib.hid (List.take_of_length_le (by have := G0.out; omega))
      rw [HE.out] at HS
      have fc : ¬ ((k : Nat) : Int) < (k : Nat) := by omega
      obtain ⟨AN, rfl⟩ : ∃ q, q = A' := ⟨_, rfl⟩
      obtain ⟨cN, rfl⟩ : ∃ q, q = c' := ⟨_, rfl⟩
      have b0 := HS.out.cell (k := 0) 4 rfl rfl
      have b1 := HS.out.cell (k := 1) 4 rfl rfl
      have b2 := HS.out.cell (k := 2) 4 rfl rfl
      have KS2 := Lib.hid ((HS.out.sel [1, 0, 2, 3, 4] (by decide) rfl).add (Below.refl _ _) (t := Mm.tsl ints 23 [] (.slice none 0 0) []) Mm.SlOwn.nil List.nodup_nil (fun b hb => by cases hb)).toSep
      go_wp2
      clear b0 b1 b2 HS
      go_loopg [33] n2 (fun gg i wr => ∃ (j : Nat) (A' : Option Addr) (c' : Nat) (fq : List Nat), n2 - j ≤ gg ∧ j ≤ n2 ∧ i = .int .i64 j ∧ Hid (Mm.Sep w wr [Mm.tsl ints 23 (p.Leaders.take j) (.slice A' j c') fq, Mm.tblk gp 31 [.slice AN k cN, .slice A5 m5 c5, .slice A' j c'], Mm.tsl rNode 42 p.Nodes (.slice AN k cN) fp, Mm.tsl rLetter 84 p.Letters (.slice A5 m5 c5) f5, Mm.tblk gc 31 zPoll]))
      case atStart => exact ⟨0, none, 0, [], Nat.le_refl _, Nat.zero_le _, rfl, (KS2.out.toF.sel [0, 1, 2, 3, 4] (by decide) rfl).toSep⟩
      case round =>
        clear KS2
        obtain ⟨j, A', c', fq, hgj, hj, rfl, HS⟩ := hrel
        have hbel := HS.out.bel
        have hsw := hbel.size
        have hBw : B ≤ w.heap.size := HBW.out
        by_cases hlt : j < n2
        · obtain ⟨x, b0, off, A1', n1', c1', hx, rfl, hb, hr, e0⟩ := ints_get R2.out hlt
          have hxl := HW.out.lead x (List.mem_of_getElem? hx)
          have hn2' : n1' = 2 := by obtain ⟨t, q, rfl, _⟩ := hxl; exact hr.1.symm
          have y0 := HS.out.cell (k := 2) 1 rfl rfl
          have z0 := HS.out.frz (k := 2) 1 rfl
          have e0' := below_some hbel e0
          have HRW := Lib.hid (show Mm.SlAt Mm.int wr.drew B x A1' n1' c1' from hr.keep fun b' hb' => hbel.block b' (by omega))
          have HN := Lib.hid (Mm.take_succ_some hx)
          have htl := List.length_take_of_le (l := p.Leaders) (i := j) (by rw [G2.out]; omega)
          have HTL := Lib.hid htl
          have fd : (j : Int) < (n2 : Nat) := by omega
          have HN2 := Lib.hid hn2'
          clear hx hr e0 htl hxl hn2'
          have hn1'5 : n1' ≤ 5 := by have := HN2.out; omega
          go_wp2
          go_region_law (first
            | (go_simp; go_at_call 92; refine (clInt_c x A1' n1' c1' _ B HRW.out (by omega)).mono ?_; rintro e w1 ⟨A2, m2, c2, fp2, rfl, ho, hnd, hnew, hb1⟩; (have hs1 := (HS.out.step (Below.refl _ _).drew).add hb1 (t := Mm.tsl Mm.int 3 x (.slice A2 m2 c2) fp2) ho hnd hnew); obtain ⟨l0, ho3, hnext⟩ := hs1.push (W2 := w1.alloc (.cells #[.slice A2 m2 c2] 23)) 1 0 (by decide) rfl rfl (below_new (Below.refl _ _) _) (x := x) (cx := [.slice A2 m2 c2]) (fun W h => ⟨_, rfl, h⟩); rw [HTL.out] at ho3 hnext; (have HNX := Lib.hid hnext); (have HS1 := Lib.hid hs1); (have y1 := hs1.cell (k := 2) 2 rfl rfl); (have z1 := hs1.frz (k := 2) 2 rfl); clear hnext hs1 hb1 ho hnd hnew)
            | (refine step_append_lies _ (by rfl) (.tmp 38) (.tmp 41) 29 (by rfl) 0 23 iL _ 1 24 Try.underlying29 qL qL0 qL1 qL2 rfl (by omega) (.slice A' j c') j l0 (by rfl) ho3 ⟨w1.heap.size, 0, none⟩ 1 1 [.slice A2 m2 c2] (by rfl) (by rfl) (World.news_of_block (B := w1.heap.size) (cs := #[.slice A2 m2 c2]) (t := 23) (fr := (0, 0)) (heap_alloc_new w1 _)) (by simp [Value.oneCell']) (by omega) (by unfold maxLen; omega) (by omega) (Nat.zero_le _) _ rfl ?_; intro gg cap w4 hown1 hgrow hat hlt'; obtain ⟨fp', hs4⟩ := HNX.out gg cap w4 hown1 hgrow hat; (have HS4 := Lib.hid hs4); (have y0' := HS4.out.cell (k := 2) 2 rfl rfl); (have z0' := HS4.out.frz (k := 2) 2 rfl); clear hs4 hown1 hgrow hat))
          all_goals
            go_wp2
            go_roundg (n2 - (j + 1))
            case measure => omega
            case rel => exact ⟨j + 1, _, cap, fp', Nat.le_refl _, by omega, by go_num, by rw [HN.out]; exact (HS4.out.setBlk 2 rfl _).tail⟩
        · obtain rfl : j = n2 := by omega
          have HE2 : Hid (p.Leaders.take j = p.Leaders) := List.take_of_length_le (by rw [G2.out]; exact Nat.le_refl _)
          have fd : ¬ ((j : Nat) : Int) < (j : Nat) := by omega
          rw [HE2.out] at HS
          have HSR := Lib.hid HS.out.toF
          have b0 := HSR.out.cell (k := 0) 1 rfl rfl
          have b1 := HSR.out.cell (k := 1) 1 rfl rfl
          have b2 := HSR.out.cell (k := 2) 1 rfl rfl
          have r0 := HSR.out.cell (k := 0) 4 rfl rfl
          have r1 := HSR.out.cell (k := 1) 4 rfl rfl
          have r2 := HSR.out.cell (k := 2) 4 rfl rfl
          have z0 := HSR.out.frz (k := 0) 4 rfl
          have z1 := HSR.out.frz (k := 1) 4 rfl
          have z2 := HSR.out.frz (k := 2) 4 rfl
          have HSF := Lib.hid (((HSR.out.setBlk (k := 0) 4 rfl (.slice AN k cN)).setBlk (k := 1) 4 rfl (.slice A5 m5 c5)).setBlk (k := 2) 4 rfl (.slice A' j c'))
          have u0 := HSF.out.cell (k := 0) 4 rfl rfl
          have u1 := HSF.out.cell (k := 1) 4 rfl rfl
          have u2 := HSF.out.cell (k := 2) 4 rfl rfl
          have HFI := Lib.hid (shutv_Poll (x := p) (HSF.out.sel [2, 3, 0] (by decide) rfl))
          go_wp2
          exact bodyPost_ret (v := .agg #[.slice AN k cN, .slice A5 m5 c5, .slice A' j c']) (by simp [results, Try.results66, go_sem, u0, u1, u2]) rfl (poll_ret HFI.out)
end Go.Proofs.Ytkhchfbpmmiopaa

/-
  Contracts: the reference's election, by value: a step on a letter, a step whole (chapter 8). No conditions beyond those named.
-/
namespace Go.Proofs.Ytkhchfbpmmiopaa
open Go.RowKit
attribute [local go_sem] und_cell cha_cell World.cell?_alloc_some
set_option maxRecDepth 100000 in
set_option maxHeartbeats 4000000 in
theorem l8StepTwice_c (p : Poll) (kk : Int) (cs : List Value) (fp : List Nat) (w : World) (h : (Mm.tow rPoll p cs fp).holds w) (hnd : fp.Nodup) (hw : Pl.PW p) :
    Calls Try.prog 49 #[.agg cs.toArray, .agg #[.int .i64 4, .int .i64 kk]] w (PVA2 (Pl.pstep p ⟨4, kk⟩) fp w) := by
  obtain ⟨A0, n0, c0, A1, n1, c1, A2, n2, c2, f0, f1, f2, rfl, rfl, hs⟩ := openv_Poll (Mm.SepF.one _ w h hnd)
  obtain ⟨g0, rfl, -, -⟩ := Mm.sl_addr (hs.sl 0 rfl) (by have := hw.n1; omega)
  have hln0 : n0 = p.Nodes.length := by obtain ⟨A', n', c', hv, h1, _⟩ := (hs.sl 0 rfl).form; injection hv with _ h2 _; omega
  have hln1 : n1 = p.Letters.length := by obtain ⟨A', n', c', hv, h1, _⟩ := (hs.sl 1 rfl).form; injection hv with _ h2 _; omega
  have hn5 := hw.n5
  have hl60 := hw.lets
  have hn05 : n0 ≤ 5 := by omega
  have hn160 : n1 ≤ 60 := by omega
  obtain ⟨ga, hga⟩ : ∃ g, w.heap.size = g := ⟨_, rfl⟩
  obtain ⟨gs, hgs⟩ : ∃ g, ga + 1 = g := ⟨_, rfl⟩
  obtain ⟨gc, hgc⟩ : ∃ g, gs + 1 = g := ⟨_, rfl⟩
  obtain ⟨W0, hW0⟩ : ∃ W, ((w.alloc (.cells #[.slice (some ⟨g0, 0, none⟩) n0 c0, .slice A1 n1 c1, .slice A2 n2 c2] 31)).alloc (.cells #[.int .i64 4, .int .i64 kk] 56)).alloc (.cells #[.slice none 0 0, .slice none 0 0, .slice none 0 0] 31) = W := ⟨_, rfl⟩
  have HS := Lib.hid ((((hs.alloc' hga 31 [.slice (some ⟨g0, 0, none⟩) n0 c0, .slice A1 n1 c1, .slice A2 n2 c2]).alloc' (g := gs) (by rw [Mm.sz1, hga, hgs]) 56 [.int .i64 4, .int .i64 kk]).alloc' (g := gc) (by rw [Mm.sz2, hga]; omega) 31 zPoll).atW hW0)
  have HW := Lib.hid hw
  have HN0 := Lib.hid hln0
  have HN1 := Lib.hid hln1
  clear h hs hnd hw hln0 hln1
  go_enter Try.func49, Try.ntmps49
  go_upto_region 1 with fail
  clear hW0 hga hgs hgc
  have s0 := HS.out.cell (k := 0) 1 rfl rfl
  have s1 := HS.out.cell (k := 1) 1 rfl rfl
  have b0 := HS.out.cell (k := 0) 2 rfl rfl
  have b1 := HS.out.cell (k := 1) 2 rfl rfl
  have b2 := HS.out.cell (k := 2) 2 rfl rfl
  have HP := Lib.hid (Pl.pstepL p 4 kk (by omega))
  by_cases hin : 0 ≤ kk ∧ kk < (n1 : Int)
  rotate_left
  · have HF : Hid (Pl.pstep p ⟨4, kk⟩ = (p, false)) := Lib.hid (by rw [HP.out, if_neg (fun hh => hin ⟨hh.1, by have := hh.2; have := HN1.out; omega⟩)])
    by_cases h0 : kk < 0
    · clear hin
      have r0 := HS.out.cell (k := 0) 0 rfl rfl
      have r1 := HS.out.cell (k := 1) 0 rfl rfl
      have r2 := HS.out.cell (k := 2) 0 rfl rfl
      have z0 := HS.out.frz (k := 0) 0 rfl
      have z1 := HS.out.frz (k := 1) 0 rfl
      have z2 := HS.out.frz (k := 2) 0 rfl
      go_wp2
      have HSF := Lib.hid (((HS.out.setBlk (k := 0) 0 rfl (.slice (some ⟨g0, 0, none⟩) n0 c0)).setBlk (k := 1) 0 rfl (.slice A1 n1 c1)).setBlk (k := 2) 0 rfl (.slice A2 n2 c2))
      have u0 := HSF.out.cell (k := 0) 0 rfl rfl
      have u1 := HSF.out.cell (k := 1) 0 rfl rfl
      have u2 := HSF.out.cell (k := 2) 0 rfl rfl
      exact bodyPost_ret (v := .tuple #[.agg #[(.slice (some ⟨g0, 0, none⟩) n0 c0), (.slice A1 n1 c1), (.slice A2 n2 c2)], .bool false]) (by simp [results, Try.results49, go_sem, u0, u1, u2]) rfl ⟨[(.slice (some ⟨g0, 0, none⟩) n0 c0), (.slice A1 n1 c1), (.slice A2 n2 c2)], _, by rw [HF.out], by rw [HF.out]; exact (shutv_Poll (x := p) (HSF.out.sel [3, 4, 5] (by decide) rfl)).left⟩
    · have h1 : (n1 : Int) ≤ kk := by omega
      clear hin
      have r0 := HS.out.cell (k := 0) 0 rfl rfl
      have r1 := HS.out.cell (k := 1) 0 rfl rfl
      have r2 := HS.out.cell (k := 2) 0 rfl rfl
      have z0 := HS.out.frz (k := 0) 0 rfl
      have z1 := HS.out.frz (k := 1) 0 rfl
      have z2 := HS.out.frz (k := 2) 0 rfl
      go_wp2
      have HSF := Lib.hid (((HS.out.setBlk (k := 0) 0 rfl (.slice (some ⟨g0, 0, none⟩) n0 c0)).setBlk (k := 1) 0 rfl (.slice A1 n1 c1)).setBlk (k := 2) 0 rfl (.slice A2 n2 c2))
      have u0 := HSF.out.cell (k := 0) 0 rfl rfl
      have u1 := HSF.out.cell (k := 1) 0 rfl rfl
      have u2 := HSF.out.cell (k := 2) 0 rfl rfl
      exact bodyPost_ret (v := .tuple #[.agg #[(.slice (some ⟨g0, 0, none⟩) n0 c0), (.slice A1 n1 c1), (.slice A2 n2 c2)], .bool false]) (by simp [results, Try.results49, go_sem, u0, u1, u2]) rfl ⟨[(.slice (some ⟨g0, 0, none⟩) n0 c0), (.slice A1 n1 c1), (.slice A2 n2 c2)], _, by rw [HF.out], by rw [HF.out]; exact (shutv_Poll (x := p) (HSF.out.sel [3, 4, 5] (by decide) rfl)).left⟩
  obtain ⟨k, rfl⟩ : ∃ k : Nat, kk = k := ⟨kk.toNat, by omega⟩
  have hk : k < p.Letters.length := by have := HN1.out; omega
  have hkn : (k : Int) < (n1 : Nat) := by omega
  have hkn' : ¬ (n1 : Int) ≤ (k : Nat) := by omega
  have hk0 : (0 : Int) ≤ (k : Nat) := by omega
  have hk0' : ¬ ((k : Nat) : Int) < 0 := by omega
  have hkt : ((k : Nat) : Int).toNat = k := by omega
  rw [if_pos ⟨hk0, by omega⟩] at HP
  have hx := HW.out.lat (k := (k : Int)) (by omega) (by omega)
  have hmk := HW.out.lok (k := (k : Int)) (by omega) (by omega)
  rw [hkt] at hx
  obtain ⟨m, hm⟩ : ∃ m, Pl.letAt p (k : Int) = m := ⟨_, rfl⟩
  rw [hm] at hx hmk HP
  have HX := Lib.hid hx
  have HMK := Lib.hid hmk
  have HK := Lib.hid hk
  obtain ⟨g2, rfl, -, -⟩ := Mm.sl_addr (HS.out.sl 4 rfl) (by omega)
  have HMI := Lib.hid (Mm.letter_inv (HS.out.sl 4 rfl) HX.out)
  have hcap : n1 ≤ c1 ∧ c1 ≤ maxLen := by obtain ⟨A', n', c', hv, h1, h2, h3, _⟩ := (HS.out.sl 4 rfl).form; injection hv with _ h4 h5; omega
  unfold maxLen at hcap
  clear hin hk hx hmk hm
  obtain ⟨q0, q1, q2, q3, q4⟩ := rLetter_ocell (HS.out.sl 4 rfl) (HS.out.ndat (i := 4) rfl) HX.out
  go_upto_region 17 with fail
  clear q0 q1 q2 q3 q4
  clear s0 s1 b0 b1 b2
  obtain ⟨gx, hgx⟩ : ∃ g, W0.heap.size = g := ⟨_, rfl⟩
  obtain ⟨W2, hW2⟩ : ∃ V, W0.alloc (.cells #[.int .i64 m.From, .int .i64 m.To, .int .i64 m.Term, .bool m.Ask, .int .i64 m.Age] 84) = V := ⟨_, rfl⟩
  have HS2 := Lib.hid ((HS.out.alloc' hgx 84 [.int .i64 m.From, .int .i64 m.To, .int .i64 m.Term, .bool m.Ask, .int .i64 m.Age]).atW hW2)
  rw [hW2, hgx]
  clear hW2 hgx HS
  have HS := Lib.hid HS2.out.tail
  have s0 := HS.out.cell (k := 0) 1 rfl rfl
  have s1 := HS.out.cell (k := 1) 1 rfl rfl
  have b0 := HS.out.cell (k := 0) 2 rfl rfl
  have b1 := HS.out.cell (k := 1) 2 rfl rfl
  have b2 := HS.out.cell (k := 2) 2 rfl rfl
  rw [if_pos rfl] at HP
  by_cases hl : p.Letters.length = 60
  · have HF : Hid (Pl.pstep p ⟨4, (k : Int)⟩ = (p, false)) := Lib.hid (by rw [HP.out, if_pos hl])
    have f4' : ((n1 : Int) == 60) = true := by have := HN1.out; simp; omega
    clear hl
    have r0 := HS.out.cell (k := 0) 0 rfl rfl
    have r1 := HS.out.cell (k := 1) 0 rfl rfl
    have r2 := HS.out.cell (k := 2) 0 rfl rfl
    have z0 := HS.out.frz (k := 0) 0 rfl
    have z1 := HS.out.frz (k := 1) 0 rfl
    have z2 := HS.out.frz (k := 2) 0 rfl
    go_wp2
    have HSF := Lib.hid (((HS.out.setBlk (k := 0) 0 rfl (.slice (some ⟨g0, 0, none⟩) n0 c0)).setBlk (k := 1) 0 rfl (.slice (some ⟨g2, 0, none⟩) n1 c1)).setBlk (k := 2) 0 rfl (.slice A2 n2 c2))
    have u0 := HSF.out.cell (k := 0) 0 rfl rfl
    have u1 := HSF.out.cell (k := 1) 0 rfl rfl
    have u2 := HSF.out.cell (k := 2) 0 rfl rfl
    exact bodyPost_ret (v := .tuple #[.agg #[(.slice (some ⟨g0, 0, none⟩) n0 c0), (.slice (some ⟨g2, 0, none⟩) n1 c1), (.slice A2 n2 c2)], .bool false]) (by simp [results, Try.results49, go_sem, u0, u1, u2]) rfl ⟨[(.slice (some ⟨g0, 0, none⟩) n0 c0), (.slice (some ⟨g2, 0, none⟩) n1 c1), (.slice A2 n2 c2)], _, by rw [HF.out], by rw [HF.out]; exact (shutv_Poll (x := p) (HSF.out.sel [3, 4, 5] (by decide) rfl)).left⟩
  · have HF : Hid (Pl.pstep p ⟨4, (k : Int)⟩ = (Pl.psend p m, true)) := Lib.hid (by
      rw [HP.out, if_neg hl]
      have h5 : Pl.psend p m = { p with Letters := p.Letters ++ [m] } := if_pos (by have := HN1.out; omega)
      rw [h5])
    have f4' : ((n1 : Int) == 60) = false := by have := HN1.out; simp; omega
    clear hl
    have HT := Lib.hid (shutv_Poll (x := p) (HS2.out.sel [4, 5, 6, 3, 2, 1, 0] (by decide) rfl))
    have CS := l8Write_c p m _ _ W2 (HT.out.at_ 0 rfl) (HT.out.ndat (i := 0) rfl) HMI.out HW.out.lets
    have x0 := HT.out.cell (k := 0) 4 rfl rfl
    have x1 := HT.out.cell (k := 1) 4 rfl rfl
    have x2 := HT.out.cell (k := 2) 4 rfl rfl
    have x3 := HT.out.cell (k := 3) 4 rfl rfl
    have x4 := HT.out.cell (k := 4) 4 rfl rfl
    go_wp2_with (go_at_call 83; (with_reducible refine CS.mono ?_); clear CS; clear x0 x1 x2 x3 x4; (rintro e w6 ⟨cq, fq, rfl, hL⟩); (obtain ⟨C0, x0, y0, C1, x1, y1, C2, x2, y2, rfl⟩ := own_formP hL.2.2.2); ((have HS7 := Lib.hid (HT.out.call 0 rfl hL))); (clear hL); (clear s0 s1 b0 b1 b2); (have r0 := HS7.out.cell (k := 0) 3 rfl rfl); (have r1 := HS7.out.cell (k := 1) 3 rfl rfl); (have r2 := HS7.out.cell (k := 2) 3 rfl rfl); (have z0 := HS7.out.frz (k := 0) 3 rfl); (have z1 := HS7.out.frz (k := 1) 3 rfl); (have z2 := HS7.out.frz (k := 2) 3 rfl))
    have HSF := Lib.hid (((HS7.out.setBlk (k := 0) 3 rfl (.slice C0 x0 y0)).setBlk (k := 1) 3 rfl (.slice C1 x1 y1)).setBlk (k := 2) 3 rfl (.slice C2 x2 y2))
    have u0 := HSF.out.cell (k := 0) 3 rfl rfl
    have u1 := HSF.out.cell (k := 1) 3 rfl rfl
    have u2 := HSF.out.cell (k := 2) 3 rfl rfl
    exact bodyPost_ret (v := .tuple #[.agg #[(.slice C0 x0 y0), (.slice C1 x1 y1), (.slice C2 x2 y2)], .bool true]) (by simp [results, Try.results49, go_sem, u0, u1, u2]) rfl ⟨[(.slice C0 x0 y0), (.slice C1 x1 y1), (.slice C2 x2 y2)], _, by rw [HF.out], by rw [HF.out]; exact (HSF.out.sel [0] (by decide) rfl).left⟩
set_option maxRecDepth 100000 in
set_option maxHeartbeats 4000000 in
theorem l8StepTake_c (p : Poll) (kk : Int) (cs : List Value) (fp : List Nat) (w : World) (h : (Mm.tow rPoll p cs fp).holds w) (hnd : fp.Nodup) (hw : Pl.PW p) :
    Calls Try.prog 49 #[.agg cs.toArray, .agg #[.int .i64 2, .int .i64 kk]] w (PVA2 (Pl.pstep p ⟨2, kk⟩) fp w) := by
  obtain ⟨A0, n0, c0, A1, n1, c1, A2, n2, c2, f0, f1, f2, rfl, rfl, hs⟩ := openv_Poll (Mm.SepF.one _ w h hnd)
  obtain ⟨g0, rfl, -, -⟩ := Mm.sl_addr (hs.sl 0 rfl) (by have := hw.n1; omega)
  have hln0 : n0 = p.Nodes.length := by obtain ⟨A', n', c', hv, h1, _⟩ := (hs.sl 0 rfl).form; injection hv with _ h2 _; omega
  have hln1 : n1 = p.Letters.length := by obtain ⟨A', n', c', hv, h1, _⟩ := (hs.sl 1 rfl).form; injection hv with _ h2 _; omega
  have hn5 := hw.n5
  have hl60 := hw.lets
  have hn05 : n0 ≤ 5 := by omega
  have hn160 : n1 ≤ 60 := by omega
  obtain ⟨ga, hga⟩ : ∃ g, w.heap.size = g := ⟨_, rfl⟩
  obtain ⟨gs, hgs⟩ : ∃ g, ga + 1 = g := ⟨_, rfl⟩
  obtain ⟨gc, hgc⟩ : ∃ g, gs + 1 = g := ⟨_, rfl⟩
  obtain ⟨W0, hW0⟩ : ∃ W, ((w.alloc (.cells #[.slice (some ⟨g0, 0, none⟩) n0 c0, .slice A1 n1 c1, .slice A2 n2 c2] 31)).alloc (.cells #[.int .i64 2, .int .i64 kk] 56)).alloc (.cells #[.slice none 0 0, .slice none 0 0, .slice none 0 0] 31) = W := ⟨_, rfl⟩
  have HS := Lib.hid ((((hs.alloc' hga 31 [.slice (some ⟨g0, 0, none⟩) n0 c0, .slice A1 n1 c1, .slice A2 n2 c2]).alloc' (g := gs) (by rw [Mm.sz1, hga, hgs]) 56 [.int .i64 2, .int .i64 kk]).alloc' (g := gc) (by rw [Mm.sz2, hga]; omega) 31 zPoll).atW hW0)
  have HW := Lib.hid hw
  have HN0 := Lib.hid hln0
  have HN1 := Lib.hid hln1
  clear h hs hnd hw hln0 hln1
  go_enter Try.func49, Try.ntmps49
  go_upto_region 1 with fail
  clear hW0 hga hgs hgc
  have s0 := HS.out.cell (k := 0) 1 rfl rfl
  have s1 := HS.out.cell (k := 1) 1 rfl rfl
  have b0 := HS.out.cell (k := 0) 2 rfl rfl
  have b1 := HS.out.cell (k := 1) 2 rfl rfl
  have b2 := HS.out.cell (k := 2) 2 rfl rfl
  have HP := Lib.hid (Pl.pstepL p 2 kk (by omega))
  by_cases hin : 0 ≤ kk ∧ kk < (n1 : Int)
  rotate_left
  · have HF : Hid (Pl.pstep p ⟨2, kk⟩ = (p, false)) := Lib.hid (by rw [HP.out, if_neg (fun hh => hin ⟨hh.1, by have := hh.2; have := HN1.out; omega⟩)])
    by_cases h0 : kk < 0
    · clear hin
      have r0 := HS.out.cell (k := 0) 0 rfl rfl
      have r1 := HS.out.cell (k := 1) 0 rfl rfl
      have r2 := HS.out.cell (k := 2) 0 rfl rfl
      have z0 := HS.out.frz (k := 0) 0 rfl
      have z1 := HS.out.frz (k := 1) 0 rfl
      have z2 := HS.out.frz (k := 2) 0 rfl
      go_wp2
      have HSF := Lib.hid (((HS.out.setBlk (k := 0) 0 rfl (.slice (some ⟨g0, 0, none⟩) n0 c0)).setBlk (k := 1) 0 rfl (.slice A1 n1 c1)).setBlk (k := 2) 0 rfl (.slice A2 n2 c2))
      have u0 := HSF.out.cell (k := 0) 0 rfl rfl
      have u1 := HSF.out.cell (k := 1) 0 rfl rfl
      have u2 := HSF.out.cell (k := 2) 0 rfl rfl
      exact bodyPost_ret (v := .tuple #[.agg #[(.slice (some ⟨g0, 0, none⟩) n0 c0), (.slice A1 n1 c1), (.slice A2 n2 c2)], .bool false]) (by simp [results, Try.results49, go_sem, u0, u1, u2]) rfl ⟨[(.slice (some ⟨g0, 0, none⟩) n0 c0), (.slice A1 n1 c1), (.slice A2 n2 c2)], _, by rw [HF.out], by rw [HF.out]; exact (shutv_Poll (x := p) (HSF.out.sel [3, 4, 5] (by decide) rfl)).left⟩
    · have h1 : (n1 : Int) ≤ kk := by omega
      clear hin
      have r0 := HS.out.cell (k := 0) 0 rfl rfl
      have r1 := HS.out.cell (k := 1) 0 rfl rfl
      have r2 := HS.out.cell (k := 2) 0 rfl rfl
      have z0 := HS.out.frz (k := 0) 0 rfl
      have z1 := HS.out.frz (k := 1) 0 rfl
      have z2 := HS.out.frz (k := 2) 0 rfl
      go_wp2
      have HSF := Lib.hid (((HS.out.setBlk (k := 0) 0 rfl (.slice (some ⟨g0, 0, none⟩) n0 c0)).setBlk (k := 1) 0 rfl (.slice A1 n1 c1)).setBlk (k := 2) 0 rfl (.slice A2 n2 c2))
      have u0 := HSF.out.cell (k := 0) 0 rfl rfl
      have u1 := HSF.out.cell (k := 1) 0 rfl rfl
      have u2 := HSF.out.cell (k := 2) 0 rfl rfl
      exact bodyPost_ret (v := .tuple #[.agg #[(.slice (some ⟨g0, 0, none⟩) n0 c0), (.slice A1 n1 c1), (.slice A2 n2 c2)], .bool false]) (by simp [results, Try.results49, go_sem, u0, u1, u2]) rfl ⟨[(.slice (some ⟨g0, 0, none⟩) n0 c0), (.slice A1 n1 c1), (.slice A2 n2 c2)], _, by rw [HF.out], by rw [HF.out]; exact (shutv_Poll (x := p) (HSF.out.sel [3, 4, 5] (by decide) rfl)).left⟩
  obtain ⟨k, rfl⟩ : ∃ k : Nat, kk = k := ⟨kk.toNat, by omega⟩
  have hk : k < p.Letters.length := by have := HN1.out; omega
  have hkn : (k : Int) < (n1 : Nat) := by omega
  have hkn' : ¬ (n1 : Int) ≤ (k : Nat) := by omega
  have hk0 : (0 : Int) ≤ (k : Nat) := by omega
  have hk0' : ¬ ((k : Nat) : Int) < 0 := by omega
  have hkt : ((k : Nat) : Int).toNat = k := by omega
  rw [if_pos ⟨hk0, by omega⟩] at HP
  have hx := HW.out.lat (k := (k : Int)) (by omega) (by omega)
  have hmk := HW.out.lok (k := (k : Int)) (by omega) (by omega)
  rw [hkt] at hx
  obtain ⟨m, hm⟩ : ∃ m, Pl.letAt p (k : Int) = m := ⟨_, rfl⟩
  rw [hm] at hx hmk HP
  have HX := Lib.hid hx
  have HMK := Lib.hid hmk
  have HK := Lib.hid hk
  obtain ⟨g2, rfl, -, -⟩ := Mm.sl_addr (HS.out.sl 4 rfl) (by omega)
  have HMI := Lib.hid (Mm.letter_inv (HS.out.sl 4 rfl) HX.out)
  have hcap : n1 ≤ c1 ∧ c1 ≤ maxLen := by obtain ⟨A', n', c', hv, h1, h2, h3, _⟩ := (HS.out.sl 4 rfl).form; injection hv with _ h4 h5; omega
  unfold maxLen at hcap
  clear hin hk hx hmk hm
  obtain ⟨q0, q1, q2, q3, q4⟩ := rLetter_ocell (HS.out.sl 4 rfl) (HS.out.ndat (i := 4) rfl) HX.out
  go_upto_region 17 with fail
  clear q0 q1 q2 q3 q4
  clear s0 s1 b0 b1 b2
  obtain ⟨gx, hgx⟩ : ∃ g, W0.heap.size = g := ⟨_, rfl⟩
  obtain ⟨W2, hW2⟩ : ∃ V, W0.alloc (.cells #[.int .i64 m.From, .int .i64 m.To, .int .i64 m.Term, .bool m.Ask, .int .i64 m.Age] 84) = V := ⟨_, rfl⟩
  have HS2 := Lib.hid ((HS.out.alloc' hgx 84 [.int .i64 m.From, .int .i64 m.To, .int .i64 m.Term, .bool m.Ask, .int .i64 m.Age]).atW hW2)
  rw [hW2, hgx]
  clear hW2 hgx HS
  have HS := Lib.hid HS2.out.tail
  have s0 := HS.out.cell (k := 0) 1 rfl rfl
  have s1 := HS.out.cell (k := 1) 1 rfl rfl
  have b0 := HS.out.cell (k := 0) 2 rfl rfl
  have b1 := HS.out.cell (k := 1) 2 rfl rfl
  have b2 := HS.out.cell (k := 2) 2 rfl rfl
  rw [if_neg (show ¬ (2 : Int) = 4 by decide), if_pos rfl] at HP
  have HF := HP
  obtain ⟨i0, hi, hz0, hz1, hz2⟩ := info_parts Try.infoLetter
  have HS3 := Lib.hid (HS2.out.fresh (g := W2.heap.size) rfl rLetter 84)
  have hcut := Mm.run_cut (P := Try.prog) (t := 28) (s := 5) (by kernel_rfl) (fun W => by kernel_rfl) (g := g2) (n := n1) (c := c1) (j := k + 1) (i := (k : Int) + 1) (by omega) (by omega)
  obtain ⟨AC, hAC⟩ : ∃ AC, (if c1 = k + 1 then (some ⟨g2, 0, none⟩ : Option Addr) else some ⟨g2, (k + 1) * 5, none⟩) = AC := ⟨_, rfl⟩
  rw [hAC] at hcut
  have HAC := Lib.hid hAC
  clear hAC
  have hw1 : IntKind.i64.wrap ((k : Int) + 1) = (k : Int) + 1 := IntWalk.i64_in _ (by omega)
  have HRD : ∀ W, Hid (Mm.SlAt rLetter W W.heap.size p.Letters (some ⟨g2, 0, none⟩) n1 c1 → Mm.SlAt rLetter W W.heap.size (p.Letters.drop (k + 1)) AC (n1 - (k + 1)) (c1 - (k + 1))) := fun W => Lib.hid (fun h => by
    obtain ⟨A', h1, h2⟩ := h.cut (j := k + 1) (by omega) (s := 5) rfl
    rw [HAC.out] at h1
    subst h1
    exact h2)
  have HER : Hid ([] ++ p.Letters.take k ++ p.Letters.drop (k + 1) = p.Letters.eraseIdx k) := Lib.hid (by rw [List.nil_append, List.eraseIdx_eq_take_drop_succ])
  have HLE : Hid ((p.Letters.take k).length = k ∧ (p.Letters.drop (k + 1)).length = n1 - (k + 1)) := Lib.hid (by rw [List.length_take, List.length_drop]; have := HN1.out; have := HK.out; omega)
  go_upto_region 22 with (at_builtin; refine Mm.wpList_appMany rfl (.tmp 87) (.tmp 92) 28 rfl Mm.flatA_letter Mm.flat_letter i0 _ 40 Try.underlying28 hi hz0 hz1 hz2 rfl HS3.out 0 rfl ((HS3.out.rdSl 6 rfl).take (k := k) (by omega)) (m := k) (by simp) (by unfold maxLen; omega) (by omega) rfl rfl ?_; intro A5 c5 f5 w5 hs5; (have HS5 := Lib.hid hs5); clear hs5; (clear s0 s1 b0 b1 b2); (have HSX := Lib.hid HS5.out.tail.tail); (have s0 := HSX.out.cell (k := 0) 1 rfl rfl); (have s1 := HSX.out.cell (k := 1) 1 rfl rfl); (have b0 := HSX.out.cell (k := 0) 2 rfl rfl); (have b1 := HSX.out.cell (k := 1) 2 rfl rfl); (have b2 := HSX.out.cell (k := 2) 2 rfl rfl))
  go_upto_region 23 with (at_builtin; refine Mm.wpList_appMany rfl (.tmp 94) (.tmp 100) 28 rfl Mm.flatA_letter Mm.flat_letter i0 _ 40 Try.underlying28 hi hz0 hz1 hz2 rfl HS5.out 0 rfl ((HRD _).out (HS5.out.rdSl 6 rfl)) (m := n1 - 1) (by simp only [List.nil_append]; have := HLE.out; omega) (by unfold maxLen; omega) (by omega) rfl rfl ?_; intro A6 c6 f6 w6 hs6; rw [HER.out] at hs6; (have HS6 := Lib.hid hs6); clear hs6; (clear s0 s1 b0 b1 b2); (have b1 := HS6.out.cell (k := 1) 4 rfl rfl); (have y1 := HS6.out.frz (k := 1) 4 rfl))
  clear b1 y1 HSX hcut
  obtain ⟨W7, hW7⟩ : ∃ V, w6.setCell ⟨ga, 1, none⟩ (.slice A6 (n1 - 1) c6) = V := ⟨_, rfl⟩
  have HS7 := Lib.hid ((HS6.out.setBlk (k := 1) 4 rfl (.slice A6 (n1 - 1) c6)).atW hW7)
  rw [hW7]
  clear hW7 HS
  have HT := Lib.hid (shutv_Poll (x := Pl.pdrop p (k : Int)) (by have h := HS7.out.sel [5, 0, 7, 4, 3, 2, 1] (by decide) rfl; unfold Pl.pdrop; rw [hkt]; exact h))
  have s0 := HT.out.cell (k := 0) 2 rfl rfl
  have x0 := HT.out.cell (k := 0) 4 rfl rfl
  have x1 := HT.out.cell (k := 1) 4 rfl rfl
  have x2 := HT.out.cell (k := 2) 4 rfl rfl
  have x3 := HT.out.cell (k := 3) 4 rfl rfl
  have x4 := HT.out.cell (k := 4) 4 rfl rfl
  have b0 := HT.out.cell (k := 0) 1 rfl rfl
  have b1 := HT.out.cell (k := 1) 1 rfl rfl
  have b2 := HT.out.cell (k := 2) 1 rfl rfl
  have CS := l8Take_c (Pl.pdrop p (k : Int)) m _ _ W7 (HT.out.at_ 0 rfl) (HT.out.ndat (i := 0) rfl) (HW.out.drop _) HMK.out
  go_wp2_with (go_at_call 84; (with_reducible refine CS.mono ?_); clear CS; clear x0 x1 x2 x3 x4 s0; clear HS7; (rintro e w6 ⟨cq, fq, rfl, hL⟩); (obtain ⟨C0, x0, y0, C1, x1, y1, C2, x2, y2, rfl⟩ := own_formP hL.2.2.2); ((have HS7 := Lib.hid (HT.out.call 0 rfl hL))); (clear hL); (clear b0 b1 b2); (have r0 := HS7.out.cell (k := 0) 3 rfl rfl); (have r1 := HS7.out.cell (k := 1) 3 rfl rfl); (have r2 := HS7.out.cell (k := 2) 3 rfl rfl); (have z0 := HS7.out.frz (k := 0) 3 rfl); (have z1 := HS7.out.frz (k := 1) 3 rfl); (have z2 := HS7.out.frz (k := 2) 3 rfl))
  have HSF := Lib.hid (((HS7.out.setBlk (k := 0) 3 rfl (.slice C0 x0 y0)).setBlk (k := 1) 3 rfl (.slice C1 x1 y1)).setBlk (k := 2) 3 rfl (.slice C2 x2 y2))
  have u0 := HSF.out.cell (k := 0) 3 rfl rfl
  have u1 := HSF.out.cell (k := 1) 3 rfl rfl
  have u2 := HSF.out.cell (k := 2) 3 rfl rfl
  exact bodyPost_ret (v := .tuple #[.agg #[(.slice C0 x0 y0), (.slice C1 x1 y1), (.slice C2 x2 y2)], .bool true]) (by simp [results, Try.results49, go_sem, u0, u1, u2]) rfl ⟨[(.slice C0 x0 y0), (.slice C1 x1 y1), (.slice C2 x2 y2)], _, by rw [HF.out], by rw [HF.out]; exact (HSF.out.sel [0] (by decide) rfl).left⟩
set_option maxRecDepth 100000 in
set_option maxHeartbeats 4000000 in
theorem l8StepLose_c (p : Poll) (kk : Int) (cs : List Value) (fp : List Nat) (w : World) (h : (Mm.tow rPoll p cs fp).holds w) (hnd : fp.Nodup) (hw : Pl.PW p) :
    Calls Try.prog 49 #[.agg cs.toArray, .agg #[.int .i64 3, .int .i64 kk]] w (PVA2 (Pl.pstep p ⟨3, kk⟩) fp w) := by
  obtain ⟨A0, n0, c0, A1, n1, c1, A2, n2, c2, f0, f1, f2, rfl, rfl, hs⟩ := openv_Poll (Mm.SepF.one _ w h hnd)
  obtain ⟨g0, rfl, -, -⟩ := Mm.sl_addr (hs.sl 0 rfl) (by have := hw.n1; omega)
  have hln0 : n0 = p.Nodes.length := by obtain ⟨A', n', c', hv, h1, _⟩ := (hs.sl 0 rfl).form; injection hv with _ h2 _; omega
  have hln1 : n1 = p.Letters.length := by obtain ⟨A', n', c', hv, h1, _⟩ := (hs.sl 1 rfl).form; injection hv with _ h2 _; omega
  have hn5 := hw.n5
  have hl60 := hw.lets
  have hn05 : n0 ≤ 5 := by omega
  have hn160 : n1 ≤ 60 := by omega
  obtain ⟨ga, hga⟩ : ∃ g, w.heap.size = g := ⟨_, rfl⟩
  obtain ⟨gs, hgs⟩ : ∃ g, ga + 1 = g := ⟨_, rfl⟩
  obtain ⟨gc, hgc⟩ : ∃ g, gs + 1 = g := ⟨_, rfl⟩
  obtain ⟨W0, hW0⟩ : ∃ W, ((w.alloc (.cells #[.slice (some ⟨g0, 0, none⟩) n0 c0, .slice A1 n1 c1, .slice A2 n2 c2] 31)).alloc (.cells #[.int .i64 3, .int .i64 kk] 56)).alloc (.cells #[.slice none 0 0, .slice none 0 0, .slice none 0 0] 31) = W := ⟨_, rfl⟩
  have HS := Lib.hid ((((hs.alloc' hga 31 [.slice (some ⟨g0, 0, none⟩) n0 c0, .slice A1 n1 c1, .slice A2 n2 c2]).alloc' (g := gs) (by rw [Mm.sz1, hga, hgs]) 56 [.int .i64 3, .int .i64 kk]).alloc' (g := gc) (by rw [Mm.sz2, hga]; omega) 31 zPoll).atW hW0)
  have HW := Lib.hid hw
  have HN0 := Lib.hid hln0
  have HN1 := Lib.hid hln1
  clear h hs hnd hw hln0 hln1
  go_enter Try.func49, Try.ntmps49
  go_upto_region 1 with fail
  clear hW0 hga hgs hgc
  have s0 := HS.out.cell (k := 0) 1 rfl rfl
  have s1 := HS.out.cell (k := 1) 1 rfl rfl
  have b0 := HS.out.cell (k := 0) 2 rfl rfl
  have b1 := HS.out.cell (k := 1) 2 rfl rfl
  have b2 := HS.out.cell (k := 2) 2 rfl rfl
  have HP := Lib.hid (Pl.pstepL p 3 kk (by omega))
  by_cases hin : 0 ≤ kk ∧ kk < (n1 : Int)
  rotate_left
  · have HF : Hid (Pl.pstep p ⟨3, kk⟩ = (p, false)) := Lib.hid (by rw [HP.out, if_neg (fun hh => hin ⟨hh.1, by have := hh.2; have := HN1.out; omega⟩)])
    by_cases h0 : kk < 0
    · clear hin
      have r0 := HS.out.cell (k := 0) 0 rfl rfl
      have r1 := HS.out.cell (k := 1) 0 rfl rfl
      have r2 := HS.out.cell (k := 2) 0 rfl rfl
      have z0 := HS.out.frz (k := 0) 0 rfl
      have z1 := HS.out.frz (k := 1) 0 rfl
      have z2 := HS.out.frz (k := 2) 0 rfl
      go_wp2
      have HSF := Lib.hid (((HS.out.setBlk (k := 0) 0 rfl (.slice (some ⟨g0, 0, none⟩) n0 c0)).setBlk (k := 1) 0 rfl (.slice A1 n1 c1)).setBlk (k := 2) 0 rfl (.slice A2 n2 c2))
      have u0 := HSF.out.cell (k := 0) 0 rfl rfl
      have u1 := HSF.out.cell (k := 1) 0 rfl rfl
      have u2 := HSF.out.cell (k := 2) 0 rfl rfl
      exact bodyPost_ret (v := .tuple #[.agg #[(.slice (some ⟨g0, 0, none⟩) n0 c0), (.slice A1 n1 c1), (.slice A2 n2 c2)], .bool false]) (by simp [results, Try.results49, go_sem, u0, u1, u2]) rfl ⟨[(.slice (some ⟨g0, 0, none⟩) n0 c0), (.slice A1 n1 c1), (.slice A2 n2 c2)], _, by rw [HF.out], by rw [HF.out]; exact (shutv_Poll (x := p) (HSF.out.sel [3, 4, 5] (by decide) rfl)).left⟩
    · have h1 : (n1 : Int) ≤ kk := by omega
      clear hin
      have r0 := HS.out.cell (k := 0) 0 rfl rfl
      have r1 := HS.out.cell (k := 1) 0 rfl rfl
      have r2 := HS.out.cell (k := 2) 0 rfl rfl
      have z0 := HS.out.frz (k := 0) 0 rfl
      have z1 := HS.out.frz (k := 1) 0 rfl
      have z2 := HS.out.frz (k := 2) 0 rfl
      go_wp2
      have HSF := Lib.hid (((HS.out.setBlk (k := 0) 0 rfl (.slice (some ⟨g0, 0, none⟩) n0 c0)).setBlk (k := 1) 0 rfl (.slice A1 n1 c1)).setBlk (k := 2) 0 rfl (.slice A2 n2 c2))
      have u0 := HSF.out.cell (k := 0) 0 rfl rfl
      have u1 := HSF.out.cell (k := 1) 0 rfl rfl
      have u2 := HSF.out.cell (k := 2) 0 rfl rfl
      exact bodyPost_ret (v := .tuple #[.agg #[(.slice (some ⟨g0, 0, none⟩) n0 c0), (.slice A1 n1 c1), (.slice A2 n2 c2)], .bool false]) (by simp [results, Try.results49, go_sem, u0, u1, u2]) rfl ⟨[(.slice (some ⟨g0, 0, none⟩) n0 c0), (.slice A1 n1 c1), (.slice A2 n2 c2)], _, by rw [HF.out], by rw [HF.out]; exact (shutv_Poll (x := p) (HSF.out.sel [3, 4, 5] (by decide) rfl)).left⟩
  obtain ⟨k, rfl⟩ : ∃ k : Nat, kk = k := ⟨kk.toNat, by omega⟩
  have hk : k < p.Letters.length := by have := HN1.out; omega
  have hkn : (k : Int) < (n1 : Nat) := by omega
  have hkn' : ¬ (n1 : Int) ≤ (k : Nat) := by omega
  have hk0 : (0 : Int) ≤ (k : Nat) := by omega
  have hk0' : ¬ ((k : Nat) : Int) < 0 := by omega
  have hkt : ((k : Nat) : Int).toNat = k := by omega
  rw [if_pos ⟨hk0, by omega⟩] at HP
  have hx := HW.out.lat (k := (k : Int)) (by omega) (by omega)
  have hmk := HW.out.lok (k := (k : Int)) (by omega) (by omega)
  rw [hkt] at hx
  obtain ⟨m, hm⟩ : ∃ m, Pl.letAt p (k : Int) = m := ⟨_, rfl⟩
  rw [hm] at hx hmk HP
  have HX := Lib.hid hx
  have HMK := Lib.hid hmk
  have HK := Lib.hid hk
  obtain ⟨g2, rfl, -, -⟩ := Mm.sl_addr (HS.out.sl 4 rfl) (by omega)
  have HMI := Lib.hid (Mm.letter_inv (HS.out.sl 4 rfl) HX.out)
  have hcap : n1 ≤ c1 ∧ c1 ≤ maxLen := by obtain ⟨A', n', c', hv, h1, h2, h3, _⟩ := (HS.out.sl 4 rfl).form; injection hv with _ h4 h5; omega
  unfold maxLen at hcap
  clear hin hk hx hmk hm
  obtain ⟨q0, q1, q2, q3, q4⟩ := rLetter_ocell (HS.out.sl 4 rfl) (HS.out.ndat (i := 4) rfl) HX.out
  go_upto_region 17 with fail
  clear q0 q1 q2 q3 q4
  clear s0 s1 b0 b1 b2
  obtain ⟨gx, hgx⟩ : ∃ g, W0.heap.size = g := ⟨_, rfl⟩
  obtain ⟨W2, hW2⟩ : ∃ V, W0.alloc (.cells #[.int .i64 m.From, .int .i64 m.To, .int .i64 m.Term, .bool m.Ask, .int .i64 m.Age] 84) = V := ⟨_, rfl⟩
  have HS2 := Lib.hid ((HS.out.alloc' hgx 84 [.int .i64 m.From, .int .i64 m.To, .int .i64 m.Term, .bool m.Ask, .int .i64 m.Age]).atW hW2)
  rw [hW2, hgx]
  clear hW2 hgx HS
  have HS := Lib.hid HS2.out.tail
  have s0 := HS.out.cell (k := 0) 1 rfl rfl
  have s1 := HS.out.cell (k := 1) 1 rfl rfl
  have b0 := HS.out.cell (k := 0) 2 rfl rfl
  have b1 := HS.out.cell (k := 1) 2 rfl rfl
  have b2 := HS.out.cell (k := 2) 2 rfl rfl
  rw [if_neg (show ¬ (3 : Int) = 4 by decide), if_neg (show ¬ (3 : Int) = 2 by decide)] at HP
  have HF := HP
  obtain ⟨i0, hi, hz0, hz1, hz2⟩ := info_parts Try.infoLetter
  have HS3 := Lib.hid (HS2.out.fresh (g := W2.heap.size) rfl rLetter 84)
  have hcut := Mm.run_cut (P := Try.prog) (t := 28) (s := 5) (by kernel_rfl) (fun W => by kernel_rfl) (g := g2) (n := n1) (c := c1) (j := k + 1) (i := (k : Int) + 1) (by omega) (by omega)
  obtain ⟨AC, hAC⟩ : ∃ AC, (if c1 = k + 1 then (some ⟨g2, 0, none⟩ : Option Addr) else some ⟨g2, (k + 1) * 5, none⟩) = AC := ⟨_, rfl⟩
  rw [hAC] at hcut
  have HAC := Lib.hid hAC
  clear hAC
  have hw1 : IntKind.i64.wrap ((k : Int) + 1) = (k : Int) + 1 := IntWalk.i64_in _ (by omega)
  have HRD : ∀ W, Hid (Mm.SlAt rLetter W W.heap.size p.Letters (some ⟨g2, 0, none⟩) n1 c1 → Mm.SlAt rLetter W W.heap.size (p.Letters.drop (k + 1)) AC (n1 - (k + 1)) (c1 - (k + 1))) := fun W => Lib.hid (fun h => by
    obtain ⟨A', h1, h2⟩ := h.cut (j := k + 1) (by omega) (s := 5) rfl
    rw [HAC.out] at h1
    subst h1
    exact h2)
  have HER : Hid ([] ++ p.Letters.take k ++ p.Letters.drop (k + 1) = p.Letters.eraseIdx k) := Lib.hid (by rw [List.nil_append, List.eraseIdx_eq_take_drop_succ])
  have HLE : Hid ((p.Letters.take k).length = k ∧ (p.Letters.drop (k + 1)).length = n1 - (k + 1)) := Lib.hid (by rw [List.length_take, List.length_drop]; have := HN1.out; have := HK.out; omega)
  go_upto_region 22 with (at_builtin; refine Mm.wpList_appMany rfl (.tmp 87) (.tmp 92) 28 rfl Mm.flatA_letter Mm.flat_letter i0 _ 40 Try.underlying28 hi hz0 hz1 hz2 rfl HS3.out 0 rfl ((HS3.out.rdSl 6 rfl).take (k := k) (by omega)) (m := k) (by simp) (by unfold maxLen; omega) (by omega) rfl rfl ?_; intro A5 c5 f5 w5 hs5; (have HS5 := Lib.hid hs5); clear hs5; (clear s0 s1 b0 b1 b2); (have HSX := Lib.hid HS5.out.tail.tail); (have s0 := HSX.out.cell (k := 0) 1 rfl rfl); (have s1 := HSX.out.cell (k := 1) 1 rfl rfl); (have b0 := HSX.out.cell (k := 0) 2 rfl rfl); (have b1 := HSX.out.cell (k := 1) 2 rfl rfl); (have b2 := HSX.out.cell (k := 2) 2 rfl rfl))
  go_upto_region 23 with (at_builtin; refine Mm.wpList_appMany rfl (.tmp 94) (.tmp 100) 28 rfl Mm.flatA_letter Mm.flat_letter i0 _ 40 Try.underlying28 hi hz0 hz1 hz2 rfl HS5.out 0 rfl ((HRD _).out (HS5.out.rdSl 6 rfl)) (m := n1 - 1) (by simp only [List.nil_append]; have := HLE.out; omega) (by unfold maxLen; omega) (by omega) rfl rfl ?_; intro A6 c6 f6 w6 hs6; rw [HER.out] at hs6; (have HS6 := Lib.hid hs6); clear hs6; (clear s0 s1 b0 b1 b2); (have b1 := HS6.out.cell (k := 1) 4 rfl rfl); (have y1 := HS6.out.frz (k := 1) 4 rfl))
  clear b1 y1 HSX hcut
  obtain ⟨W7, hW7⟩ : ∃ V, w6.setCell ⟨ga, 1, none⟩ (.slice A6 (n1 - 1) c6) = V := ⟨_, rfl⟩
  have HS7 := Lib.hid ((HS6.out.setBlk (k := 1) 4 rfl (.slice A6 (n1 - 1) c6)).atW hW7)
  rw [hW7]
  clear hW7 HS
  have HT := Lib.hid (shutv_Poll (x := Pl.pdrop p (k : Int)) (by have h := HS7.out.sel [5, 0, 7, 4, 3, 2, 1] (by decide) rfl; unfold Pl.pdrop; rw [hkt]; exact h))
  have s0 := HT.out.cell (k := 0) 2 rfl rfl
  have x0 := HT.out.cell (k := 0) 4 rfl rfl
  have x1 := HT.out.cell (k := 1) 4 rfl rfl
  have x2 := HT.out.cell (k := 2) 4 rfl rfl
  have x3 := HT.out.cell (k := 3) 4 rfl rfl
  have x4 := HT.out.cell (k := 4) 4 rfl rfl
  have b0 := HT.out.cell (k := 0) 1 rfl rfl
  have b1 := HT.out.cell (k := 1) 1 rfl rfl
  have b2 := HT.out.cell (k := 2) 1 rfl rfl
  have r0 := HT.out.cell (k := 0) 3 rfl rfl
  have r1 := HT.out.cell (k := 1) 3 rfl rfl
  have r2 := HT.out.cell (k := 2) 3 rfl rfl
  have z0 := HT.out.frz (k := 0) 3 rfl
  have z1 := HT.out.frz (k := 1) 3 rfl
  have z2 := HT.out.frz (k := 2) 3 rfl
  go_wp2
  have HSF := Lib.hid (((HT.out.setBlk (k := 0) 3 rfl (.slice (some ⟨g0, 0, none⟩) n0 c0)).setBlk (k := 1) 3 rfl (.slice A6 (n1 - 1) c6)).setBlk (k := 2) 3 rfl (.slice A2 n2 c2))
  have u0 := HSF.out.cell (k := 0) 3 rfl rfl
  have u1 := HSF.out.cell (k := 1) 3 rfl rfl
  have u2 := HSF.out.cell (k := 2) 3 rfl rfl
  exact bodyPost_ret (v := .tuple #[.agg #[(.slice (some ⟨g0, 0, none⟩) n0 c0), (.slice A6 (n1 - 1) c6), (.slice A2 n2 c2)], .bool true]) (by simp [results, Try.results49, go_sem, u0, u1, u2]) rfl ⟨[(.slice (some ⟨g0, 0, none⟩) n0 c0), (.slice A6 (n1 - 1) c6), (.slice A2 n2 c2)], _, by rw [HF.out], by rw [HF.out]; exact (HSF.out.sel [0] (by decide) rfl).left⟩
theorem l8Step_c (p : Poll) (s : VoteStep) (cs : List Value) (fp : List Nat) (w : World) (h : (Mm.tow rPoll p cs fp).holds w) (hnd : fp.Nodup) (hw : Pl.PW p) :
    Calls Try.prog 49 #[.agg cs.toArray, .agg #[.int .i64 s.Kind, .int .i64 s.K]] w (PVA2 (Pl.pstep p s) fp w) := by
  obtain ⟨kd, kk⟩ := s
  by_cases h1 : kd = 1
  · subst h1; exact l8StepStand_c p kk cs fp w h hnd hw
  by_cases h2 : kd = 2
  · subst h2; exact l8StepTake_c p kk cs fp w h hnd hw
  by_cases h3 : kd = 3
  · subst h3; exact l8StepLose_c p kk cs fp w h hnd hw
  by_cases h4 : kd = 4
  · subst h4; exact l8StepTwice_c p kk cs fp w h hnd hw
  by_cases h5 : kd = 5
  · subst h5; exact l8StepStop_c p kk cs fp w h hnd hw
  exact l8StepNone_c p kd kk cs fp w h hnd hw (by omega)
end Go.Proofs.Ytkhchfbpmmiopaa

/-
  Contracts: an election played, both sides (chapter 8). No conditions.
-/
namespace Go.Proofs.Ytkhchfbpmmiopaa
open Go.RowKit
attribute [local go_sem] und_cell cha_cell World.cell?_alloc_some
namespace Mm
theorem SepF.toPtrP {F : List Nat} {w0 wr : World} {ts : List Thing} {α : Type} {R : Rep α} {T : TypeId} {g : Nat} {x : α} {cs : List Value} {fp : List Nat} (h : SepF F w0 wr (tblk g T cs :: tow R x cs fp :: ts)) : SepF F w0 wr (tptr R T g x fp :: ts) :=
  h.conv (by simp [tblk, tow, tptr]) (List.forall_mem_cons.2 ⟨⟨cs, h.at_ 0 rfl, h.at_ 1 rfl⟩, fun u hu => h.hold u (List.mem_cons_of_mem _ (List.mem_cons_of_mem _ hu))⟩)
theorem own_boolP {w : World} {b : Bool} : bool.own w b [.bool b] [] := ⟨rfl, trivial, rfl⟩
end Mm
def Pl.playPoll (ages : List Int) (l : List VoteStep) : Poll × List Bool × Bool :=
  if Pl.agesOk ages = true ∧ l.length ≤ 200 then ((Pl.playP (Pl.newPo ages) l).1, (Pl.playP (Pl.newPo ages) l).2, true) else (Pl.zPo, [], false)
def PlayAnsP (r : Poll × List Bool × Bool) (w : World) (e : Ending) (w' : World) : Prop :=
  ∃ cs A n c fp0 fp1, e = .returned (.tuple #[.agg cs.toArray, .slice A n c, .bool r.2.2]) ∧ Mm.SepF [] w w' [Mm.tow rPoll r.1 cs fp0, Mm.tsl Mm.bool 4 r.2.1 (.slice A n c) fp1]
theorem playNoP {w w' : World} (h : Below w.heap.size w w') : PlayAnsP (Pl.zPo, [], false) w (.returned (.tuple #[.agg zPoll.toArray, .slice none 0 0, .bool false])) w' :=
  ⟨zPoll, none, 0, 0, [], [], rfl, ⟨Mm.Chg.of_below h, by simp [Mm.tow, Mm.tsl], by simp [Mm.tow, Mm.tsl], List.forall_mem_cons.2 ⟨zPo_own, List.forall_mem_cons.2 ⟨Mm.SlOwn.nil, fun u hu => by cases hu⟩⟩⟩⟩
theorem Try.infoBoolP : (Try.prog.info? 4).map (fun i => (i.zero, i.size, i.bytes)) = some (some (.bool false), 1, 1) := by kernel_rfl
theorem Pl.playP_pw {ages : List Int} (h : Pl.agesOk ages = true) (l : List VoteStep) : Pl.PW (Pl.playP (Pl.newPo ages) l).1 ∧ (Pl.playP (Pl.newPo ages) l).2.length = l.length := by
  obtain ⟨⟨V, hV⟩, h2⟩ := Pl.playP_book (Pl.agesOk_book h) _ l rfl
  exact ⟨hV.pw, h2⟩
set_option maxRecDepth 100000 in
set_option maxHeartbeats 2000000 in
theorem implPlayPoll_c (ages : List Int) (l : List VoteStep) (A' : Option Addr) (n' c' : Nat) (A : Option Addr) (n c : Nat) (w : World) (B : Nat) (ha : Mm.SlAt Mm.int w B ages A' n' c') (hl : Mm.SlAt rVoteStep w B l A n c) (hB : B ≤ w.heap.size) :
    Calls Try.prog 7 #[.slice A' n' c', .slice A n c] w (PlayAnsP (Pl.playPoll ages l) w) := by
  have hn : n ≤ maxLen := Nat.le_trans hl.2.1 hl.2.2.1
  have hn' : n' ≤ maxLen := Nat.le_trans ha.2.1 ha.2.2.1
  have hlen := hl.1
  have HL := Lib.hid hl
  have HA := Lib.hid ha
  have HOK : Hid (Pl.agesOk ages = (Pl.isIn (n' : Int) 1 5 && ages.all Pl.ageOk)) := Lib.hid (by unfold Pl.agesOk; rw [ha.1])
  clear hl ha
  unfold maxLen at hn hn'
  obtain ⟨gz, hgz⟩ : ∃ g, w.heap.size = g := ⟨_, rfl⟩
  obtain ⟨W0, hW0⟩ : ∃ V, w.alloc (.cells #[.slice none 0 0, .slice none 0 0, .slice none 0 0] 31) = V := ⟨_, rfl⟩
  have KS := Lib.hid (((Mm.SepF.start w).alloc' hgz 31 zPoll).atW hW0)
  have CA := agesPlay_c ages A' n' c' W0 B (HA.out.keep fun b hb => KS.out.bel0.block b (by omega)) (Nat.le_trans hB KS.out.bel0.size)
  rw [Pl.ages_any] at CA
  go_enter Try.func7, Try.ntmps7
  go_upto_region 1 with fail
  have HGZ := Lib.hid hgz
  clear hW0 hgz
  cases h1 : Pl.isIn (n' : Int) 1 5 with
  | false =>
    have HF : Hid (Pl.playPoll ages l = (Pl.zPo, [], false)) := Lib.hid (if_neg (fun hh => by have := hh.1; rw [HOK.out, h1] at this; cases this))
    have r0 := KS.out.cell (k := 0) 0 rfl rfl
    have r1 := KS.out.cell (k := 1) 0 rfl rfl
    have r2 := KS.out.cell (k := 2) 0 rfl rfl
    have z0 := KS.out.frz (k := 0) 0 rfl
    have z1 := KS.out.frz (k := 1) 0 rfl
    have z2 := KS.out.frz (k := 2) 0 rfl
    go_wp2_with (go_at_call 43; (with_reducible refine (within_c _ _ _ _).mono ?_); rintro e w5 ⟨rfl, rfl⟩)
    rw [HF.out]
    have HSF := Lib.hid (((KS.out.setBlk (k := 0) 0 rfl (.slice none 0 0)).setBlk (k := 1) 0 rfl (.slice none 0 0)).setBlk (k := 2) 0 rfl (.slice none 0 0))
    have u0 := HSF.out.cell (k := 0) 0 rfl rfl
    have u1 := HSF.out.cell (k := 1) 0 rfl rfl
    have u2 := HSF.out.cell (k := 2) 0 rfl rfl
    exact bodyPost_ret (v := .tuple #[.agg zPoll.toArray, .slice none 0 0, .bool false]) (by simp [results, Try.results7, go_sem, zPoll, u0, u1, u2]) rfl (playNoP HSF.out.bel0)
  | true =>
  have hn15 := Pl.isIn_iff.1 h1
  cases h2 : ages.all Pl.ageOk with
  | false =>
    rw [h2] at CA
    have HF : Hid (Pl.playPoll ages l = (Pl.zPo, [], false)) := Lib.hid (if_neg (fun hh => by have := hh.1; rw [HOK.out, h1, h2] at this; cases this))
    go_wp2_with first
      | (go_at_call 43; (with_reducible refine (within_c _ _ _ _).mono ?_); rintro e w5 ⟨rfl, rfl⟩)
      | (go_at_call 44; (with_reducible refine CA.mono ?_); clear CA; rintro e w6 ⟨rfl, hb6⟩; (replace KS := Lib.hid (KS.out.step hb6)); clear hb6; (have r0 := KS.out.cell (k := 0) 0 rfl rfl); (have r1 := KS.out.cell (k := 1) 0 rfl rfl); (have r2 := KS.out.cell (k := 2) 0 rfl rfl); (have z0 := KS.out.frz (k := 0) 0 rfl); (have z1 := KS.out.frz (k := 1) 0 rfl); (have z2 := KS.out.frz (k := 2) 0 rfl))
    rw [HF.out]
    have HSF := Lib.hid (((KS.out.setBlk (k := 0) 0 rfl (.slice none 0 0)).setBlk (k := 1) 0 rfl (.slice none 0 0)).setBlk (k := 2) 0 rfl (.slice none 0 0))
    have u0 := HSF.out.cell (k := 0) 0 rfl rfl
    have u1 := HSF.out.cell (k := 1) 0 rfl rfl
    have u2 := HSF.out.cell (k := 2) 0 rfl rfl
    exact bodyPost_ret (v := .tuple #[.agg zPoll.toArray, .slice none 0 0, .bool false]) (by simp [results, Try.results7, go_sem, zPoll, u0, u1, u2]) rfl (playNoP HSF.out.bel0)
  | true =>
  rw [h2] at CA
  by_cases h3 : n ≤ 200
  rotate_left
  · have HF : Hid (Pl.playPoll ages l = (Pl.zPo, [], false)) := Lib.hid (if_neg (fun hh => by have := hh.2; omega))
    have fa : (200 : Int) < (n : Nat) := by omega
    go_wp2_with first
      | (go_at_call 43; (with_reducible refine (within_c _ _ _ _).mono ?_); rintro e w5 ⟨rfl, rfl⟩)
      | (go_at_call 44; (with_reducible refine CA.mono ?_); clear CA; rintro e w6 ⟨rfl, hb6⟩; (replace KS := Lib.hid (KS.out.step hb6)); clear hb6; (have r0 := KS.out.cell (k := 0) 0 rfl rfl); (have r1 := KS.out.cell (k := 1) 0 rfl rfl); (have r2 := KS.out.cell (k := 2) 0 rfl rfl); (have z0 := KS.out.frz (k := 0) 0 rfl); (have z1 := KS.out.frz (k := 1) 0 rfl); (have z2 := KS.out.frz (k := 2) 0 rfl))
    rw [HF.out]
    have HSF := Lib.hid (((KS.out.setBlk (k := 0) 0 rfl (.slice none 0 0)).setBlk (k := 1) 0 rfl (.slice none 0 0)).setBlk (k := 2) 0 rfl (.slice none 0 0))
    have u0 := HSF.out.cell (k := 0) 0 rfl rfl
    have u1 := HSF.out.cell (k := 1) 0 rfl rfl
    have u2 := HSF.out.cell (k := 2) 0 rfl rfl
    exact bodyPost_ret (v := .tuple #[.agg zPoll.toArray, .slice none 0 0, .bool false]) (by simp [results, Try.results7, go_sem, zPoll, u0, u1, u2]) rfl (playNoP HSF.out.bel0)
  have hok : Pl.agesOk ages = true := by rw [HOK.out, h1, h2]; rfl
  have HF : Hid (Pl.playPoll ages l = ((Pl.playP (Pl.newPo ages) l).1, (Pl.playP (Pl.newPo ages) l).2, true)) := Lib.hid (if_pos ⟨hok, by omega⟩)
  have fa : ¬ (200 : Int) < (n : Nat) := by omega
  have HPW := fun l => Lib.hid (Pl.playP_pw hok l)
  have HLN := Lib.hid hlen
  have HBR := Lib.hid hB
  have hbw0 := KS.out.bel0
  have CN := fun W (hb : Below W0.heap.size W0 W) => newPoll_c ages A' n' c' W B (HA.out.keep fun b hb' => (hb.block b (by have := hbw0.size; omega)).trans (hbw0.block b (by omega))) (Nat.le_trans hB (Nat.le_trans hbw0.size hb.size)) (by omega)
  have HCN := Lib.hid CN
  clear CN hok hlen hbw0
  obtain ⟨i0, hi, hz0, hz1, hz2⟩ := info_parts Try.infoBoolP
  go_upto_region 4 with first
    | (go_at_call 43; (with_reducible refine (within_c _ _ _ _).mono ?_); rintro e w5 ⟨rfl, rfl⟩)
    | (go_at_call 44; (with_reducible refine CA.mono ?_); clear CA; rintro e w6 ⟨rfl, hb6⟩; (replace KS := Lib.hid (KS.out.step hb6)); (have CN := HCN.out w6 hb6); clear hb6 HCN)
    | (go_at_call 47; (with_reducible refine CN.mono ?_); clear CN; rintro e w1 ⟨cs1, fp1, rfl, ho, hnd, hnew, hb⟩; obtain ⟨B0, m0, d0, B1, m1, d1, B2, m2, d2, rfl⟩ := own_formP ho; (have KS1 := Lib.hid (KS.out.add hb (t := Mm.tow rPoll (Pl.newPo ages) _ _) ho hnd hnew)); clear ho hnd hnew hb)
  clear h1 h2 hn15
  obtain ⟨gt, hgt⟩ : ∃ gt, w1.heap.size = gt := ⟨_, rfl⟩
  have KS2 := Lib.hid (((KS1.out.alloc' hgt 31 [.slice B0 m0 d0, .slice B1 m1 d1, .slice B2 m2 d2]).toPtrP).add (Below.refl _ _) (t := Mm.tsl Mm.bool 4 [] (.slice none 0 0) []) Mm.SlOwn.nil List.nodup_nil (fun b hb => by cases hb))
  rw [hgt]
  clear hgt KS KS1 hB
  go_wp2
  go_loopg [8, 29] n (fun g d i wr => ∃ (k : Nat) (A2 : Option Addr) (c2 : Nat) (fpt fpd : List Nat), n - k ≤ g ∧ k ≤ n ∧ d = .slice A2 k c2 ∧ i = .int .i64 k ∧ Hid (Mm.SepF [] w wr [Mm.tsl Mm.bool 4 (Pl.playP (Pl.newPo ages) (l.take k)).2 (.slice A2 k c2) fpd, Mm.tptr rPoll 31 gt (Pl.playP (Pl.newPo ages) (l.take k)).1 fpt, Mm.tblk gz 31 zPoll]))
  case atStart => exact ⟨0, none, 0, _, _, Nat.le_refl _, Nat.zero_le _, rfl, rfl, KS2.out⟩
  case round =>
    obtain ⟨k, A2, c2, fpt, fpd, hgk, hk', rfl, rfl, HS⟩ := hrel
    have hbel := HS.out.bel0
    have hwf := HPW (l.take k)
    have hlk := List.length_take_of_le (l := l) (i := k) (by rw [HLN.out]; omega)
    have HWF := Lib.hid hwf.out.1
    have HPL := Lib.hid (hwf.out.2.trans hlk)
    clear hwf hlk
    obtain ⟨p, hp⟩ : ∃ p, Pl.playP (Pl.newPo ages) (l.take k) = p := ⟨_, rfl⟩
    rw [hp] at HS HWF HPL
    have HP := Lib.hid hp
    clear hp KS2
    by_cases hlt : k < n
    · obtain ⟨s, b0, off, hx, rfl, hb, g0', g1', e0, e1⟩ := rVoteStep_get HL.out hlt
      have HN : Hid (Pl.playP (Pl.newPo ages) (l.take (k + 1)) = ((Pl.pstep p.1 s).1, p.2 ++ [(Pl.pstep p.1 s).2])) := by
        show _ = _
        rw [Mm.take_succ_some hx, Pl.playP_snoc, HP.out]
      have hlt' : ((k : Nat) : Int) < ((n : Nat) : Int) := by omega
      have hb0 : b0 < w.heap.size := by have := HBR.out; omega
      replace e0 := below_some hbel e0
      replace e1 := below_some hbel e1
      have HS2 := Lib.hid (HS.out.alloc' rfl 56 [.int .i64 s.Kind, .int .i64 s.K])
      clear hx g0' g1'
      go_wp2_with (first
        | (go_at_call 48; refine (step8_c p.1 s gt fpt _ (HS2.out.at_ 2 rfl) (HS2.out.ndat (i := 2) rfl) HWF.out).mono ?_; rintro e w9 ⟨rfl, fp9, hL⟩; (have HS3 := Lib.hid (HS2.out.call 2 rfl hL)); clear hL)
        | (at_builtin; refine Mm.app_list HS3.out 1 rfl rfl (.tmp 33) (.tmp 36) 32 rfl i0 _ 1 Try.underlying32 hi hz0 hz1 hz2 rfl (by decide) rfl rfl (fun W => Mm.own_boolP) HPL.out (by unfold maxLen; omega) (by omega) ?_; intro g cap w' fp' hs; (have HS4 := Lib.hid hs); clear hs))
      go_roundg (n - (k + 1))
      case measure => omega
      case rel => exact ⟨k + 1, _, cap, fp9, fp', Nat.le_refl _, by omega, rfl, by go_num, by rw [HN.out]; exact HS4.out.sel [1, 2, 3] (by decide) rfl⟩
    · obtain rfl : k = n := by omega
      have HE : Hid (l.take k = l) := List.take_of_length_le (by rw [HLN.out]; exact Nat.le_refl _)
      have hlt' : ¬ ((k : Nat) : Int) < ((k : Nat) : Int) := by omega
      rw [HE.out] at HP
      rw [HP.out] at HF
      obtain ⟨C0, x0, y0, C1, x1, y1, C2, x2, y2, f0, f1', f2, rfl, hs⟩ := open_Poll (HS.out.sel [1, 0, 2] (by decide) rfl)
      have HSR := Lib.hid hs
      clear hs
      have b0 := HSR.out.cell (k := 0) 0 rfl rfl
      have b1 := HSR.out.cell (k := 1) 0 rfl rfl
      have b2 := HSR.out.cell (k := 2) 0 rfl rfl
      have r0 := HSR.out.cell (k := 0) 5 rfl rfl
      have r1 := HSR.out.cell (k := 1) 5 rfl rfl
      have r2 := HSR.out.cell (k := 2) 5 rfl rfl
      have z0 := HSR.out.frz (k := 0) 5 rfl
      have z1 := HSR.out.frz (k := 1) 5 rfl
      have z2 := HSR.out.frz (k := 2) 5 rfl
      go_wp2
      have HSF := Lib.hid (((HSR.out.setBlk (k := 0) 5 rfl (.slice C0 x0 y0)).setBlk (k := 1) 5 rfl (.slice C1 x1 y1)).setBlk (k := 2) 5 rfl (.slice C2 x2 y2))
      have u0 := HSF.out.cell (k := 0) 5 rfl rfl
      have u1 := HSF.out.cell (k := 1) 5 rfl rfl
      have u2 := HSF.out.cell (k := 2) 5 rfl rfl
      exact bodyPost_ret (v := .tuple #[.agg #[.slice C0 x0 y0, .slice C1 x1 y1, .slice C2 x2 y2], .slice A2 k c2, .bool true]) (by simp [results, Try.results7, go_sem, u0, u1, u2]) rfl ⟨[.slice C0 x0 y0, .slice C1 x1 y1, .slice C2 x2 y2], A2, k, c2, _, _, by rw [HF.out], by rw [HF.out]; exact shutv_Poll (x := p.1) (HSF.out.sel [1, 2, 3, 4] (by decide) rfl)⟩
end Go.Proofs.Ytkhchfbpmmiopaa
