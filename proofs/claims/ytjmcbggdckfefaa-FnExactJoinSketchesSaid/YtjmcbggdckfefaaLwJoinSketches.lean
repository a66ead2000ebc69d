/-
  The walk of the law on JoinSketches. No conditions.
-/
import Derived.Test.YtjmcbggdckfefaaWp
import Derived.Test.YtjmcbggdckfefaaHe
import Derived.Test.YtjmcbggdckfefaaHs
import Derived.Test.YtjmcbggdckfefaaHt
import Derived.Test.YtjmcbggdckfefaaHm
import Derived.Test.YtjmcbggdckfefaaHn
import Derived.Test.YtjmcbggdckfefaaHh
import Derived.Deep.DeepCutAuto
namespace Go.Proofs.Ytjmcbggdckfefaa
open Go.RowKit
theorem nin_of {W : World} {g : Nat} {t : TypeId} {cs : List Value} {fp : List Nat} (hk : Mm.Blk W g t cs) (hf : ∀ b, b ∈ fp → W.heap.size ≤ b) : ¬ g ∈ fp := fun hm => by have := hk.lt; have := hf _ hm; omega
theorem box_late {α : Type} {R : Mm.Rep α} {V y : World} {B g : Nat} {t : TypeId} {z0 z1 u0 u1 : Value} {x : α} {fp : List Nat} (hk : Mm.Blk V g t [z0, z1]) (ho : R.own V x [u0, u1] fp) (ng : ¬ g ∈ fp) (hd : Below B y V) (hg : B ≤ g) :
    Mm.Blk ((V.setCell ⟨g, 0, none⟩ u0).setCell ⟨g, 1, none⟩ u1) g t [u0, u1] ∧ R.at_ ((V.setCell ⟨g, 0, none⟩ u0).setCell ⟨g, 1, none⟩ u1) ((V.setCell ⟨g, 0, none⟩ u0).setCell ⟨g, 1, none⟩ u1).heap.size x [u0, u1] ∧ B ≤ g ∧ Below B y ((V.setCell ⟨g, 0, none⟩ u0).setCell ⟨g, 1, none⟩ u1) := by
  have ho1 : R.own (V.setCell ⟨g, 0, none⟩ u0) x [u0, u1] fp := R.okeep ho fun b hb => Below.heap_setCell _ _ _ _ (fun e => ng (by have : b = g := e; rw [← this]; exact hb))
  have ho' : R.own ((V.setCell ⟨g, 0, none⟩ u0).setCell ⟨g, 1, none⟩ u1) x [u0, u1] fp := R.okeep ho1 fun b hb => Below.heap_setCell _ _ _ _ (fun e => ng (by have : b = g := e; rw [← this]; exact hb))
  exact ⟨(hk.set_ 0 u0).set_ 1 u1, R.weak ho' (R.olt ho'), hg, (hd.setCell hg _).setCell hg _⟩
theorem box_now {α : Type} {R : Mm.Rep α} {V y : World} {B : Nat} {t : TypeId} {u0 u1 : Value} {x : α} {fp : List Nat} (ho : R.own V x [u0, u1] fp) (hd : Below B y V) (hg : B ≤ V.heap.size) :
    Mm.Blk (V.alloc (.cells #[u0, u1] t)) V.heap.size t [u0, u1] ∧ R.at_ (V.alloc (.cells #[u0, u1] t)) (V.alloc (.cells #[u0, u1] t)).heap.size x [u0, u1] ∧ B ≤ V.heap.size ∧ Below B y (V.alloc (.cells #[u0, u1] t)) := by
  have ho' : R.own (V.alloc (.cells #[u0, u1] t)) x [u0, u1] fp := R.okeep ho fun b hb => Below.heap_alloc V _ b (R.olt ho b hb)
  exact ⟨Mm.Blk.new V t [u0, u1], R.weak ho' (R.olt ho'), hg, hd.alloc hg _⟩
theorem cntL_leM {α : Type} {f : α → Int} {c : Int} : ∀ l : List α, (∀ x, x ∈ l → f x ≤ c) → Mm.cntL f l ≤ c * (l.length : Int)
  | [], _ => by simp [Mm.cntL]
  | x :: t, h => by
    have h1 := cntL_leM t fun y hy => h y (by simp [hy])
    have h2 := h x (by simp)
    rw [Mm.cntL_cons, List.length_cons]
    have : c * ((t.length + 1 : Nat) : Int) = c * (t.length : Int) + c := by push_cast; rw [Int.mul_add, Int.mul_one]
    omega
theorem sketch_cnt {s : Sketch} (h : Pl.sketchOk s = true) : Pl.ctopSketch s ≤ 50000000 := by
  have h1 : ∀ r, r ∈ s.Rows → Mm.cntL Pl.cnt1 r ≤ 11 := fun r hr => by
    obtain ⟨k, hk, rfl⟩ := List.mem_iff_getElem.1 hr
    have h2 := (Pl.rows_bd h (List.getElem?_eq_getElem hk)).1
    have h3 := cntL_leM (f := Pl.cnt1) (c := 1) s.Rows[k] (fun x _ => by unfold Pl.cnt1; omega)
    rw [h2] at h3
    omega
  have h4 := cntL_leM s.Rows h1
  have h5 : (s.Rows.length : Int) ≤ 3 := by
    unfold Pl.sketchOk at h
    rw [Bool.and_eq_true, Pl.isIn_iff] at h
    omega
  have h6 : Pl.ctopSketch s = (Mm.cntL (Mm.cntL Pl.cnt1)) s.Rows := rfl
  omega
theorem sk0_cnt : Pl.ctopSketch Pl.sk0 ≤ 50000000 := by
  have h6 : Pl.ctopSketch Pl.sk0 = 0 := rfl
  omega
theorem joinSketches_cnt (a b : Sketch) : Pl.ctopSketch (Pl.joinSketches a b).1 ≤ 50000000 := by
  unfold Pl.joinSketches
  split
  · split
    · rename_i h; exact sketch_cnt h
    · exact sk0_cnt
  · exact sk0_cnt
attribute [local go_sem] World.cell?_alloc_some
set_option maxRecDepth 100000 in
set_option maxHeartbeats 20000000 in
theorem walk_FnExactJoinSketches (cs_a : List Value) (a : Sketch) (cs_b : List Value) (b : Sketch) (w : World) (r_a : sk.at_ w w.heap.size a cs_a) (r_b : sk.at_ w w.heap.size b cs_b) :
    Calls Try.prog 3 #[.agg cs_a.toArray, .agg cs_b.toArray] w fun e w' => e = .returned (.bool true) ∧ Below w.heap.size w w' := by
  have hopen_a := sk_at r_a
  obtain ⟨A_a, n_a, c_a, rfl, -⟩ := hopen_a
  have zn_a := Pl.szSketch_nn a
  have hopen_b := sk_at r_b
  obtain ⟨A_b, n_b, c_b, rfl, -⟩ := hopen_b
  have zn_b := Pl.szSketch_nn b
  have HT0 := Lib.hid (show Below w.heap.size w ((w.alloc (.cells #[.slice A_a n_a c_a, .int .i64 a.Total] 24)).alloc (.cells #[.slice A_b n_b c_b, .int .i64 b.Total] 24)) from (below_new (below_new (Below.refl w.heap.size w) _) _))
  have KP_a := Lib.hid (show Mm.Blk ((w.alloc (.cells #[.slice A_a n_a c_a, .int .i64 a.Total] 24)).alloc (.cells #[.slice A_b n_b c_b, .int .i64 b.Total] 24)) w.heap.size 24 [.slice A_a n_a c_a, .int .i64 a.Total] from ((Mm.Blk.new' w 24 [.slice A_a n_a c_a, .int .i64 a.Total] rfl).alloc (.cells #[.slice A_b n_b c_b, .int .i64 b.Total] 24)))
  have KP_b := Lib.hid (show Mm.Blk ((w.alloc (.cells #[.slice A_a n_a c_a, .int .i64 a.Total] 24)).alloc (.cells #[.slice A_b n_b c_b, .int .i64 b.Total] 24)) (w.heap.size + 1) 24 [.slice A_b n_b c_b, .int .i64 b.Total] from (Mm.Blk.new' (w.alloc (.cells #[.slice A_a n_a c_a, .int .i64 a.Total] 24)) 24 [.slice A_b n_b c_b, .int .i64 b.Total] (Mm.sz1 _ _)))
  have HR_a := Lib.hid (sk.keep r_a fun b hb' => HT0.out.block b hb')
  have HB_a := Lib.hid HT0.out.size
  have HR_b := Lib.hid (sk.keep r_b fun b hb' => HT0.out.block b hb')
  have HB_b := Lib.hid HT0.out.size
  clear r_a r_b
  by_cases t_a : (1048576 - Pl.szSketch a : Int) < 0
  · skip
    go_enter Try.func3, Try.ntmps3
    go_wp2_with fail
    refine (szSketch_at a _ _ _ w.heap.size HR_a.out HB_a.out (by omega) (by omega)).mono ?_
    rintro e y1 ⟨rfl, hbz⟩
    rw [Pl.szRet_lt (by omega)]
    have HR_a := Lib.hid (sk.keep HR_a.out fun b hb' => hbz.block b (Nat.lt_of_lt_of_le hb' HB_a.out))
    have HB_a := Lib.hid (Nat.le_trans HB_a.out hbz.size)
    have HR_b := Lib.hid (sk.keep HR_b.out fun b hb' => hbz.block b (Nat.lt_of_lt_of_le hb' HB_b.out))
    have HB_b := Lib.hid (Nat.le_trans HB_b.out hbz.size)
    have KP_a := Lib.hid (KP_a.out.bel hbz)
    have KP_b := Lib.hid (KP_b.out.bel hbz)
    have HT2 := Lib.hid (below_step HT0.out hbz)
    clear hbz
    go_wp2
    go_ret
    exact ⟨rfl, HT2.out⟩
  · skip
    by_cases t_b : (1048576 - Pl.szSketch a - Pl.szSketch b : Int) < 0
    · skip
      go_enter Try.func3, Try.ntmps3
      go_wp2_with fail
      refine (szSketch_at a _ _ _ w.heap.size HR_a.out HB_a.out (by omega) (by omega)).mono ?_
      rintro e y3 ⟨rfl, hbz⟩
      rw [Pl.szRet_ge (by omega)]
      have HR_a := Lib.hid (sk.keep HR_a.out fun b hb' => hbz.block b (Nat.lt_of_lt_of_le hb' HB_a.out))
      have HB_a := Lib.hid (Nat.le_trans HB_a.out hbz.size)
      have HR_b := Lib.hid (sk.keep HR_b.out fun b hb' => hbz.block b (Nat.lt_of_lt_of_le hb' HB_b.out))
      have HB_b := Lib.hid (Nat.le_trans HB_b.out hbz.size)
      have KP_a := Lib.hid (KP_a.out.bel hbz)
      have KP_b := Lib.hid (KP_b.out.bel hbz)
      have HT4 := Lib.hid (below_step HT0.out hbz)
      clear hbz
      have c6_KP_b_0 := KP_b.out.cell (i := 0) rfl
      have c6_KP_b_1 := KP_b.out.cell (i := 1) rfl
      go_wp2_with fail
      refine (szSketch_at b _ _ _ w.heap.size HR_b.out HB_b.out (by omega) (by omega)).mono ?_
      rintro e y5 ⟨rfl, hbz⟩
      rw [Pl.szRet_lt (by omega)]
      have HR_a := Lib.hid (sk.keep HR_a.out fun b hb' => hbz.block b (Nat.lt_of_lt_of_le hb' HB_a.out))
      have HB_a := Lib.hid (Nat.le_trans HB_a.out hbz.size)
      have HR_b := Lib.hid (sk.keep HR_b.out fun b hb' => hbz.block b (Nat.lt_of_lt_of_le hb' HB_b.out))
      have HB_b := Lib.hid (Nat.le_trans HB_b.out hbz.size)
      have KP_a := Lib.hid (KP_a.out.bel hbz)
      have KP_b := Lib.hid (KP_b.out.bel hbz)
      have HT7 := Lib.hid (below_step HT4.out hbz)
      clear hbz
      go_wp2
      go_ret
      exact ⟨rfl, HT7.out⟩
    · skip
      go_enter Try.func3, Try.ntmps3
      go_wp2_with fail
      refine (szSketch_at a _ _ _ w.heap.size HR_a.out HB_a.out (by omega) (by omega)).mono ?_
      rintro e y8 ⟨rfl, hbz⟩
      rw [Pl.szRet_ge (by omega)]
      have HR_a := Lib.hid (sk.keep HR_a.out fun b hb' => hbz.block b (Nat.lt_of_lt_of_le hb' HB_a.out))
      have HB_a := Lib.hid (Nat.le_trans HB_a.out hbz.size)
      have HR_b := Lib.hid (sk.keep HR_b.out fun b hb' => hbz.block b (Nat.lt_of_lt_of_le hb' HB_b.out))
      have HB_b := Lib.hid (Nat.le_trans HB_b.out hbz.size)
      have KP_a := Lib.hid (KP_a.out.bel hbz)
      have KP_b := Lib.hid (KP_b.out.bel hbz)
      have HT9 := Lib.hid (below_step HT0.out hbz)
      clear hbz
      have c11_KP_b_0 := KP_b.out.cell (i := 0) rfl
      have c11_KP_b_1 := KP_b.out.cell (i := 1) rfl
      go_wp2_with fail
      refine (szSketch_at b _ _ _ w.heap.size HR_b.out HB_b.out (by omega) (by omega)).mono ?_
      rintro e y10 ⟨rfl, hbz⟩
      rw [Pl.szRet_ge (by omega)]
      have HR_a := Lib.hid (sk.keep HR_a.out fun b hb' => hbz.block b (Nat.lt_of_lt_of_le hb' HB_a.out))
      have HB_a := Lib.hid (Nat.le_trans HB_a.out hbz.size)
      have HR_b := Lib.hid (sk.keep HR_b.out fun b hb' => hbz.block b (Nat.lt_of_lt_of_le hb' HB_b.out))
      have HB_b := Lib.hid (Nat.le_trans HB_b.out hbz.size)
      have KP_a := Lib.hid (KP_a.out.bel hbz)
      have KP_b := Lib.hid (KP_b.out.bel hbz)
      have HT12 := Lib.hid (below_step HT9.out hbz)
      clear hbz
      have c13_KP_a_0 := KP_a.out.cell (i := 0) rfl
      have c13_KP_a_1 := KP_a.out.cell (i := 1) rfl
      have c13_KP_b_0 := KP_b.out.cell (i := 0) rfl
      have c13_KP_b_1 := KP_b.out.cell (i := 1) rfl
      go_wp2_with fail
      have c15_KP_a_0 := KP_a.out.cell (i := 0) rfl
      have c15_KP_a_1 := KP_a.out.cell (i := 1) rfl
      have c15_KP_b_0 := KP_b.out.cell (i := 0) rfl
      have c15_KP_b_1 := KP_b.out.cell (i := 1) rfl
      go_cut [6, 7] (fun p q wx => ∃ (P n c : Nat) (A : Option Addr), p = .pointer (some ⟨P, 0, none⟩) ∧ q = .bool (Pl.joinSketches a b).2 ∧ Mm.Blk wx P 26 [.slice A n c, .int .i64 (Pl.joinSketches a b).1.Total] ∧ sk.at_ wx wx.heap.size (Pl.joinSketches a b).1 [.slice A n c, .int .i64 (Pl.joinSketches a b).1.Total] ∧ y10.heap.size ≤ P ∧ Below y10.heap.size y10 wx)
      case first =>
        have e0_a := KP_a.out.cell (i := 0) rfl
        go_region_with
          (first
            | (go_at_call 10; (first | (with_reducible refine (toSketch_at a _ y10.drew w.heap.size (sk.keep HR_a.out fun b hb' => ((Below.refl y10.heap.size y10).drew).block b (Nat.lt_of_lt_of_le hb' HB_a.out)) (Nat.le_trans HB_a.out ((Below.refl y10.heap.size y10).drew).size) (by omega)).mono ?_) | ((have KW := Lib.hid (show Mm.Blk (y10.alloc (.cells #[.slice none 0 0, .int .i64 0] 26)).drew y10.heap.size 26 [.slice none 0 0, .int .i64 0] from Mm.Blk.new y10 26 [.slice none 0 0, .int .i64 0])); (with_reducible refine (toSketch_at a _ (y10.alloc (.cells #[.slice none 0 0, .int .i64 0] 26)).drew w.heap.size (sk.keep HR_a.out fun b hb' => ((below_new (Below.refl y10.heap.size y10) (.cells #[.slice none 0 0, .int .i64 0] 26)).drew).block b (Nat.lt_of_lt_of_le hb' HB_a.out)) (Nat.le_trans HB_a.out ((below_new (Below.refl y10.heap.size y10) (.cells #[.slice none 0 0, .int .i64 0] 26)).drew).size) (by omega)).mono ?_))); rintro e v16 ⟨cs16, fp16, rfl, ho16, hnd16, hf16, hbz⟩; (try clear g0 g1 g2 g3); (try (have KW := Lib.hid (KW.out.bel hbz))); (try (have g0 := KW.out.cell (i := 0) rfl)); (try (have g1 := KW.out.cell (i := 1) rfl)); (try (have g2 := KW.out.frozen 0)); (try (have g3 := KW.out.frozen 1)); (first | (have hbz : Below y10.heap.size y10 v16 := below_step ((Below.refl y10.heap.size y10).drew) hbz) | (have hbz : Below y10.heap.size y10 v16 := below_step ((below_new (Below.refl y10.heap.size y10) (.cells #[.slice none 0 0, .int .i64 0] 26)).drew) hbz)); (have HD16 := Lib.hid (hbz)); obtain ⟨A_16, n_16, c_16, _, rfl, -⟩ := sk_own ho16; (have HR_a := Lib.hid (sk.keep HR_a.out fun b hb' => hbz.block b (Nat.lt_of_lt_of_le hb' HB_a.out))); (have HB_a := Lib.hid (Nat.le_trans HB_a.out hbz.size)); (have HR_b := Lib.hid (sk.keep HR_b.out fun b hb' => hbz.block b (Nat.lt_of_lt_of_le hb' HB_b.out))); (have HB_b := Lib.hid (Nat.le_trans HB_b.out hbz.size)); (have KP_a := Lib.hid (KP_a.out.bel hbz)); (have KP_b := Lib.hid (KP_b.out.bel hbz)); (have HT17 := Lib.hid (below_step HT12.out hbz)); (have HXs_a := Lib.hid (sk.weak ho16 (B := v16.heap.size) (sk.olt ho16))); (have HXs_a_s := Lib.hid (Nat.le_refl v16.heap.size)); clear ho16 hnd16 hf16; (try clear f0a f1a f0b f1b); (have f0a := KP_a.out.cell (i := 0) rfl); (have f1a := KP_a.out.cell (i := 1) rfl); (have f0b := KP_b.out.cell (i := 0) rfl); (have f1b := KP_b.out.cell (i := 1) rfl))
            | (go_at_call 10; (first | (with_reducible refine (toSketch_at b _ _ w.heap.size HR_b.out HB_b.out (by omega)).mono ?_) | ((have KW := Lib.hid (Mm.Blk.new v16 26 [.slice none 0 0, .int .i64 0])); (with_reducible refine (toSketch_at b _ (v16.alloc (.cells #[.slice none 0 0, .int .i64 0] 26)) w.heap.size (sk.keep HR_b.out fun b hb' => (below_new (Below.refl v16.heap.size v16) (.cells #[.slice none 0 0, .int .i64 0] 26)).block b (Nat.lt_of_lt_of_le hb' HB_a.out)) (Nat.le_trans HB_a.out (below_new (Below.refl v16.heap.size v16) (.cells #[.slice none 0 0, .int .i64 0] 26)).size) (by omega)).mono ?_))); rintro e v18 ⟨cs18, fp18, rfl, ho18, hnd18, hf18, hbz⟩; (try clear g0 g1 g2 g3); (try (have KW := Lib.hid (KW.out.bel hbz))); (try (have g0 := KW.out.cell (i := 0) rfl)); (try (have g1 := KW.out.cell (i := 1) rfl)); (try (have g2 := KW.out.frozen 0)); (try (have g3 := KW.out.frozen 1)); (first | (have hbz : Below v16.heap.size v16 v18 := hbz) | (have hbz : Below v16.heap.size v16 v18 := below_step (below_new (Below.refl _ _) _) hbz)); (have HD18 := Lib.hid (below_step HD16.out hbz)); obtain ⟨A_18, n_18, c_18, _, rfl, -⟩ := sk_own ho18; (have HR_a := Lib.hid (sk.keep HR_a.out fun b hb' => hbz.block b (Nat.lt_of_lt_of_le hb' HB_a.out))); (have HB_a := Lib.hid (Nat.le_trans HB_a.out hbz.size)); (have HR_b := Lib.hid (sk.keep HR_b.out fun b hb' => hbz.block b (Nat.lt_of_lt_of_le hb' HB_b.out))); (have HB_b := Lib.hid (Nat.le_trans HB_b.out hbz.size)); (have HXs_a := Lib.hid (sk.keep HXs_a.out fun b hb' => hbz.block b (Nat.lt_of_lt_of_le hb' HXs_a_s.out))); (have HXs_a_s := Lib.hid (Nat.le_trans HXs_a_s.out hbz.size)); (have KP_a := Lib.hid (KP_a.out.bel hbz)); (have KP_b := Lib.hid (KP_b.out.bel hbz)); (have HT19 := Lib.hid (below_step HT17.out hbz)); (have HXs_b := Lib.hid (sk.weak ho18 (B := v18.heap.size) (sk.olt ho18))); (have HXs_b_s := Lib.hid (Nat.le_refl v18.heap.size)); clear ho18 hnd18 hf18; (try clear f0a f1a f0b f1b); (have f0a := KP_a.out.cell (i := 0) rfl); (have f1a := KP_a.out.cell (i := 1) rfl); (have f0b := KP_b.out.cell (i := 0) rfl); (have f1b := KP_b.out.cell (i := 1) rfl))
            | (go_at_call 9; (first | (with_reducible refine (specJoinSketches_c a _ b _ _ _ (sk.more HXs_a.out HXs_a_s.out) (sk.more HXs_b.out HXs_b_s.out) (Nat.le_refl _)).mono ?_) | ((have KW := Lib.hid (Mm.Blk.new v18 26 [.slice none 0 0, .int .i64 0])); (with_reducible refine (specJoinSketches_c a _ b _ (v18.alloc (.cells #[.slice none 0 0, .int .i64 0] 26)) v18.heap.size (sk.keep (sk.more HXs_a.out HXs_a_s.out) fun b hb' => (below_new (Below.refl v18.heap.size v18) (.cells #[.slice none 0 0, .int .i64 0] 26)).block b hb') (sk.keep (sk.more HXs_b.out HXs_b_s.out) fun b hb' => (below_new (Below.refl v18.heap.size v18) (.cells #[.slice none 0 0, .int .i64 0] 26)).block b hb') (below_new (Below.refl v18.heap.size v18) (.cells #[.slice none 0 0, .int .i64 0] 26)).size).mono ?_))); rintro e v20 ⟨cs20, fp20, rfl, ho20, hnd20, hf20, hbz⟩; (try (have NG := Lib.hid (nin_of KW.out hf20))); (try clear g0 g1 g2 g3); (try (have KW := Lib.hid (KW.out.bel hbz))); (try (have g0 := KW.out.cell (i := 0) rfl)); (try (have g1 := KW.out.cell (i := 1) rfl)); (try (have g2 := KW.out.frozen 0)); (try (have g3 := KW.out.frozen 1)); (first | (have hbz : Below v18.heap.size v18 v20 := hbz) | (have hbz : Below v18.heap.size v18 v20 := below_step (below_new (Below.refl _ _) _) hbz)); (have HD20 := Lib.hid (below_step HD18.out hbz)); obtain ⟨A_20, n_20, c_20, _, rfl, -⟩ := sk_own ho20; (have HR_a := Lib.hid (sk.keep HR_a.out fun b hb' => hbz.block b (Nat.lt_of_lt_of_le hb' HB_a.out))); (have HB_a := Lib.hid (Nat.le_trans HB_a.out hbz.size)); (have HR_b := Lib.hid (sk.keep HR_b.out fun b hb' => hbz.block b (Nat.lt_of_lt_of_le hb' HB_b.out))); (have HB_b := Lib.hid (Nat.le_trans HB_b.out hbz.size)); (have HXs_a := Lib.hid (sk.keep HXs_a.out fun b hb' => hbz.block b (Nat.lt_of_lt_of_le hb' HXs_a_s.out))); (have HXs_a_s := Lib.hid (Nat.le_trans HXs_a_s.out hbz.size)); (have HXs_b := Lib.hid (sk.keep HXs_b.out fun b hb' => hbz.block b (Nat.lt_of_lt_of_le hb' HXs_b_s.out))); (have HXs_b_s := Lib.hid (Nat.le_trans HXs_b_s.out hbz.size)); (have KP_a := Lib.hid (KP_a.out.bel hbz)); (have KP_b := Lib.hid (KP_b.out.bel hbz)); (have HT21 := Lib.hid (below_step HT19.out hbz)); (have HW0 := Lib.hid (sk.weak ho20 (B := v20.heap.size) (sk.olt ho20))); (have HW0_s := Lib.hid (Nat.le_refl v20.heap.size)); (have HO20 := Lib.hid ho20); clear ho20 hnd20 hf20; (have ne_a := Nat.ne_of_gt KP_a.out.lt); (have ne_b := Nat.ne_of_gt KP_b.out.lt); (try clear f0a f1a f0b f1b); (have f0a := KP_a.out.cell (i := 0) rfl); (have f1a := KP_a.out.cell (i := 1) rfl); (have f0b := KP_b.out.cell (i := 0) rfl); (have f1b := KP_b.out.cell (i := 1) rfl)))
        all_goals (go_wp2_with fail)
        all_goals go_meet
        all_goals first
          | exact ⟨_, _, _, _, rfl, rfl, box_now HO20.out HD20.out HD20.out.size⟩
          | exact ⟨_, _, _, _, rfl, rfl, box_late KW.out HO20.out NG.out HD20.out (by first | exact Nat.le_refl _ | exact HD16.out.size | exact HD18.out.size)⟩
      case rest =>
      obtain ⟨P20, n_20, c_20, A_20, rfl, rfl, KW, HW0, hP20, hbz⟩ := hcut
      have KW := Lib.hid KW
      have HW0 := Lib.hid HW0
      have HW0_s := Lib.hid (Nat.le_refl wc.heap.size)
      clear hP20
      have HR_a := Lib.hid (sk.keep HR_a.out fun b hb' => hbz.block b (Nat.lt_of_lt_of_le hb' HB_a.out))
      have HB_a := Lib.hid (Nat.le_trans HB_a.out hbz.size)
      have HR_b := Lib.hid (sk.keep HR_b.out fun b hb' => hbz.block b (Nat.lt_of_lt_of_le hb' HB_b.out))
      have HB_b := Lib.hid (Nat.le_trans HB_b.out hbz.size)
      have KP_a := Lib.hid (KP_a.out.bel hbz)
      have KP_b := Lib.hid (KP_b.out.bel hbz)
      have HT22 := Lib.hid (below_step HT12.out hbz)
      clear hbz
      have c23_KP_a_0 := KP_a.out.cell (i := 0) rfl
      have c23_KP_a_1 := KP_a.out.cell (i := 1) rfl
      go_wp2_with fail
      refine (toSketch_at a _ _ w.heap.size HR_a.out HB_a.out (by omega)).mono ?_
      rintro e v24 ⟨cs24, fp24, rfl, ho24, hnd24, hf24, hbz⟩
      obtain ⟨A_24, n_24, c_24, _, rfl, -⟩ := sk_own ho24
      have AP24_HR_a := Lib.hid (show ∀ b, b ∈ fp24 → w.heap.size ≤ b from fun b hb' => Nat.le_trans HB_a.out (hf24 b hb'))
      have AP24_HR_b := Lib.hid (show ∀ b, b ∈ fp24 → w.heap.size ≤ b from fun b hb' => Nat.le_trans HB_b.out (hf24 b hb'))
      have AP24_HW0 := Lib.hid (show ∀ b, b ∈ fp24 → wc.heap.size ≤ b from fun b hb' => Nat.le_trans HW0_s.out (hf24 b hb'))
      have NB24_KP_a := Lib.hid (show ¬ w.heap.size ∈ fp24 from fun hm => by have := KP_a.out.lt; have := hf24 _ hm; omega)
      have NB24_KP_b := Lib.hid (show ¬ (w.heap.size + 1) ∈ fp24 from fun hm => by have := KP_b.out.lt; have := hf24 _ hm; omega)
      have NB24_KW := Lib.hid (show ¬ P20 ∈ fp24 from fun hm => by have := KW.out.lt; have := hf24 _ hm; omega)
      have FR24 := Lib.hid (show ∀ b, b ∈ fp24 → w.heap.size ≤ b from fun b hb' => Nat.le_trans HT22.out.size (hf24 b hb'))
      have ND24 := Lib.hid hnd24
      have LT24 := Lib.hid (show ∀ b, b ∈ fp24 → b < v24.heap.size from sk.olt ho24)
      have HR_a := Lib.hid (sk.keep HR_a.out fun b hb' => hbz.block b (Nat.lt_of_lt_of_le hb' HB_a.out))
      have HB_a := Lib.hid (Nat.le_trans HB_a.out hbz.size)
      have HR_b := Lib.hid (sk.keep HR_b.out fun b hb' => hbz.block b (Nat.lt_of_lt_of_le hb' HB_b.out))
      have HB_b := Lib.hid (Nat.le_trans HB_b.out hbz.size)
      have HW0 := Lib.hid (sk.keep HW0.out fun b hb' => hbz.block b (Nat.lt_of_lt_of_le hb' HW0_s.out))
      have HW0_s := Lib.hid (Nat.le_trans HW0_s.out hbz.size)
      have KP_a := Lib.hid (KP_a.out.bel hbz)
      have KP_b := Lib.hid (KP_b.out.bel hbz)
      have KW := Lib.hid (KW.out.bel hbz)
      have HT25 := Lib.hid (below_step HT22.out hbz)
      have HXx_a := Lib.hid (sk.weak ho24 (B := v24.heap.size) (sk.olt ho24))
      have HXx_a_s := Lib.hid (Nat.le_refl v24.heap.size)
      have OX_a := Lib.hid ho24
      clear ho24 hnd24 hf24
      clear hbz
      have NIKX_a_fp24 := Lib.hid (show ¬ v24.heap.size ∈ fp24 from fun hm => Nat.lt_irrefl _ (sk.olt OX_a.out _ hm))
      have hbx : Below v24.heap.size v24 (v24.alloc (.cells #[.slice A_24 n_24 c_24, .int .i64 a.Total] 26)) := below_new (Below.refl _ _) _
      have HR_a := Lib.hid (sk.keep HR_a.out fun b hb' => hbx.block b (Nat.lt_of_lt_of_le hb' HB_a.out))
      have HB_a := Lib.hid (Nat.le_trans HB_a.out hbx.size)
      have HR_b := Lib.hid (sk.keep HR_b.out fun b hb' => hbx.block b (Nat.lt_of_lt_of_le hb' HB_b.out))
      have HB_b := Lib.hid (Nat.le_trans HB_b.out hbx.size)
      have HW0 := Lib.hid (sk.keep HW0.out fun b hb' => hbx.block b (Nat.lt_of_lt_of_le hb' HW0_s.out))
      have HW0_s := Lib.hid (Nat.le_trans HW0_s.out hbx.size)
      have HXx_a := Lib.hid (sk.keep HXx_a.out fun b hb' => hbx.block b (Nat.lt_of_lt_of_le hb' HXx_a_s.out))
      have HXx_a_s := Lib.hid (Nat.le_trans HXx_a_s.out hbx.size)
      have OX_a := Lib.hid (sk.okeep OX_a.out fun b hb' => hbx.block b (sk.olt OX_a.out b hb'))
      have KP_a := Lib.hid (KP_a.out.bel hbx)
      have KP_b := Lib.hid (KP_b.out.bel hbx)
      have KW := Lib.hid (KW.out.bel hbx)
      have HT26 := Lib.hid (below_step HT25.out hbx)
      clear hbx
      have KX_a := Lib.hid (Mm.Blk.new v24 26 [.slice A_24 n_24 c_24, .int .i64 a.Total])
      have c27_KP_b_0 := KP_b.out.cell (i := 0) rfl
      have c27_KP_b_1 := KP_b.out.cell (i := 1) rfl
      go_wp2_with fail
      refine (toSketch_at b _ _ w.heap.size HR_b.out HB_b.out (by omega)).mono ?_
      rintro e v28 ⟨cs28, fp28, rfl, ho28, hnd28, hf28, hbz⟩
      obtain ⟨A_28, n_28, c_28, _, rfl, -⟩ := sk_own ho28
      have AP28_HR_a := Lib.hid (show ∀ b, b ∈ fp28 → w.heap.size ≤ b from fun b hb' => Nat.le_trans HB_a.out (hf28 b hb'))
      have AP28_HR_b := Lib.hid (show ∀ b, b ∈ fp28 → w.heap.size ≤ b from fun b hb' => Nat.le_trans HB_b.out (hf28 b hb'))
      have AP28_HW0 := Lib.hid (show ∀ b, b ∈ fp28 → wc.heap.size ≤ b from fun b hb' => Nat.le_trans HW0_s.out (hf28 b hb'))
      have AP28_HXx_a := Lib.hid (show ∀ b, b ∈ fp28 → v24.heap.size ≤ b from fun b hb' => Nat.le_trans HXx_a_s.out (hf28 b hb'))
      have DP28_OX_a := Lib.hid (show ∀ b, b ∈ fp28 → b ∉ fp24 from fun b hb' hm => by have := sk.olt OX_a.out b hm; have := hf28 b hb'; omega)
      have NB28_KP_a := Lib.hid (show ¬ w.heap.size ∈ fp28 from fun hm => by have := KP_a.out.lt; have := hf28 _ hm; omega)
      have NB28_KP_b := Lib.hid (show ¬ (w.heap.size + 1) ∈ fp28 from fun hm => by have := KP_b.out.lt; have := hf28 _ hm; omega)
      have NB28_KW := Lib.hid (show ¬ P20 ∈ fp28 from fun hm => by have := KW.out.lt; have := hf28 _ hm; omega)
      have NB28_KX_a := Lib.hid (show ¬ v24.heap.size ∈ fp28 from fun hm => by have := KX_a.out.lt; have := hf28 _ hm; omega)
      have FR28 := Lib.hid (show ∀ b, b ∈ fp28 → w.heap.size ≤ b from fun b hb' => Nat.le_trans HT26.out.size (hf28 b hb'))
      have ND28 := Lib.hid hnd28
      have LT28 := Lib.hid (show ∀ b, b ∈ fp28 → b < v28.heap.size from sk.olt ho28)
      have HR_a := Lib.hid (sk.keep HR_a.out fun b hb' => hbz.block b (Nat.lt_of_lt_of_le hb' HB_a.out))
      have HB_a := Lib.hid (Nat.le_trans HB_a.out hbz.size)
      have HR_b := Lib.hid (sk.keep HR_b.out fun b hb' => hbz.block b (Nat.lt_of_lt_of_le hb' HB_b.out))
      have HB_b := Lib.hid (Nat.le_trans HB_b.out hbz.size)
      have HW0 := Lib.hid (sk.keep HW0.out fun b hb' => hbz.block b (Nat.lt_of_lt_of_le hb' HW0_s.out))
      have HW0_s := Lib.hid (Nat.le_trans HW0_s.out hbz.size)
      have HXx_a := Lib.hid (sk.keep HXx_a.out fun b hb' => hbz.block b (Nat.lt_of_lt_of_le hb' HXx_a_s.out))
      have HXx_a_s := Lib.hid (Nat.le_trans HXx_a_s.out hbz.size)
      have OX_a := Lib.hid (sk.okeep OX_a.out fun b hb' => hbz.block b (sk.olt OX_a.out b hb'))
      have KP_a := Lib.hid (KP_a.out.bel hbz)
      have KP_b := Lib.hid (KP_b.out.bel hbz)
      have KW := Lib.hid (KW.out.bel hbz)
      have KX_a := Lib.hid (KX_a.out.bel hbz)
      have HT29 := Lib.hid (below_step HT26.out hbz)
      have HXx_b := Lib.hid (sk.weak ho28 (B := v28.heap.size) (sk.olt ho28))
      have HXx_b_s := Lib.hid (Nat.le_refl v28.heap.size)
      have OX_b := Lib.hid ho28
      clear ho28 hnd28 hf28
      clear hbz
      have NIKX_b_fp24 := Lib.hid (show ¬ v28.heap.size ∈ fp24 from fun hm => Nat.lt_irrefl _ (sk.olt OX_a.out _ hm))
      have NIKX_b_fp28 := Lib.hid (show ¬ v28.heap.size ∈ fp28 from fun hm => Nat.lt_irrefl _ (sk.olt OX_b.out _ hm))
      have hbx : Below v28.heap.size v28 (v28.alloc (.cells #[.slice A_28 n_28 c_28, .int .i64 b.Total] 26)) := below_new (Below.refl _ _) _
      have HR_a := Lib.hid (sk.keep HR_a.out fun b hb' => hbx.block b (Nat.lt_of_lt_of_le hb' HB_a.out))
      have HB_a := Lib.hid (Nat.le_trans HB_a.out hbx.size)
      have HR_b := Lib.hid (sk.keep HR_b.out fun b hb' => hbx.block b (Nat.lt_of_lt_of_le hb' HB_b.out))
      have HB_b := Lib.hid (Nat.le_trans HB_b.out hbx.size)
      have HW0 := Lib.hid (sk.keep HW0.out fun b hb' => hbx.block b (Nat.lt_of_lt_of_le hb' HW0_s.out))
      have HW0_s := Lib.hid (Nat.le_trans HW0_s.out hbx.size)
      have HXx_a := Lib.hid (sk.keep HXx_a.out fun b hb' => hbx.block b (Nat.lt_of_lt_of_le hb' HXx_a_s.out))
      have HXx_a_s := Lib.hid (Nat.le_trans HXx_a_s.out hbx.size)
      have HXx_b := Lib.hid (sk.keep HXx_b.out fun b hb' => hbx.block b (Nat.lt_of_lt_of_le hb' HXx_b_s.out))
      have HXx_b_s := Lib.hid (Nat.le_trans HXx_b_s.out hbx.size)
      have OX_a := Lib.hid (sk.okeep OX_a.out fun b hb' => hbx.block b (sk.olt OX_a.out b hb'))
      have OX_b := Lib.hid (sk.okeep OX_b.out fun b hb' => hbx.block b (sk.olt OX_b.out b hb'))
      have KP_a := Lib.hid (KP_a.out.bel hbx)
      have KP_b := Lib.hid (KP_b.out.bel hbx)
      have KW := Lib.hid (KW.out.bel hbx)
      have KX_a := Lib.hid (KX_a.out.bel hbx)
      have HT30 := Lib.hid (below_step HT29.out hbx)
      clear hbx
      have KX_b := Lib.hid (Mm.Blk.new v28 26 [.slice A_28 n_28 c_28, .int .i64 b.Total])
      have c31_KX_a_0 := KX_a.out.cell (i := 0) rfl
      have c31_KX_a_1 := KX_a.out.cell (i := 1) rfl
      have c31_KX_b_0 := KX_b.out.cell (i := 0) rfl
      have c31_KX_b_1 := KX_b.out.cell (i := 1) rfl
      go_wp2_with fail
      refine (implJoinSketches_c a _ b _ _ _ (sk.more HXx_a.out HXx_a_s.out) (sk.more HXx_b.out HXx_b_s.out) (Nat.le_refl _)).mono ?_
      rintro e v32 ⟨cs32, fp32, rfl, ho32, hnd32, hf32, hbz⟩
      obtain ⟨A_32, n_32, c_32, _, rfl, -⟩ := sk_own ho32
      have AP32_HR_a := Lib.hid (show ∀ b, b ∈ fp32 → w.heap.size ≤ b from fun b hb' => Nat.le_trans HB_a.out (hf32 b hb'))
      have AP32_HR_b := Lib.hid (show ∀ b, b ∈ fp32 → w.heap.size ≤ b from fun b hb' => Nat.le_trans HB_b.out (hf32 b hb'))
      have AP32_HW0 := Lib.hid (show ∀ b, b ∈ fp32 → wc.heap.size ≤ b from fun b hb' => Nat.le_trans HW0_s.out (hf32 b hb'))
      have AP32_HXx_a := Lib.hid (show ∀ b, b ∈ fp32 → v24.heap.size ≤ b from fun b hb' => Nat.le_trans HXx_a_s.out (hf32 b hb'))
      have AP32_HXx_b := Lib.hid (show ∀ b, b ∈ fp32 → v28.heap.size ≤ b from fun b hb' => Nat.le_trans HXx_b_s.out (hf32 b hb'))
      have DP32_OX_a := Lib.hid (show ∀ b, b ∈ fp32 → b ∉ fp24 from fun b hb' hm => by have := sk.olt OX_a.out b hm; have := hf32 b hb'; omega)
      have DP32_OX_b := Lib.hid (show ∀ b, b ∈ fp32 → b ∉ fp28 from fun b hb' hm => by have := sk.olt OX_b.out b hm; have := hf32 b hb'; omega)
      have NB32_KP_a := Lib.hid (show ¬ w.heap.size ∈ fp32 from fun hm => by have := KP_a.out.lt; have := hf32 _ hm; omega)
      have NB32_KP_b := Lib.hid (show ¬ (w.heap.size + 1) ∈ fp32 from fun hm => by have := KP_b.out.lt; have := hf32 _ hm; omega)
      have NB32_KW := Lib.hid (show ¬ P20 ∈ fp32 from fun hm => by have := KW.out.lt; have := hf32 _ hm; omega)
      have NB32_KX_a := Lib.hid (show ¬ v24.heap.size ∈ fp32 from fun hm => by have := KX_a.out.lt; have := hf32 _ hm; omega)
      have NB32_KX_b := Lib.hid (show ¬ v28.heap.size ∈ fp32 from fun hm => by have := KX_b.out.lt; have := hf32 _ hm; omega)
      have FR32 := Lib.hid (show ∀ b, b ∈ fp32 → w.heap.size ≤ b from fun b hb' => Nat.le_trans HT30.out.size (hf32 b hb'))
      have ND32 := Lib.hid hnd32
      have LT32 := Lib.hid (show ∀ b, b ∈ fp32 → b < v32.heap.size from sk.olt ho32)
      have HR_a := Lib.hid (sk.keep HR_a.out fun b hb' => hbz.block b (Nat.lt_of_lt_of_le hb' HB_a.out))
      have HB_a := Lib.hid (Nat.le_trans HB_a.out hbz.size)
      have HR_b := Lib.hid (sk.keep HR_b.out fun b hb' => hbz.block b (Nat.lt_of_lt_of_le hb' HB_b.out))
      have HB_b := Lib.hid (Nat.le_trans HB_b.out hbz.size)
      have HW0 := Lib.hid (sk.keep HW0.out fun b hb' => hbz.block b (Nat.lt_of_lt_of_le hb' HW0_s.out))
      have HW0_s := Lib.hid (Nat.le_trans HW0_s.out hbz.size)
      have HXx_a := Lib.hid (sk.keep HXx_a.out fun b hb' => hbz.block b (Nat.lt_of_lt_of_le hb' HXx_a_s.out))
      have HXx_a_s := Lib.hid (Nat.le_trans HXx_a_s.out hbz.size)
      have HXx_b := Lib.hid (sk.keep HXx_b.out fun b hb' => hbz.block b (Nat.lt_of_lt_of_le hb' HXx_b_s.out))
      have HXx_b_s := Lib.hid (Nat.le_trans HXx_b_s.out hbz.size)
      have OX_a := Lib.hid (sk.okeep OX_a.out fun b hb' => hbz.block b (sk.olt OX_a.out b hb'))
      have OX_b := Lib.hid (sk.okeep OX_b.out fun b hb' => hbz.block b (sk.olt OX_b.out b hb'))
      have KP_a := Lib.hid (KP_a.out.bel hbz)
      have KP_b := Lib.hid (KP_b.out.bel hbz)
      have KW := Lib.hid (KW.out.bel hbz)
      have KX_a := Lib.hid (KX_a.out.bel hbz)
      have KX_b := Lib.hid (KX_b.out.bel hbz)
      have HT33 := Lib.hid (below_step HT30.out hbz)
      have OG := Lib.hid ho32
      clear ho32 hnd32 hf32
      clear hbz
      have NIKG_fp24 := Lib.hid (show ¬ v32.heap.size ∈ fp24 from fun hm => Nat.lt_irrefl _ (sk.olt OX_a.out _ hm))
      have NIKG_fp28 := Lib.hid (show ¬ v32.heap.size ∈ fp28 from fun hm => Nat.lt_irrefl _ (sk.olt OX_b.out _ hm))
      have NIKG_fp32 := Lib.hid (show ¬ v32.heap.size ∈ fp32 from fun hm => Nat.lt_irrefl _ (sk.olt OG.out _ hm))
      have hbx : Below v32.heap.size v32 (v32.alloc (.cells #[.slice A_32 n_32 c_32, .int .i64 (Pl.joinSketches a b).1.Total] 26)) := below_new (Below.refl _ _) _
      have HR_a := Lib.hid (sk.keep HR_a.out fun b hb' => hbx.block b (Nat.lt_of_lt_of_le hb' HB_a.out))
      have HB_a := Lib.hid (Nat.le_trans HB_a.out hbx.size)
      have HR_b := Lib.hid (sk.keep HR_b.out fun b hb' => hbx.block b (Nat.lt_of_lt_of_le hb' HB_b.out))
      have HB_b := Lib.hid (Nat.le_trans HB_b.out hbx.size)
      have HW0 := Lib.hid (sk.keep HW0.out fun b hb' => hbx.block b (Nat.lt_of_lt_of_le hb' HW0_s.out))
      have HW0_s := Lib.hid (Nat.le_trans HW0_s.out hbx.size)
      have HXx_a := Lib.hid (sk.keep HXx_a.out fun b hb' => hbx.block b (Nat.lt_of_lt_of_le hb' HXx_a_s.out))
      have HXx_a_s := Lib.hid (Nat.le_trans HXx_a_s.out hbx.size)
      have HXx_b := Lib.hid (sk.keep HXx_b.out fun b hb' => hbx.block b (Nat.lt_of_lt_of_le hb' HXx_b_s.out))
      have HXx_b_s := Lib.hid (Nat.le_trans HXx_b_s.out hbx.size)
      have OX_a := Lib.hid (sk.okeep OX_a.out fun b hb' => hbx.block b (sk.olt OX_a.out b hb'))
      have OX_b := Lib.hid (sk.okeep OX_b.out fun b hb' => hbx.block b (sk.olt OX_b.out b hb'))
      have OG := Lib.hid (sk.okeep OG.out fun b hb' => hbx.block b (sk.olt OG.out b hb'))
      have KP_a := Lib.hid (KP_a.out.bel hbx)
      have KP_b := Lib.hid (KP_b.out.bel hbx)
      have KW := Lib.hid (KW.out.bel hbx)
      have KX_a := Lib.hid (KX_a.out.bel hbx)
      have KX_b := Lib.hid (KX_b.out.bel hbx)
      have HT34 := Lib.hid (below_step HT33.out hbx)
      clear hbx
      have KG := Lib.hid (Mm.Blk.new v32 26 [.slice A_32 n_32 c_32, .int .i64 (Pl.joinSketches a b).1.Total])
      have c35_KP_a_0 := KP_a.out.cell (i := 0) rfl
      have c35_KP_a_1 := KP_a.out.cell (i := 1) rfl
      have c35_KP_b_0 := KP_b.out.cell (i := 0) rfl
      have c35_KP_b_1 := KP_b.out.cell (i := 1) rfl
      have c35_KW_0 := KW.out.cell (i := 0) rfl
      have c35_KW_1 := KW.out.cell (i := 1) rfl
      have c35_KX_a_0 := KX_a.out.cell (i := 0) rfl
      have c35_KX_a_1 := KX_a.out.cell (i := 1) rfl
      have c35_KX_b_0 := KX_b.out.cell (i := 0) rfl
      have c35_KX_b_1 := KX_b.out.cell (i := 1) rfl
      have c35_KG_0 := KG.out.cell (i := 0) rfl
      have c35_KG_1 := KG.out.cell (i := 1) rfl
      go_wp2_with fail
      refine (eqSketch_at (Pl.joinSketches a b).1 _ _ _ _ (sk.weak OG.out (B := _) (sk.olt OG.out)) (sk.more HW0.out HW0_s.out) (Nat.le_refl _)).mono ?_
      rintro e v36 ⟨rfl, hbz⟩
      have HR_a := Lib.hid (sk.keep HR_a.out fun b hb' => hbz.block b (Nat.lt_of_lt_of_le hb' HB_a.out))
      have HB_a := Lib.hid (Nat.le_trans HB_a.out hbz.size)
      have HR_b := Lib.hid (sk.keep HR_b.out fun b hb' => hbz.block b (Nat.lt_of_lt_of_le hb' HB_b.out))
      have HB_b := Lib.hid (Nat.le_trans HB_b.out hbz.size)
      have HW0 := Lib.hid (sk.keep HW0.out fun b hb' => hbz.block b (Nat.lt_of_lt_of_le hb' HW0_s.out))
      have HW0_s := Lib.hid (Nat.le_trans HW0_s.out hbz.size)
      have HXx_a := Lib.hid (sk.keep HXx_a.out fun b hb' => hbz.block b (Nat.lt_of_lt_of_le hb' HXx_a_s.out))
      have HXx_a_s := Lib.hid (Nat.le_trans HXx_a_s.out hbz.size)
      have HXx_b := Lib.hid (sk.keep HXx_b.out fun b hb' => hbz.block b (Nat.lt_of_lt_of_le hb' HXx_b_s.out))
      have HXx_b_s := Lib.hid (Nat.le_trans HXx_b_s.out hbz.size)
      have OX_a := Lib.hid (sk.okeep OX_a.out fun b hb' => hbz.block b (sk.olt OX_a.out b hb'))
      have OX_b := Lib.hid (sk.okeep OX_b.out fun b hb' => hbz.block b (sk.olt OX_b.out b hb'))
      have OG := Lib.hid (sk.okeep OG.out fun b hb' => hbz.block b (sk.olt OG.out b hb'))
      have KP_a := Lib.hid (KP_a.out.bel hbz)
      have KP_b := Lib.hid (KP_b.out.bel hbz)
      have KW := Lib.hid (KW.out.bel hbz)
      have KX_a := Lib.hid (KX_a.out.bel hbz)
      have KX_b := Lib.hid (KX_b.out.bel hbz)
      have KG := Lib.hid (KG.out.bel hbz)
      have HT37 := Lib.hid (below_step HT34.out hbz)
      clear hbz
      have c38_KP_a_0 := KP_a.out.cell (i := 0) rfl
      have c38_KP_a_1 := KP_a.out.cell (i := 1) rfl
      have c38_KX_a_0 := KX_a.out.cell (i := 0) rfl
      have c38_KX_a_1 := KX_a.out.cell (i := 1) rfl
      go_wp2_with fail
      have hdr := (Below.refl v36.heap.size v36).drew
      have HR_a := Lib.hid (sk.keep HR_a.out fun b hb' => hdr.block b (Nat.lt_of_lt_of_le hb' HB_a.out))
      have HB_a := Lib.hid (Nat.le_trans HB_a.out hdr.size)
      have HR_b := Lib.hid (sk.keep HR_b.out fun b hb' => hdr.block b (Nat.lt_of_lt_of_le hb' HB_b.out))
      have HB_b := Lib.hid (Nat.le_trans HB_b.out hdr.size)
      have HW0 := Lib.hid (sk.keep HW0.out fun b hb' => hdr.block b (Nat.lt_of_lt_of_le hb' HW0_s.out))
      have HW0_s := Lib.hid (Nat.le_trans HW0_s.out hdr.size)
      have HXx_a := Lib.hid (sk.keep HXx_a.out fun b hb' => hdr.block b (Nat.lt_of_lt_of_le hb' HXx_a_s.out))
      have HXx_a_s := Lib.hid (Nat.le_trans HXx_a_s.out hdr.size)
      have HXx_b := Lib.hid (sk.keep HXx_b.out fun b hb' => hdr.block b (Nat.lt_of_lt_of_le hb' HXx_b_s.out))
      have HXx_b_s := Lib.hid (Nat.le_trans HXx_b_s.out hdr.size)
      have OX_a := Lib.hid (sk.okeep OX_a.out fun b hb' => hdr.block b (sk.olt OX_a.out b hb'))
      have OX_b := Lib.hid (sk.okeep OX_b.out fun b hb' => hdr.block b (sk.olt OX_b.out b hb'))
      have OG := Lib.hid (sk.okeep OG.out fun b hb' => hdr.block b (sk.olt OG.out b hb'))
      have KP_a := Lib.hid (KP_a.out.bel hdr)
      have KP_b := Lib.hid (KP_b.out.bel hdr)
      have KW := Lib.hid (KW.out.bel hdr)
      have KX_a := Lib.hid (KX_a.out.bel hdr)
      have KX_b := Lib.hid (KX_b.out.bel hdr)
      have KG := Lib.hid (KG.out.bel hdr)
      have HT39 := Lib.hid (below_step HT37.out hdr)
      clear hdr
      have c40_KP_a_0 := KP_a.out.cell (i := 0) rfl
      have c40_KP_a_1 := KP_a.out.cell (i := 1) rfl
      have c40_KX_a_0 := KX_a.out.cell (i := 0) rfl
      have c40_KX_a_1 := KX_a.out.cell (i := 1) rfl
      go_region_held3 (fun wx => wx.cell? ⟨w.heap.size, 0, none⟩ = some (.slice A_a n_a c_a) ∧ wx.cell? ⟨w.heap.size, 1, none⟩ = some (.int .i64 a.Total) ∧ wx.cell? ⟨v24.heap.size, 0, none⟩ = some (.slice A_24 n_24 c_24) ∧ wx.cell? ⟨v24.heap.size, 1, none⟩ = some (.int .i64 a.Total))
        (first | (go_keep; done) | ((try dsimp only); go_split_ands; refine ⟨?_, ?_, ?_, ?_⟩ <;> first | (exact below_some hbz (by assumption)) | (exact (KP_a.out.alloc _).cell (i := 0) rfl) | (exact (KP_a.out.alloc _).cell (i := 1) rfl) | (exact (KX_a.out.alloc _).cell (i := 0) rfl) | (exact (KX_a.out.alloc _).cell (i := 1) rfl) | (go_keep; done) | (simp [World.cell?_alloc_some, World.cell?_setCell_far, *]; done)))
        (first
          | (go_at_call 10; (with_reducible refine (toSketch_at a _ _ w.heap.size HR_a.out HB_a.out (by omega)).mono ?_); rintro e v41 ⟨cs41, fp41, rfl, ho41, hnd41, hf41, hbz⟩; obtain ⟨A_41, n_41, c_41, _, rfl, -⟩ := sk_own ho41; (have HR_a := Lib.hid (sk.keep HR_a.out fun b hb' => hbz.block b (Nat.lt_of_lt_of_le hb' HB_a.out))); (have HB_a := Lib.hid (Nat.le_trans HB_a.out hbz.size)); (have HR_b := Lib.hid (sk.keep HR_b.out fun b hb' => hbz.block b (Nat.lt_of_lt_of_le hb' HB_b.out))); (have HB_b := Lib.hid (Nat.le_trans HB_b.out hbz.size)); (have HW0 := Lib.hid (sk.keep HW0.out fun b hb' => hbz.block b (Nat.lt_of_lt_of_le hb' HW0_s.out))); (have HW0_s := Lib.hid (Nat.le_trans HW0_s.out hbz.size)); (have HXx_a := Lib.hid (sk.keep HXx_a.out fun b hb' => hbz.block b (Nat.lt_of_lt_of_le hb' HXx_a_s.out))); (have HXx_a_s := Lib.hid (Nat.le_trans HXx_a_s.out hbz.size)); (have HXx_b := Lib.hid (sk.keep HXx_b.out fun b hb' => hbz.block b (Nat.lt_of_lt_of_le hb' HXx_b_s.out))); (have HXx_b_s := Lib.hid (Nat.le_trans HXx_b_s.out hbz.size)); (have OX_a := Lib.hid (sk.okeep OX_a.out fun b hb' => hbz.block b (sk.olt OX_a.out b hb'))); (have OX_b := Lib.hid (sk.okeep OX_b.out fun b hb' => hbz.block b (sk.olt OX_b.out b hb'))); (have OG := Lib.hid (sk.okeep OG.out fun b hb' => hbz.block b (sk.olt OG.out b hb'))); (have KP_a := Lib.hid (KP_a.out.bel hbz)); (have KP_b := Lib.hid (KP_b.out.bel hbz)); (have KW := Lib.hid (KW.out.bel hbz)); (have KX_a := Lib.hid (KX_a.out.bel hbz)); (have KX_b := Lib.hid (KX_b.out.bel hbz)); (have KG := Lib.hid (KG.out.bel hbz)); (have HT42 := Lib.hid (below_step HT39.out hbz)); (have HXz_a := Lib.hid (sk.weak ho41 (B := v41.heap.size) (sk.olt ho41))); (have HXz_a_s := Lib.hid (Nat.le_refl v41.heap.size)); clear ho41 hnd41 hf41)
          | (go_at_call 12; (with_reducible refine (eqSketch_at a _ _ _ v41.heap.size (sk.more HXx_a.out HXx_a_s.out) HXz_a.out (Nat.le_refl _)).mono ?_); rintro e v43 ⟨rfl, hbz⟩; (have HR_a := Lib.hid (sk.keep HR_a.out fun b hb' => hbz.block b (Nat.lt_of_lt_of_le hb' HB_a.out))); (have HB_a := Lib.hid (Nat.le_trans HB_a.out hbz.size)); (have HR_b := Lib.hid (sk.keep HR_b.out fun b hb' => hbz.block b (Nat.lt_of_lt_of_le hb' HB_b.out))); (have HB_b := Lib.hid (Nat.le_trans HB_b.out hbz.size)); (have HW0 := Lib.hid (sk.keep HW0.out fun b hb' => hbz.block b (Nat.lt_of_lt_of_le hb' HW0_s.out))); (have HW0_s := Lib.hid (Nat.le_trans HW0_s.out hbz.size)); (have HXx_a := Lib.hid (sk.keep HXx_a.out fun b hb' => hbz.block b (Nat.lt_of_lt_of_le hb' HXx_a_s.out))); (have HXx_a_s := Lib.hid (Nat.le_trans HXx_a_s.out hbz.size)); (have HXx_b := Lib.hid (sk.keep HXx_b.out fun b hb' => hbz.block b (Nat.lt_of_lt_of_le hb' HXx_b_s.out))); (have HXx_b_s := Lib.hid (Nat.le_trans HXx_b_s.out hbz.size)); (have HXz_a := Lib.hid (sk.keep HXz_a.out fun b hb' => hbz.block b (Nat.lt_of_lt_of_le hb' HXz_a_s.out))); (have HXz_a_s := Lib.hid (Nat.le_trans HXz_a_s.out hbz.size)); (have OX_a := Lib.hid (sk.okeep OX_a.out fun b hb' => hbz.block b (sk.olt OX_a.out b hb'))); (have OX_b := Lib.hid (sk.okeep OX_b.out fun b hb' => hbz.block b (sk.olt OX_b.out b hb'))); (have OG := Lib.hid (sk.okeep OG.out fun b hb' => hbz.block b (sk.olt OG.out b hb'))); (have KP_a := Lib.hid (KP_a.out.bel hbz)); (have KP_b := Lib.hid (KP_b.out.bel hbz)); (have KW := Lib.hid (KW.out.bel hbz)); (have KX_a := Lib.hid (KX_a.out.bel hbz)); (have KX_b := Lib.hid (KX_b.out.bel hbz)); (have KG := Lib.hid (KG.out.bel hbz)); (have HT44 := Lib.hid (below_step HT42.out hbz))))
      clear hbz
      have c45_KP_b_0 := KP_b.out.cell (i := 0) rfl
      have c45_KP_b_1 := KP_b.out.cell (i := 1) rfl
      have c45_KX_b_0 := KX_b.out.cell (i := 0) rfl
      have c45_KX_b_1 := KX_b.out.cell (i := 1) rfl
      go_wp2_with fail
      have hdr := (Below.refl v43.heap.size v43).drew
      have HR_a := Lib.hid (sk.keep HR_a.out fun b hb' => hdr.block b (Nat.lt_of_lt_of_le hb' HB_a.out))
      have HB_a := Lib.hid (Nat.le_trans HB_a.out hdr.size)
      have HR_b := Lib.hid (sk.keep HR_b.out fun b hb' => hdr.block b (Nat.lt_of_lt_of_le hb' HB_b.out))
      have HB_b := Lib.hid (Nat.le_trans HB_b.out hdr.size)
      have HW0 := Lib.hid (sk.keep HW0.out fun b hb' => hdr.block b (Nat.lt_of_lt_of_le hb' HW0_s.out))
      have HW0_s := Lib.hid (Nat.le_trans HW0_s.out hdr.size)
      have HXx_a := Lib.hid (sk.keep HXx_a.out fun b hb' => hdr.block b (Nat.lt_of_lt_of_le hb' HXx_a_s.out))
      have HXx_a_s := Lib.hid (Nat.le_trans HXx_a_s.out hdr.size)
      have HXx_b := Lib.hid (sk.keep HXx_b.out fun b hb' => hdr.block b (Nat.lt_of_lt_of_le hb' HXx_b_s.out))
      have HXx_b_s := Lib.hid (Nat.le_trans HXx_b_s.out hdr.size)
      have OX_a := Lib.hid (sk.okeep OX_a.out fun b hb' => hdr.block b (sk.olt OX_a.out b hb'))
      have OX_b := Lib.hid (sk.okeep OX_b.out fun b hb' => hdr.block b (sk.olt OX_b.out b hb'))
      have OG := Lib.hid (sk.okeep OG.out fun b hb' => hdr.block b (sk.olt OG.out b hb'))
      have KP_a := Lib.hid (KP_a.out.bel hdr)
      have KP_b := Lib.hid (KP_b.out.bel hdr)
      have KW := Lib.hid (KW.out.bel hdr)
      have KX_a := Lib.hid (KX_a.out.bel hdr)
      have KX_b := Lib.hid (KX_b.out.bel hdr)
      have KG := Lib.hid (KG.out.bel hdr)
      have HT46 := Lib.hid (below_step HT44.out hdr)
      clear hdr
      have c47_KP_b_0 := KP_b.out.cell (i := 0) rfl
      have c47_KP_b_1 := KP_b.out.cell (i := 1) rfl
      have c47_KX_b_0 := KX_b.out.cell (i := 0) rfl
      have c47_KX_b_1 := KX_b.out.cell (i := 1) rfl
      go_region_held3 (fun wx => wx.cell? ⟨(w.heap.size + 1), 0, none⟩ = some (.slice A_b n_b c_b) ∧ wx.cell? ⟨(w.heap.size + 1), 1, none⟩ = some (.int .i64 b.Total) ∧ wx.cell? ⟨v28.heap.size, 0, none⟩ = some (.slice A_28 n_28 c_28) ∧ wx.cell? ⟨v28.heap.size, 1, none⟩ = some (.int .i64 b.Total))
        (first | (go_keep; done) | ((try dsimp only); go_split_ands; refine ⟨?_, ?_, ?_, ?_⟩ <;> first | (exact below_some hbz (by assumption)) | (exact (KP_b.out.alloc _).cell (i := 0) rfl) | (exact (KP_b.out.alloc _).cell (i := 1) rfl) | (exact (KX_b.out.alloc _).cell (i := 0) rfl) | (exact (KX_b.out.alloc _).cell (i := 1) rfl) | (go_keep; done) | (simp [World.cell?_alloc_some, World.cell?_setCell_far, *]; done)))
        (first
          | (go_at_call 10; (with_reducible refine (toSketch_at b _ _ w.heap.size HR_b.out HB_b.out (by omega)).mono ?_); rintro e v48 ⟨cs48, fp48, rfl, ho48, hnd48, hf48, hbz⟩; obtain ⟨A_48, n_48, c_48, _, rfl, -⟩ := sk_own ho48; (have HR_a := Lib.hid (sk.keep HR_a.out fun b hb' => hbz.block b (Nat.lt_of_lt_of_le hb' HB_a.out))); (have HB_a := Lib.hid (Nat.le_trans HB_a.out hbz.size)); (have HR_b := Lib.hid (sk.keep HR_b.out fun b hb' => hbz.block b (Nat.lt_of_lt_of_le hb' HB_b.out))); (have HB_b := Lib.hid (Nat.le_trans HB_b.out hbz.size)); (have HW0 := Lib.hid (sk.keep HW0.out fun b hb' => hbz.block b (Nat.lt_of_lt_of_le hb' HW0_s.out))); (have HW0_s := Lib.hid (Nat.le_trans HW0_s.out hbz.size)); (have HXx_a := Lib.hid (sk.keep HXx_a.out fun b hb' => hbz.block b (Nat.lt_of_lt_of_le hb' HXx_a_s.out))); (have HXx_a_s := Lib.hid (Nat.le_trans HXx_a_s.out hbz.size)); (have HXx_b := Lib.hid (sk.keep HXx_b.out fun b hb' => hbz.block b (Nat.lt_of_lt_of_le hb' HXx_b_s.out))); (have HXx_b_s := Lib.hid (Nat.le_trans HXx_b_s.out hbz.size)); (have OX_a := Lib.hid (sk.okeep OX_a.out fun b hb' => hbz.block b (sk.olt OX_a.out b hb'))); (have OX_b := Lib.hid (sk.okeep OX_b.out fun b hb' => hbz.block b (sk.olt OX_b.out b hb'))); (have OG := Lib.hid (sk.okeep OG.out fun b hb' => hbz.block b (sk.olt OG.out b hb'))); (have KP_a := Lib.hid (KP_a.out.bel hbz)); (have KP_b := Lib.hid (KP_b.out.bel hbz)); (have KW := Lib.hid (KW.out.bel hbz)); (have KX_a := Lib.hid (KX_a.out.bel hbz)); (have KX_b := Lib.hid (KX_b.out.bel hbz)); (have KG := Lib.hid (KG.out.bel hbz)); (have HT49 := Lib.hid (below_step HT46.out hbz)); (have HXz_b := Lib.hid (sk.weak ho48 (B := v48.heap.size) (sk.olt ho48))); (have HXz_b_s := Lib.hid (Nat.le_refl v48.heap.size)); clear ho48 hnd48 hf48)
          | (go_at_call 12; (with_reducible refine (eqSketch_at b _ _ _ v48.heap.size (sk.more HXx_b.out HXx_b_s.out) HXz_b.out (Nat.le_refl _)).mono ?_); rintro e v50 ⟨rfl, hbz⟩; (have HR_a := Lib.hid (sk.keep HR_a.out fun b hb' => hbz.block b (Nat.lt_of_lt_of_le hb' HB_a.out))); (have HB_a := Lib.hid (Nat.le_trans HB_a.out hbz.size)); (have HR_b := Lib.hid (sk.keep HR_b.out fun b hb' => hbz.block b (Nat.lt_of_lt_of_le hb' HB_b.out))); (have HB_b := Lib.hid (Nat.le_trans HB_b.out hbz.size)); (have HW0 := Lib.hid (sk.keep HW0.out fun b hb' => hbz.block b (Nat.lt_of_lt_of_le hb' HW0_s.out))); (have HW0_s := Lib.hid (Nat.le_trans HW0_s.out hbz.size)); (have HXx_a := Lib.hid (sk.keep HXx_a.out fun b hb' => hbz.block b (Nat.lt_of_lt_of_le hb' HXx_a_s.out))); (have HXx_a_s := Lib.hid (Nat.le_trans HXx_a_s.out hbz.size)); (have HXx_b := Lib.hid (sk.keep HXx_b.out fun b hb' => hbz.block b (Nat.lt_of_lt_of_le hb' HXx_b_s.out))); (have HXx_b_s := Lib.hid (Nat.le_trans HXx_b_s.out hbz.size)); (have HXz_b := Lib.hid (sk.keep HXz_b.out fun b hb' => hbz.block b (Nat.lt_of_lt_of_le hb' HXz_b_s.out))); (have HXz_b_s := Lib.hid (Nat.le_trans HXz_b_s.out hbz.size)); (have OX_a := Lib.hid (sk.okeep OX_a.out fun b hb' => hbz.block b (sk.olt OX_a.out b hb'))); (have OX_b := Lib.hid (sk.okeep OX_b.out fun b hb' => hbz.block b (sk.olt OX_b.out b hb'))); (have OG := Lib.hid (sk.okeep OG.out fun b hb' => hbz.block b (sk.olt OG.out b hb'))); (have KP_a := Lib.hid (KP_a.out.bel hbz)); (have KP_b := Lib.hid (KP_b.out.bel hbz)); (have KW := Lib.hid (KW.out.bel hbz)); (have KX_a := Lib.hid (KX_a.out.bel hbz)); (have KX_b := Lib.hid (KX_b.out.bel hbz)); (have KG := Lib.hid (KG.out.bel hbz)); (have HT51 := Lib.hid (below_step HT49.out hbz))))
      clear hbz
      have hcn_a := Pl.ctopSketch_nn a
      have hcb_a : Pl.ctopSketch a ≤ 50000000 := by have := Pl.ctopbSketch a; omega
      have hcn_b := Pl.ctopSketch_nn b
      have hcb_b : Pl.ctopSketch b ≤ 50000000 := by have := Pl.ctopbSketch b; omega
      have c53_KX_a_0 := KX_a.out.cell (i := 0) rfl
      have c53_KX_a_1 := KX_a.out.cell (i := 1) rfl
      go_wp2_with fail
      refine (markSketch_c a _ _ _ _ OX_a.out ND24.out (by omega) (by omega)).mono ?_
      rintro e v52 ⟨rfl, hch, -⟩
      have HR_a := Lib.hid (sk.keep HR_a.out fun b hb' => hch.block b (Nat.lt_of_lt_of_le hb' HB_a.out) (fun hm => by have := AP24_HR_a.out b hm; omega))
      have HB_a := Lib.hid (Nat.le_trans HB_a.out hch.size)
      have HR_b := Lib.hid (sk.keep HR_b.out fun b hb' => hch.block b (Nat.lt_of_lt_of_le hb' HB_b.out) (fun hm => by have := AP24_HR_b.out b hm; omega))
      have HB_b := Lib.hid (Nat.le_trans HB_b.out hch.size)
      have HW0 := Lib.hid (sk.keep HW0.out fun b hb' => hch.block b (Nat.lt_of_lt_of_le hb' HW0_s.out) (fun hm => by have := AP24_HW0.out b hm; omega))
      have HW0_s := Lib.hid (Nat.le_trans HW0_s.out hch.size)
      have OX_b := Lib.hid (sk.okeep OX_b.out fun b hb' => hch.block b (sk.olt OX_b.out b hb') (fun hm => DP28_OX_a.out b hb' hm))
      have OG := Lib.hid (sk.okeep OG.out fun b hb' => hch.block b (sk.olt OG.out b hb') (fun hm => DP32_OX_a.out b hb' hm))
      have KP_a := Lib.hid (KP_a.out.keep (hch.block _ KP_a.out.lt (NB24_KP_a.out)))
      have KP_b := Lib.hid (KP_b.out.keep (hch.block _ KP_b.out.lt (NB24_KP_b.out)))
      have KW := Lib.hid (KW.out.keep (hch.block _ KW.out.lt (NB24_KW.out)))
      have KX_a := Lib.hid (KX_a.out.keep (hch.block _ KX_a.out.lt (NIKX_a_fp24.out)))
      have KX_b := Lib.hid (KX_b.out.keep (hch.block _ KX_b.out.lt (NIKX_b_fp24.out)))
      have KG := Lib.hid (KG.out.keep (hch.block _ KG.out.lt (NIKG_fp24.out)))
      have HT54 := Lib.hid (Mm.Below.chg HT51.out hch HT51.out.size FR24.out)
      clear hch
      have c56_KX_b_0 := KX_b.out.cell (i := 0) rfl
      have c56_KX_b_1 := KX_b.out.cell (i := 1) rfl
      go_wp2_with fail
      refine (markSketch_c b _ _ _ _ OX_b.out ND28.out (by omega) (by omega)).mono ?_
      rintro e v55 ⟨rfl, hch, -⟩
      have HR_a := Lib.hid (sk.keep HR_a.out fun b hb' => hch.block b (Nat.lt_of_lt_of_le hb' HB_a.out) (fun hm => by have := AP28_HR_a.out b hm; omega))
      have HB_a := Lib.hid (Nat.le_trans HB_a.out hch.size)
      have HR_b := Lib.hid (sk.keep HR_b.out fun b hb' => hch.block b (Nat.lt_of_lt_of_le hb' HB_b.out) (fun hm => by have := AP28_HR_b.out b hm; omega))
      have HB_b := Lib.hid (Nat.le_trans HB_b.out hch.size)
      have HW0 := Lib.hid (sk.keep HW0.out fun b hb' => hch.block b (Nat.lt_of_lt_of_le hb' HW0_s.out) (fun hm => by have := AP28_HW0.out b hm; omega))
      have HW0_s := Lib.hid (Nat.le_trans HW0_s.out hch.size)
      have OG := Lib.hid (sk.okeep OG.out fun b hb' => hch.block b (sk.olt OG.out b hb') (fun hm => DP32_OX_b.out b hb' hm))
      have KP_a := Lib.hid (KP_a.out.keep (hch.block _ KP_a.out.lt (NB28_KP_a.out)))
      have KP_b := Lib.hid (KP_b.out.keep (hch.block _ KP_b.out.lt (NB28_KP_b.out)))
      have KW := Lib.hid (KW.out.keep (hch.block _ KW.out.lt (NB28_KW.out)))
      have KX_a := Lib.hid (KX_a.out.keep (hch.block _ KX_a.out.lt (NB28_KX_a.out)))
      have KX_b := Lib.hid (KX_b.out.keep (hch.block _ KX_b.out.lt (NIKX_b_fp28.out)))
      have KG := Lib.hid (KG.out.keep (hch.block _ KG.out.lt (NIKG_fp28.out)))
      have HT57 := Lib.hid (Mm.Below.chg HT54.out hch HT54.out.size FR28.out)
      clear hch
      have c58_KP_a_0 := KP_a.out.cell (i := 0) rfl
      have c58_KP_a_1 := KP_a.out.cell (i := 1) rfl
      have c58_KP_b_0 := KP_b.out.cell (i := 0) rfl
      have c58_KP_b_1 := KP_b.out.cell (i := 1) rfl
      have c58_KW_0 := KW.out.cell (i := 0) rfl
      have c58_KW_1 := KW.out.cell (i := 1) rfl
      have c58_KX_a_0 := KX_a.out.cell (i := 0) rfl
      have c58_KX_a_1 := KX_a.out.cell (i := 1) rfl
      have c58_KX_b_0 := KX_b.out.cell (i := 0) rfl
      have c58_KX_b_1 := KX_b.out.cell (i := 1) rfl
      have c58_KG_0 := KG.out.cell (i := 0) rfl
      have c58_KG_1 := KG.out.cell (i := 1) rfl
      go_wp2_with fail
      refine (eqSketch_at (Pl.joinSketches a b).1 _ _ _ _ (sk.weak OG.out (B := _) (sk.olt OG.out)) (sk.more HW0.out HW0_s.out) (Nat.le_refl _)).mono ?_
      rintro e v59 ⟨rfl, hbz⟩
      have HR_a := Lib.hid (sk.keep HR_a.out fun b hb' => hbz.block b (Nat.lt_of_lt_of_le hb' HB_a.out))
      have HB_a := Lib.hid (Nat.le_trans HB_a.out hbz.size)
      have HR_b := Lib.hid (sk.keep HR_b.out fun b hb' => hbz.block b (Nat.lt_of_lt_of_le hb' HB_b.out))
      have HB_b := Lib.hid (Nat.le_trans HB_b.out hbz.size)
      have HW0 := Lib.hid (sk.keep HW0.out fun b hb' => hbz.block b (Nat.lt_of_lt_of_le hb' HW0_s.out))
      have HW0_s := Lib.hid (Nat.le_trans HW0_s.out hbz.size)
      have OG := Lib.hid (sk.okeep OG.out fun b hb' => hbz.block b (sk.olt OG.out b hb'))
      have KP_a := Lib.hid (KP_a.out.bel hbz)
      have KP_b := Lib.hid (KP_b.out.bel hbz)
      have KW := Lib.hid (KW.out.bel hbz)
      have KX_a := Lib.hid (KX_a.out.bel hbz)
      have KX_b := Lib.hid (KX_b.out.bel hbz)
      have KG := Lib.hid (KG.out.bel hbz)
      have HT60 := Lib.hid (below_step HT57.out hbz)
      clear hbz
      have hcg : 0 ≤ Pl.ctopSketch (Pl.joinSketches a b).1 := Pl.ctopSketch_nn (Pl.joinSketches a b).1
      have hcgb : Pl.ctopSketch (Pl.joinSketches a b).1 ≤ 50000000 := (joinSketches_cnt a b)
      obtain ⟨cg, hcge⟩ : ∃ z, Pl.ctopSketch (Pl.joinSketches a b).1 = z := ⟨_, rfl⟩
      rw [hcge] at hcg hcgb
      have HCG := Lib.hid hcge
      clear hcge
      have c61_KG_0 := KG.out.cell (i := 0) rfl
      have c61_KG_1 := KG.out.cell (i := 1) rfl
      go_wp2_with fail
      refine (markSketch_c (Pl.joinSketches a b).1 _ _ _ _ OG.out ND32.out (by omega) (by rw [HCG.out]; omega)).mono ?_
      rintro e v62 ⟨rfl, hch, fpm, hom, hndm, hsubm⟩
      rw [HCG.out]
      have HR_a := Lib.hid (sk.keep HR_a.out fun b hb' => hch.block b (Nat.lt_of_lt_of_le hb' HB_a.out) (fun hm => by have := AP32_HR_a.out b hm; omega))
      have HB_a := Lib.hid (Nat.le_trans HB_a.out hch.size)
      have HR_b := Lib.hid (sk.keep HR_b.out fun b hb' => hch.block b (Nat.lt_of_lt_of_le hb' HB_b.out) (fun hm => by have := AP32_HR_b.out b hm; omega))
      have HB_b := Lib.hid (Nat.le_trans HB_b.out hch.size)
      have HW0 := Lib.hid (sk.keep HW0.out fun b hb' => hch.block b (Nat.lt_of_lt_of_le hb' HW0_s.out) (fun hm => by have := AP32_HW0.out b hm; omega))
      have HW0_s := Lib.hid (Nat.le_trans HW0_s.out hch.size)
      have KP_a := Lib.hid (KP_a.out.keep (hch.block _ KP_a.out.lt (NB32_KP_a.out)))
      have KP_b := Lib.hid (KP_b.out.keep (hch.block _ KP_b.out.lt (NB32_KP_b.out)))
      have KW := Lib.hid (KW.out.keep (hch.block _ KW.out.lt (NB32_KW.out)))
      have KX_a := Lib.hid (KX_a.out.keep (hch.block _ KX_a.out.lt (NB32_KX_a.out)))
      have KX_b := Lib.hid (KX_b.out.keep (hch.block _ KX_b.out.lt (NB32_KX_b.out)))
      have KG := Lib.hid (KG.out.keep (hch.block _ KG.out.lt (NIKG_fp32.out)))
      have HT63 := Lib.hid (Mm.Below.chg HT60.out hch HT60.out.size FR32.out)
      clear hch
      have OM := Lib.hid hom
      clear hom hndm hsubm
      have c64_KG_0 := KG.out.cell (i := 0) rfl
      have c64_KG_1 := KG.out.cell (i := 1) rfl
      go_wp2_with fail
      refine (heldSketch_c (Pl.joinSketches a b).1 _ _ _ _ (sk.weak OM.out (B := _) (sk.olt OM.out)) (Nat.le_refl _) (by omega) (by rw [HCG.out]; omega)).mono ?_
      rintro e v65 ⟨rfl, hbz⟩
      rw [HCG.out]
      have HR_a := Lib.hid (sk.keep HR_a.out fun b hb' => hbz.block b (Nat.lt_of_lt_of_le hb' HB_a.out))
      have HB_a := Lib.hid (Nat.le_trans HB_a.out hbz.size)
      have HR_b := Lib.hid (sk.keep HR_b.out fun b hb' => hbz.block b (Nat.lt_of_lt_of_le hb' HB_b.out))
      have HB_b := Lib.hid (Nat.le_trans HB_b.out hbz.size)
      have HW0 := Lib.hid (sk.keep HW0.out fun b hb' => hbz.block b (Nat.lt_of_lt_of_le hb' HW0_s.out))
      have HW0_s := Lib.hid (Nat.le_trans HW0_s.out hbz.size)
      have OM := Lib.hid (sk.okeep OM.out fun b hb' => hbz.block b (sk.olt OM.out b hb'))
      have KP_a := Lib.hid (KP_a.out.bel hbz)
      have KP_b := Lib.hid (KP_b.out.bel hbz)
      have KW := Lib.hid (KW.out.bel hbz)
      have KX_a := Lib.hid (KX_a.out.bel hbz)
      have KX_b := Lib.hid (KX_b.out.bel hbz)
      have KG := Lib.hid (KG.out.bel hbz)
      have HT66 := Lib.hid (below_step HT63.out hbz)
      clear hbz
      have c67_KP_a_0 := KP_a.out.cell (i := 0) rfl
      have c67_KP_a_1 := KP_a.out.cell (i := 1) rfl
      have c67_KP_b_0 := KP_b.out.cell (i := 0) rfl
      have c67_KP_b_1 := KP_b.out.cell (i := 1) rfl
      go_wp2_with fail
      go_cut [15, 16] (fun p q wx => ∃ (P n c : Nat) (A : Option Addr), p = .pointer (some ⟨P, 0, none⟩) ∧ q = .bool (Pl.joinSketches a b).2 ∧ Mm.Blk wx P 26 [.slice A n c, .int .i64 (Pl.joinSketches a b).1.Total] ∧ sk.at_ wx wx.heap.size (Pl.joinSketches a b).1 [.slice A n c, .int .i64 (Pl.joinSketches a b).1.Total] ∧ v65.heap.size ≤ P ∧ Below v65.heap.size v65 wx)
      case first =>
        have e9_a := KP_a.out.cell (i := 0) rfl
        go_region_with
          (first
            | (go_at_call 10; (first | (with_reducible refine (toSketch_at a _ v65.drew w.heap.size (sk.keep HR_a.out fun b hb' => ((Below.refl v65.heap.size v65).drew).block b (Nat.lt_of_lt_of_le hb' HB_a.out)) (Nat.le_trans HB_a.out ((Below.refl v65.heap.size v65).drew).size) (by omega)).mono ?_) | ((have KV := Lib.hid (show Mm.Blk (v65.alloc (.cells #[.slice none 0 0, .int .i64 0] 26)).drew v65.heap.size 26 [.slice none 0 0, .int .i64 0] from Mm.Blk.new v65 26 [.slice none 0 0, .int .i64 0])); (with_reducible refine (toSketch_at a _ (v65.alloc (.cells #[.slice none 0 0, .int .i64 0] 26)).drew w.heap.size (sk.keep HR_a.out fun b hb' => ((below_new (Below.refl v65.heap.size v65) (.cells #[.slice none 0 0, .int .i64 0] 26)).drew).block b (Nat.lt_of_lt_of_le hb' HB_a.out)) (Nat.le_trans HB_a.out ((below_new (Below.refl v65.heap.size v65) (.cells #[.slice none 0 0, .int .i64 0] 26)).drew).size) (by omega)).mono ?_))); rintro e v916 ⟨cs916, fp916, rfl, ho916, hnd916, hf916, hbz⟩; (try clear g0 g1 g2 g3); (try (have KV := Lib.hid (KV.out.bel hbz))); (try (have g0 := KV.out.cell (i := 0) rfl)); (try (have g1 := KV.out.cell (i := 1) rfl)); (try (have g2 := KV.out.frozen 0)); (try (have g3 := KV.out.frozen 1)); (first | (have hbz : Below v65.heap.size v65 v916 := below_step ((Below.refl v65.heap.size v65).drew) hbz) | (have hbz : Below v65.heap.size v65 v916 := below_step ((below_new (Below.refl v65.heap.size v65) (.cells #[.slice none 0 0, .int .i64 0] 26)).drew) hbz)); (have HD916 := Lib.hid (hbz)); obtain ⟨A_916, n_916, c_916, _, rfl, -⟩ := sk_own ho916; (have HR_a := Lib.hid (sk.keep HR_a.out fun b hb' => hbz.block b (Nat.lt_of_lt_of_le hb' HB_a.out))); (have HB_a := Lib.hid (Nat.le_trans HB_a.out hbz.size)); (have HR_b := Lib.hid (sk.keep HR_b.out fun b hb' => hbz.block b (Nat.lt_of_lt_of_le hb' HB_b.out))); (have HB_b := Lib.hid (Nat.le_trans HB_b.out hbz.size)); (have KP_a := Lib.hid (KP_a.out.bel hbz)); (have KP_b := Lib.hid (KP_b.out.bel hbz)); (have HT917 := Lib.hid (below_step HT66.out hbz)); (have HXs_a := Lib.hid (sk.weak ho916 (B := v916.heap.size) (sk.olt ho916))); (have HXs_a_s := Lib.hid (Nat.le_refl v916.heap.size)); clear ho916 hnd916 hf916; (try clear f0a f1a f0b f1b); (have f0a := KP_a.out.cell (i := 0) rfl); (have f1a := KP_a.out.cell (i := 1) rfl); (have f0b := KP_b.out.cell (i := 0) rfl); (have f1b := KP_b.out.cell (i := 1) rfl))
            | (go_at_call 10; (first | (with_reducible refine (toSketch_at b _ _ w.heap.size HR_b.out HB_b.out (by omega)).mono ?_) | ((have KV := Lib.hid (Mm.Blk.new v916 26 [.slice none 0 0, .int .i64 0])); (with_reducible refine (toSketch_at b _ (v916.alloc (.cells #[.slice none 0 0, .int .i64 0] 26)) w.heap.size (sk.keep HR_b.out fun b hb' => (below_new (Below.refl v916.heap.size v916) (.cells #[.slice none 0 0, .int .i64 0] 26)).block b (Nat.lt_of_lt_of_le hb' HB_a.out)) (Nat.le_trans HB_a.out (below_new (Below.refl v916.heap.size v916) (.cells #[.slice none 0 0, .int .i64 0] 26)).size) (by omega)).mono ?_))); rintro e v918 ⟨cs918, fp918, rfl, ho918, hnd918, hf918, hbz⟩; (try clear g0 g1 g2 g3); (try (have KV := Lib.hid (KV.out.bel hbz))); (try (have g0 := KV.out.cell (i := 0) rfl)); (try (have g1 := KV.out.cell (i := 1) rfl)); (try (have g2 := KV.out.frozen 0)); (try (have g3 := KV.out.frozen 1)); (first | (have hbz : Below v916.heap.size v916 v918 := hbz) | (have hbz : Below v916.heap.size v916 v918 := below_step (below_new (Below.refl _ _) _) hbz)); (have HD918 := Lib.hid (below_step HD916.out hbz)); obtain ⟨A_918, n_918, c_918, _, rfl, -⟩ := sk_own ho918; (have HR_a := Lib.hid (sk.keep HR_a.out fun b hb' => hbz.block b (Nat.lt_of_lt_of_le hb' HB_a.out))); (have HB_a := Lib.hid (Nat.le_trans HB_a.out hbz.size)); (have HR_b := Lib.hid (sk.keep HR_b.out fun b hb' => hbz.block b (Nat.lt_of_lt_of_le hb' HB_b.out))); (have HB_b := Lib.hid (Nat.le_trans HB_b.out hbz.size)); (have HXs_a := Lib.hid (sk.keep HXs_a.out fun b hb' => hbz.block b (Nat.lt_of_lt_of_le hb' HXs_a_s.out))); (have HXs_a_s := Lib.hid (Nat.le_trans HXs_a_s.out hbz.size)); (have KP_a := Lib.hid (KP_a.out.bel hbz)); (have KP_b := Lib.hid (KP_b.out.bel hbz)); (have HT919 := Lib.hid (below_step HT917.out hbz)); (have HXs_b := Lib.hid (sk.weak ho918 (B := v918.heap.size) (sk.olt ho918))); (have HXs_b_s := Lib.hid (Nat.le_refl v918.heap.size)); clear ho918 hnd918 hf918; (try clear f0a f1a f0b f1b); (have f0a := KP_a.out.cell (i := 0) rfl); (have f1a := KP_a.out.cell (i := 1) rfl); (have f0b := KP_b.out.cell (i := 0) rfl); (have f1b := KP_b.out.cell (i := 1) rfl))
            | (go_at_call 11; (first | (with_reducible refine (implJoinSketches_c a _ b _ _ _ (sk.more HXs_a.out HXs_a_s.out) (sk.more HXs_b.out HXs_b_s.out) (Nat.le_refl _)).mono ?_) | ((have KV := Lib.hid (Mm.Blk.new v918 26 [.slice none 0 0, .int .i64 0])); (with_reducible refine (implJoinSketches_c a _ b _ (v918.alloc (.cells #[.slice none 0 0, .int .i64 0] 26)) v918.heap.size (sk.keep (sk.more HXs_a.out HXs_a_s.out) fun b hb' => (below_new (Below.refl v918.heap.size v918) (.cells #[.slice none 0 0, .int .i64 0] 26)).block b hb') (sk.keep (sk.more HXs_b.out HXs_b_s.out) fun b hb' => (below_new (Below.refl v918.heap.size v918) (.cells #[.slice none 0 0, .int .i64 0] 26)).block b hb') (below_new (Below.refl v918.heap.size v918) (.cells #[.slice none 0 0, .int .i64 0] 26)).size).mono ?_))); rintro e v920 ⟨cs920, fp920, rfl, ho920, hnd920, hf920, hbz⟩; (try (have NG := Lib.hid (nin_of KV.out hf920))); (try clear g0 g1 g2 g3); (try (have KV := Lib.hid (KV.out.bel hbz))); (try (have g0 := KV.out.cell (i := 0) rfl)); (try (have g1 := KV.out.cell (i := 1) rfl)); (try (have g2 := KV.out.frozen 0)); (try (have g3 := KV.out.frozen 1)); (first | (have hbz : Below v918.heap.size v918 v920 := hbz) | (have hbz : Below v918.heap.size v918 v920 := below_step (below_new (Below.refl _ _) _) hbz)); (have HD920 := Lib.hid (below_step HD918.out hbz)); obtain ⟨A_920, n_920, c_920, _, rfl, -⟩ := sk_own ho920; (have HR_a := Lib.hid (sk.keep HR_a.out fun b hb' => hbz.block b (Nat.lt_of_lt_of_le hb' HB_a.out))); (have HB_a := Lib.hid (Nat.le_trans HB_a.out hbz.size)); (have HR_b := Lib.hid (sk.keep HR_b.out fun b hb' => hbz.block b (Nat.lt_of_lt_of_le hb' HB_b.out))); (have HB_b := Lib.hid (Nat.le_trans HB_b.out hbz.size)); (have HXs_a := Lib.hid (sk.keep HXs_a.out fun b hb' => hbz.block b (Nat.lt_of_lt_of_le hb' HXs_a_s.out))); (have HXs_a_s := Lib.hid (Nat.le_trans HXs_a_s.out hbz.size)); (have HXs_b := Lib.hid (sk.keep HXs_b.out fun b hb' => hbz.block b (Nat.lt_of_lt_of_le hb' HXs_b_s.out))); (have HXs_b_s := Lib.hid (Nat.le_trans HXs_b_s.out hbz.size)); (have KP_a := Lib.hid (KP_a.out.bel hbz)); (have KP_b := Lib.hid (KP_b.out.bel hbz)); (have HT921 := Lib.hid (below_step HT919.out hbz)); (have HV0 := Lib.hid (sk.weak ho920 (B := v920.heap.size) (sk.olt ho920))); (have HV0_s := Lib.hid (Nat.le_refl v920.heap.size)); (have HO920 := Lib.hid ho920); clear ho920 hnd920 hf920; (have ne_a := Nat.ne_of_gt KP_a.out.lt); (have ne_b := Nat.ne_of_gt KP_b.out.lt); (try clear f0a f1a f0b f1b); (have f0a := KP_a.out.cell (i := 0) rfl); (have f1a := KP_a.out.cell (i := 1) rfl); (have f0b := KP_b.out.cell (i := 0) rfl); (have f1b := KP_b.out.cell (i := 1) rfl)))
        all_goals (go_wp2_with fail)
        all_goals go_meet
        all_goals first
          | exact ⟨_, _, _, _, rfl, rfl, box_now HO920.out HD920.out HD920.out.size⟩
          | exact ⟨_, _, _, _, rfl, rfl, box_late KV.out HO920.out NG.out HD920.out (by first | exact Nat.le_refl _ | exact HD916.out.size | exact HD918.out.size)⟩
      case rest =>
      obtain ⟨P90, n_90, c_90, A_90, rfl, rfl, KH, HH, hP90, hbz⟩ := hcut
      have KH := Lib.hid KH
      have HH := Lib.hid HH
      have HH_s := Lib.hid (Nat.le_refl wc.heap.size)
      clear hP90
      have HR_a := Lib.hid (sk.keep HR_a.out fun b hb' => hbz.block b (Nat.lt_of_lt_of_le hb' HB_a.out))
      have HB_a := Lib.hid (Nat.le_trans HB_a.out hbz.size)
      have HR_b := Lib.hid (sk.keep HR_b.out fun b hb' => hbz.block b (Nat.lt_of_lt_of_le hb' HB_b.out))
      have HB_b := Lib.hid (Nat.le_trans HB_b.out hbz.size)
      have HW0 := Lib.hid (sk.keep HW0.out fun b hb' => hbz.block b (Nat.lt_of_lt_of_le hb' HW0_s.out))
      have HW0_s := Lib.hid (Nat.le_trans HW0_s.out hbz.size)
      have OM := Lib.hid (sk.okeep OM.out fun b hb' => hbz.block b (sk.olt OM.out b hb'))
      have KP_a := Lib.hid (KP_a.out.bel hbz)
      have KP_b := Lib.hid (KP_b.out.bel hbz)
      have KW := Lib.hid (KW.out.bel hbz)
      have KX_a := Lib.hid (KX_a.out.bel hbz)
      have KX_b := Lib.hid (KX_b.out.bel hbz)
      have KG := Lib.hid (KG.out.bel hbz)
      have HT76 := Lib.hid (below_step HT66.out hbz)
      clear hbz
      have c77_KW_0 := KW.out.cell (i := 0) rfl
      have c77_KW_1 := KW.out.cell (i := 1) rfl
      have c77_KH_0 := KH.out.cell (i := 0) rfl
      have c77_KH_1 := KH.out.cell (i := 1) rfl
      go_wp2_with fail
      refine (eqSketch_at (Pl.joinSketches a b).1 _ _ _ _ (sk.more HH.out HH_s.out) (sk.more HW0.out HW0_s.out) (Nat.le_refl _)).mono ?_
      rintro e v78 ⟨rfl, hbz⟩
      have HR_a := Lib.hid (sk.keep HR_a.out fun b hb' => hbz.block b (Nat.lt_of_lt_of_le hb' HB_a.out))
      have HB_a := Lib.hid (Nat.le_trans HB_a.out hbz.size)
      have HR_b := Lib.hid (sk.keep HR_b.out fun b hb' => hbz.block b (Nat.lt_of_lt_of_le hb' HB_b.out))
      have HB_b := Lib.hid (Nat.le_trans HB_b.out hbz.size)
      have HW0 := Lib.hid (sk.keep HW0.out fun b hb' => hbz.block b (Nat.lt_of_lt_of_le hb' HW0_s.out))
      have HW0_s := Lib.hid (Nat.le_trans HW0_s.out hbz.size)
      have HH := Lib.hid (sk.keep HH.out fun b hb' => hbz.block b (Nat.lt_of_lt_of_le hb' HH_s.out))
      have HH_s := Lib.hid (Nat.le_trans HH_s.out hbz.size)
      have OM := Lib.hid (sk.okeep OM.out fun b hb' => hbz.block b (sk.olt OM.out b hb'))
      have KP_a := Lib.hid (KP_a.out.bel hbz)
      have KP_b := Lib.hid (KP_b.out.bel hbz)
      have KW := Lib.hid (KW.out.bel hbz)
      have KX_a := Lib.hid (KX_a.out.bel hbz)
      have KX_b := Lib.hid (KX_b.out.bel hbz)
      have KG := Lib.hid (KG.out.bel hbz)
      have KH := Lib.hid (KH.out.bel hbz)
      have HT79 := Lib.hid (below_step HT76.out hbz)
      clear hbz
      have c80_KG_0 := KG.out.cell (i := 0) rfl
      have c80_KG_1 := KG.out.cell (i := 1) rfl
      go_wp2_with fail
      refine (heldSketch_c (Pl.joinSketches a b).1 _ _ _ _ (sk.weak OM.out (B := _) (sk.olt OM.out)) (Nat.le_refl _) (by omega) (by rw [HCG.out]; omega)).mono ?_
      rintro e v81 ⟨rfl, hbz⟩
      rw [HCG.out]
      have HR_a := Lib.hid (sk.keep HR_a.out fun b hb' => hbz.block b (Nat.lt_of_lt_of_le hb' HB_a.out))
      have HB_a := Lib.hid (Nat.le_trans HB_a.out hbz.size)
      have HR_b := Lib.hid (sk.keep HR_b.out fun b hb' => hbz.block b (Nat.lt_of_lt_of_le hb' HB_b.out))
      have HB_b := Lib.hid (Nat.le_trans HB_b.out hbz.size)
      have HW0 := Lib.hid (sk.keep HW0.out fun b hb' => hbz.block b (Nat.lt_of_lt_of_le hb' HW0_s.out))
      have HW0_s := Lib.hid (Nat.le_trans HW0_s.out hbz.size)
      have HH := Lib.hid (sk.keep HH.out fun b hb' => hbz.block b (Nat.lt_of_lt_of_le hb' HH_s.out))
      have HH_s := Lib.hid (Nat.le_trans HH_s.out hbz.size)
      have OM := Lib.hid (sk.okeep OM.out fun b hb' => hbz.block b (sk.olt OM.out b hb'))
      have KP_a := Lib.hid (KP_a.out.bel hbz)
      have KP_b := Lib.hid (KP_b.out.bel hbz)
      have KW := Lib.hid (KW.out.bel hbz)
      have KX_a := Lib.hid (KX_a.out.bel hbz)
      have KX_b := Lib.hid (KX_b.out.bel hbz)
      have KG := Lib.hid (KG.out.bel hbz)
      have KH := Lib.hid (KH.out.bel hbz)
      have HT82 := Lib.hid (below_step HT79.out hbz)
      clear hbz
      go_wp2
      go_ret
      exact ⟨rfl, HT82.out⟩
end Go.Proofs.Ytjmcbggdckfefaa
