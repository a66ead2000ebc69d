/-
  Joined texts, in build order: Rg, Ap, Ra, Am, Cg, Hd, Cm, Cb, Rw, Cc, Sw, Lo. Each part says what it proves; no conditions beyond those that a part names.
-/
import Derived.Test.YtnppcdiicnofpabZ01
import Derived.Test.YtnppcdiicnofpabZ02
import Derived.Test.YtnppcdiicnofpabZ03
import Derived.BigQuiet
import Derived.Deep.AppendLies
import Derived.Deep.LoopGhost
import Derived.BigRegion
/-
  Regions that draw their order and whose operations hand back new things (a call that makes a slice, an alloc, an append): one walk in the order of the text serves every order. What an operation gives, and which earlier operation's things it takes, is told ahead by a plan. No program in sight. No conditions.
-/
namespace Go.Proofs.Ytnppcdiicnofpab
open Go.RowKit
namespace Mm

abbrev Sig := Nat → List Thing
/-- what operation i gives: of its operands' values and the things it takes, a value and things -/
abbrev Rel := List Value → List Thing → Value → List Thing → Prop
def sigUpd (takes : Nat → List Nat) (σ : Sig) (i : Nat) (ds : List Thing) : Sig := fun k => bif k == i then ds else bif (takes i).contains k then [] else σ k

section
variable {P : Program} {ops : Array Oper} {md : Region.Mode} {C : Sig → World → Prop} {D : World → Prop} {rel : Nat → Option Rel} {takes : Nat → List Nat}

def ups (P : Program) (C' : Value → World → Prop) : Result Next → Prop
  | .ok (.value u) w' => C' u w'
  | .ok .skip w' => C' undef w'
  | .ok (.enter f args) w' => Calls P f args w' (fun e w'' => ∃ v, e = .returned v ∧ C' v w'')
  | .ok (.row row args) w' => Rows P row args w' fun v w'' => C' v w''
  | _ => False
def valUpon (w : World) (v : Value) : Result Next → Prop
  | .ok (.value u) w' => w' = w ∧ u = v
  | .ok .skip w' => w' = w ∧ undef = v
  | _ => False
def GDet (P : Program) (D : World → Prop) (o : Oper) (a : Act) (v : Value) : Prop := ∀ w, D w → valUpon w v ((execOp a.eval o).run P w)
def GValid (P : Program) (C : Sig → World → Prop) (takes : Nat → List Nat) (i : Nat) (o : Oper) (a : Act) (σ : Sig) (r : Value → List Thing → Prop) : Prop :=
  ∀ σ' w, C σ' w → (∀ k ∈ takes i, σ' k = σ k) → ups P (fun v w' => ∃ ds, r v ds ∧ C (sigUpd takes σ' i ds) w') ((execOp a.eval o).run P w)
abbrev GRelAt (takes : Nat → List Nat) (r : Rel) (i : Nat) (o : Oper) (a : Act) (σ : Sig) : Value → List Thing → Prop := r (o.op.operands.toList.map a.eval) ((takes i).flatMap σ)

/-- what operation i may bring in state (a, σ): its value, and how the things turn -/
def GStatus (P : Program) (ops : Array Oper) (C : Sig → World → Prop) (D : World → Prop) (rel : Nat → Option Rel) (takes : Nat → List Nat) (i : Nat) (o : Oper) (a : Act) (σ : Sig) (O : Value → (Sig → Sig) → Prop) : Prop :=
  (Region.wanted o (yielded ops a.tmps) = false ∧ O = fun u f => u = undef ∧ f = id) ∨
  (Region.wanted o (yielded ops a.tmps) = true ∧ rel i = none ∧ ∃ v, GDet P D o a v ∧ O = fun u f => u = v ∧ f = id) ∨
  (Region.wanted o (yielded ops a.tmps) = true ∧ ∃ r, rel i = some r ∧ GValid P C takes i o a σ (GRelAt takes r i o a σ) ∧ (∃ v ds, GRelAt takes r i o a σ v ds) ∧ O = fun u f => ∃ ds, GRelAt takes r i o a σ u ds ∧ f = fun s => sigUpd takes s i ds)

def gOp (P : Program) (ops : Array Oper) (C : Sig → World → Prop) (D : World → Prop) (rel : Nat → Option Rel) (takes : Nat → List Nat) (i : Nat) (K : Act → Sig → Prop) (a : Act) (σ : Sig) : Prop :=
  match ops[i]? with
  | none => K a σ
  | some o => ∃ O, GStatus P ops C D rel takes i o a σ O ∧ ∀ v f, O v f → K (a.put o.dst v) (f σ)

theorem gOp_mono {i : Nat} {a : Act} {σ : Sig} {K K' : Act → Sig → Prop} (h : ∀ a s, K a s → K' a s) (hh : gOp P ops C D rel takes i K a σ) : gOp P ops C D rel takes i K' a σ := by
  unfold gOp at *
  split
  · exact h _ _ (by simpa [*] using hh)
  · rename_i o ho
    simp only [ho] at hh
    obtain ⟨O, h1, h2⟩ := hh
    exact ⟨O, h1, fun v f hO => h _ _ (h2 v f hO)⟩

theorem GDet.uniq {o : Oper} {a : Act} {v u : Value} {w : World} (hw : D w) (h : GDet P D o a v) (k : GDet P D o a u) : v = u := by
  have h1 := h w hw
  have h2 := k w hw
  generalize (execOp a.eval o).run P w = r at *
  cases r with
  | ok n w' => cases n <;> simp only [valUpon] at h1 h2 <;> first | exact h1.2.symm.trans h2.2 | exact h1.elim
  | halt x w' => exact h1.elim

theorem GStatus.func {i : Nat} {o : Oper} {a : Act} {σ : Sig} {O O' : Value → (Sig → Sig) → Prop} (hD : ∃ w, D w) (h : GStatus P ops C D rel takes i o a σ O) (k : GStatus P ops C D rel takes i o a σ O') : O = O' := by
  obtain ⟨w, hw⟩ := hD
  rcases h with ⟨h1, h2⟩ | ⟨h1, hr, v, h2, h3⟩ | ⟨h1, r, hr, h2, h3, h4⟩ <;> rcases k with ⟨k1, k2⟩ | ⟨k1, kr, u, k2, k3⟩ | ⟨k1, s, kr, k2, k3, k4⟩
  · rw [h2, k2]
  · rw [h1] at k1; cases k1
  · rw [h1] at k1; cases k1
  · rw [h1] at k1; cases k1
  · rw [h3, k3, GDet.uniq hw h2 k2]
  · rw [hr] at kr; cases kr
  · rw [h1] at k1; cases k1
  · rw [hr] at kr; cases kr
  · rw [hr] at kr; injection kr with kr; subst kr; rw [h4, k4]

theorem GStatus.ex {i : Nat} {o : Oper} {a : Act} {σ : Sig} {O : Value → (Sig → Sig) → Prop} (h : GStatus P ops C D rel takes i o a σ O) : ∃ v f, O v f := by
  rcases h with ⟨_, h2⟩ | ⟨_, _, v, _, h3⟩ | ⟨_, r, _, _, ⟨v, ds, h3⟩, h4⟩
  · exact ⟨undef, id, by rw [h2]; exact ⟨rfl, rfl⟩⟩
  · exact ⟨v, id, by rw [h3]; exact ⟨rfl, rfl⟩⟩
  · exact ⟨v, _, by rw [h4]; exact ⟨ds, h3, rfl⟩⟩

/-- the shape of what turns: nothing, or i's own -/
theorem GStatus.turn {i : Nat} {o : Oper} {a : Act} {σ : Sig} {O : Value → (Sig → Sig) → Prop} (h : GStatus P ops C D rel takes i o a σ O) {v : Value} {f : Sig → Sig} (hO : O v f) : f = id ∨ ∃ ds, f = fun s => sigUpd takes s i ds := by
  rcases h with ⟨_, h2⟩ | ⟨_, _, _, _, h3⟩ | ⟨_, r, _, _, _, h4⟩
  · rw [h2] at hO; exact .inl hO.2
  · rw [h3] at hO; exact .inl hO.2
  · rw [h4] at hO; obtain ⟨ds, _, h⟩ := hO; exact .inr ⟨ds, h⟩

def Indep (takes : Nat → List Nat) (i j : Nat) : Prop := i ≠ j ∧ i ∉ takes j ∧ j ∉ takes i ∧ ∀ k, k ∈ takes i → k ∉ takes j
theorem Indep.symm {i j : Nat} (h : Indep takes i j) : Indep takes j i := ⟨Ne.symm h.1, h.2.2.1, h.2.1, fun k hk hi => h.2.2.2 k hi hk⟩

theorem sigUpd_far {σ : Sig} {i j : Nat} {ds : List Thing} (h : Indep takes i j) {k : Nat} (hk : k ∈ takes j) : sigUpd takes σ i ds k = σ k := by
  unfold sigUpd
  have h1 : (k == i) = false := by rw [beq_eq_false_iff_ne]; rintro rfl; exact h.2.1 hk
  have h2 : (takes i).contains k = false := by
    cases hc : (takes i).contains k
    · rfl
    · exact absurd hk (h.2.2.2 k (by simpa using hc))
  rw [h1, h2]; rfl
theorem sigUpd_comm {σ : Sig} {i j : Nat} {ds es : List Thing} (h : Indep takes i j) : sigUpd takes (sigUpd takes σ i ds) j es = sigUpd takes (sigUpd takes σ j es) i ds := by
  funext k
  unfold sigUpd
  by_cases hi : k = i
  · subst hi
    have h1 : (k == j) = false := by rw [beq_eq_false_iff_ne]; exact h.1
    have h2 : (takes j).contains k = false := by
      cases hc : (takes j).contains k
      · rfl
      · exact absurd (by simpa using hc) h.2.1
    rw [h1, h2]; simp
  · have hi' : (k == i) = false := by rw [beq_eq_false_iff_ne]; exact hi
    rw [hi']
    by_cases hj : k = j
    · subst hj
      have h2 : (takes i).contains k = false := by
        cases hc : (takes i).contains k
        · rfl
        · exact absurd (by simpa using hc) h.2.2.1
      rw [h2]; simp
    · have hj' : (k == j) = false := by rw [beq_eq_false_iff_ne]; exact hj
      rw [hj']
      cases (takes i).contains k <;> cases (takes j).contains k <;> rfl

theorem map_eval_put {o oj : Oper} {a : Act} {v : Value} (h : ∀ d, oj.dst = some d → d ∉ o.looksAt ops) : o.op.operands.toList.map (a.put oj.dst v).eval = o.op.operands.toList.map a.eval := by
  refine List.map_congr_left fun x hx => Act.eval_put fun d hd hxd => h d hd ?_
  subst hxd
  exact List.mem_append_left _ (List.mem_filterMap.2 ⟨.tmp d, hx, rfl⟩)

theorem GStatus.keep {i : Nat} {o oj : Oper} {a : Act} {σ σ' : Sig} {O : Value → (Sig → Sig) → Prop} (h : GStatus P ops C D rel takes i o a σ O) (hs : ∀ cs b, o.op ≠ .select cs b) (hl : ∀ d, oj.dst = some d → d ∉ o.looksAt ops) (u : Value)
    (hσ : ∀ k, k ∈ takes i → σ' k = σ k) : GStatus P ops C D rel takes i o (a.put oj.dst u) σ' O := by
  have e1 := execOp_put o hs a oj.dst u hl
  have e2 := wanted_put o a oj.dst u hl
  have e3 := map_eval_put (a := a) (v := u) hl
  have e4 : (takes i).flatMap σ' = (takes i).flatMap σ := by
    rw [List.flatMap_def, List.flatMap_def]; exact congrArg List.flatten (List.map_congr_left hσ)
  have e5 : ∀ r : Rel, GRelAt takes r i o (a.put oj.dst u) σ' = GRelAt takes r i o a σ := fun r => by unfold GRelAt; rw [e3, e4]
  rcases h with ⟨h1, h2⟩ | ⟨h1, hr, v, h2, h3⟩ | ⟨h1, r, hr, h2, h3, h4⟩
  · exact .inl ⟨by rw [e2]; exact h1, h2⟩
  · refine .inr (.inl ⟨by rw [e2]; exact h1, hr, v, ?_, h3⟩)
    unfold GDet at *
    rw [e1]; exact h2
  · refine .inr (.inr ⟨by rw [e2]; exact h1, r, hr, ?_, ?_, ?_⟩)
    · unfold GValid at *
      rw [e1, e5]
      exact fun s w hc hk => h2 s w hc (fun k hk' => (hk k hk').trans (hσ k hk'))
    · rw [e5]; exact h3
    · rw [e5]; exact h4

/-- operations i and j do not meet: what j does ahead of i, it does behind it -/
theorem gOp_put {i j : Nat} {oi oj : Oper} {O : Value → (Sig → Sig) → Prop} (hD : ∃ w, D w) (hj : ops[j]? = some oj) (hap : oi.apart ops oj = true) (hin : Indep takes i j)
    (hsi : ∀ cs b, oi.op ≠ .select cs b) (hsj : ∀ cs b, oj.op ≠ .select cs b) {K : Act → Sig → Prop} {a : Act} {σ : Sig}
    (hy : GStatus P ops C D rel takes i oi a σ O) (h : ∀ v f, O v f → gOp P ops C D rel takes j K (a.put oi.dst v) (f σ)) :
    gOp P ops C D rel takes j (fun a' s => GStatus P ops C D rel takes i oi a' s O ∧ ∀ v f, O v f → K (a'.put oi.dst v) (f s)) a σ := by
  obtain ⟨h1, h2, h3⟩ := Oper.apart_spec hap
  -- j's status in the state ahead of i
  have back : ∀ v f, O v f → ∃ O', GStatus P ops C D rel takes j oj a σ O' ∧ ∀ u g, O' u g → K ((a.put oi.dst v).put oj.dst u) (g (f σ)) := fun v f hO => by
    have := h v f hO
    unfold gOp at this
    simp only [hj] at this
    obtain ⟨O', k1, k2⟩ := this
    refine ⟨O', ?_, k2⟩
    have e1 := execOp_put oj hsj a oi.dst v h1
    have e2 := wanted_put oj a oi.dst v h1
    have e3 := map_eval_put (a := a) (v := v) h1
    have hσ : ∀ k, k ∈ takes j → f σ k = σ k := fun k hk => by
      rcases hy.turn hO with rfl | ⟨ds, rfl⟩
      · rfl
      · exact sigUpd_far hin hk
    have e4 : (takes j).flatMap (f σ) = (takes j).flatMap σ := by
      rw [List.flatMap_def, List.flatMap_def]; exact congrArg List.flatten (List.map_congr_left hσ)
    have e5 : ∀ r : Rel, GRelAt takes r j oj (a.put oi.dst v) (f σ) = GRelAt takes r j oj a σ := fun r => by unfold GRelAt; rw [e3, e4]
    rcases k1 with ⟨q1, q2⟩ | ⟨q1, hr, x, q2, q3⟩ | ⟨q1, r, hr, q2, q3, q4⟩
    · exact .inl ⟨by rw [← e2]; exact q1, q2⟩
    · refine .inr (.inl ⟨by rw [← e2]; exact q1, hr, x, ?_, q3⟩)
      unfold GDet at *
      rw [← e1]; exact q2
    · refine .inr (.inr ⟨by rw [← e2]; exact q1, r, hr, ?_, ?_, ?_⟩)
      · unfold GValid at *
        rw [← e5, ← e1]
        exact fun s w hc hk => q2 s w hc (fun k hk' => (hk k hk').trans (hσ k hk').symm)
      · rw [← e5]; exact q3
      · rw [← e5]; exact q4
  obtain ⟨v0, f0, hO0⟩ := hy.ex
  obtain ⟨O', k1, _⟩ := back v0 f0 hO0
  unfold gOp
  simp only [hj]
  refine ⟨O', k1, fun u g hg => ⟨hy.keep hsi h3 u (fun k hk => ?_), fun v f hO => ?_⟩⟩
  · rcases k1.turn hg with rfl | ⟨ds, rfl⟩
    · rfl
    · exact sigUpd_far hin.symm hk
  · obtain ⟨O2, m1, m2⟩ := back v f hO
    rw [k1.func hD m1] at hg
    have := m2 u g hg
    rw [Act.put_comm a v u h2] at this
    have e : g (f σ) = f (g σ) := by
      rcases hy.turn hO with rfl | ⟨ds, rfl⟩
      · rfl
      · rcases m1.turn hg with rfl | ⟨es, rfl⟩
        · rfl
        · exact sigUpd_comm hin
    rw [e] at this
    exact this

theorem gOp_of {i : Nat} {oi : Oper} {a : Act} {σ : Sig} {O : Value → (Sig → Sig) → Prop} {K : Act → Sig → Prop} (hi : ops[i]? = some oi) (hy : GStatus P ops C D rel takes i oi a σ O) (h : ∀ v f, O v f → K (a.put oi.dst v) (f σ)) : gOp P ops C D rel takes i K a σ := by
  unfold gOp
  simp only [hi]
  exact ⟨O, hy, h⟩

theorem wpOp_of_gOp (hCD : ∀ σ w, C σ w → D w) {i : Nat} {a : Act} {σ : Sig} {K : Act → Sig → Prop} {K' : Act → World → Prop} {Q' : Exit → Act → World → Prop} {w : World} (hC : C σ w) (h : ∀ a s w', C s w' → K a s → K' a w') (hh : gOp P ops C D rel takes i K a σ) : wpOp P ops Q' i K' a w := by
  unfold gOp at hh
  unfold wpOp
  split
  · rename_i ho; simp only [ho] at hh; exact h _ _ _ hC hh
  · rename_i o ho
    simp only [ho] at hh
    obtain ⟨O, k1, k2⟩ := hh
    rcases k1 with ⟨h1, h2⟩ | ⟨h1, _, v, h2, h3⟩ | ⟨h1, r, _, h2, _, h4⟩
    · rw [h1]
      simp only [Bool.false_eq_true, if_false]
      exact h _ _ _ hC (k2 undef id (by rw [h2]; exact ⟨rfl, rfl⟩))
    · rw [h1]
      simp only [if_true]
      refine .inl ?_
      have h5 := h2 w (hCD _ _ hC)
      have h6 : K (a.put o.dst v) σ := k2 v id (by rw [h3]; exact ⟨rfl, rfl⟩)
      unfold Oper.wp
      generalize (execOp a.eval o).run P w = R at *
      cases R with
      | ok n w' =>
        cases n <;> simp only [valUpon] at h5 <;> simp only [Oper.upon]
        · obtain ⟨rfl, rfl⟩ := h5; exact h _ _ _ hC h6
        · obtain ⟨rfl, rfl⟩ := h5; exact h _ _ _ hC h6
      | halt x w' => exact h5.elim
    · rw [h1]
      simp only [if_true]
      refine .inl ?_
      have h5 := h2 σ w hC (fun _ _ => rfl)
      have h6 : ∀ v ds, GRelAt takes r i o a σ v ds → K (a.put o.dst v) (sigUpd takes σ i ds) := fun v ds hd => k2 v (fun s => sigUpd takes s i ds) (by rw [h4]; exact ⟨ds, hd, rfl⟩)
      unfold Oper.wp
      generalize (execOp a.eval o).run P w = R at *
      cases R with
      | ok n w' =>
        cases n <;> simp only [ups] at h5 <;> simp only [Oper.upon]
        · obtain ⟨ds, h7, h8⟩ := h5; exact h _ _ _ h8 (h6 _ _ h7)
        · obtain ⟨ds, h7, h8⟩ := h5; exact h _ _ _ h8 (h6 _ _ h7)
        · exact h5.mono fun e w'' ⟨v, he, ds, h7, h8⟩ => by subst he; exact h _ _ _ h8 (h6 _ _ h7)
        · exact Rows.mono h5 fun v w'' ⟨ds, h7, h8⟩ => h _ _ _ h8 (h6 _ _ h7)
      | halt x w' => exact h5.elim

/-- the walk in the order of the text -/
def wpGive (P : Program) (ops : Array Oper) (C : Sig → World → Prop) (D : World → Prop) (rel : Nat → Option Rel) (takes : Nat → List Nat) (Q : Act → Sig → Prop) : Nat → List Oper → Act → Sig → Prop
  | _, [], a, σ => Q a σ
  | i, o :: rest, a, σ => ∃ O, GStatus P ops C D rel takes i o a σ O ∧ ∀ v f, O v f → wpGive P ops C D rel takes Q (i + 1) rest (a.put o.dst v) (f σ)

/-- for so many rounds, whatever comes up -/
def headG (P : Program) (md : Region.Mode) (ops : Array Oper) (C : Sig → World → Prop) (D : World → Prop) (rel : Nat → Option Rel) (takes : Nat → List Nat) (n : Nat) (L : Array Bool → Act → Sig → Prop) : Nat → Array Bool → Act → Sig → Prop
  | 0, listed, a, σ => L listed a σ
  | f + 1, listed, a, σ => Region.ready md ops listed ≠ [] ∧ ∀ i ∈ Region.ready md ops listed, i < n ∧ gOp P ops C D rel takes i (headG P md ops C D rel takes n L f (listed.setIfInBounds i true)) a σ

theorem headG_any (hCD : ∀ σ w, C σ w → D w) {n g : Nat} {L : Array Bool → Act → Sig → Prop} {Q : Exit → Act → World → Prop} (hL : ∀ listed a s w, C s w → L listed a s → wpAny P md ops Q g listed a w) :
    ∀ (f : Nat) (listed : Array Bool) (a : Act) (s : Sig) (w : World), C s w → headG P md ops C D rel takes n L f listed a s → wpAny P md ops Q (f + g) listed a w
  | 0, listed, a, s, w, hw, h => by rw [Nat.zero_add]; exact hL _ _ _ _ hw h
  | f + 1, listed, a, s, w, hw, h => by
    rw [show f + 1 + g = (f + g) + 1 by omega]
    exact ⟨fun h0 => absurd h0 h.1, fun i hi => wpOp_of_gOp hCD hw (fun a' s' w' hw' h' => headG_any hCD hL f _ a' s' w' hw' h') (h.2 i hi).2⟩

theorem headG_first (hD : ∃ w, D w) {n i : Nat} {oi : Oper} {O : Value → (Sig → Sig) → Prop} {L : Array Bool → Act → Sig → Prop} (hi : ops[i]? = some oi) (hsel : ∀ (j : Nat) (o : Oper) cs b, ops[j]? = some o → o.op ≠ .select cs b)
    (hw : ∀ listed, HeadInv md ops n listed → listed.getD i true = false → ∀ j ∈ Region.ready md ops listed, j < n) (hin : i < n) (hdone : ∀ listed a s, L listed a s → ∀ j ∈ Region.ready md ops listed, n ≤ j) :
    ∀ (f : Nat) (listed : Array Bool) (a : Act) (σ : Sig), HeadInv md ops n listed →
      (∀ j oj, ops[j]? = some oj → j ≠ i → listed.getD j true = false → (∀ e ∈ oj.after, Region.binds md e = true → e.on ≠ i) → oi.apart ops oj = true ∧ Indep takes i j) →
      i ∈ Region.ready md ops listed → GStatus P ops C D rel takes i oi a σ O → (∀ v f', O v f' → headG P md ops C D rel takes n L f (listed.setIfInBounds i true) (a.put oi.dst v) (f' σ)) → headG P md ops C D rel takes n L (f + 1) listed a σ := by
  intro f
  induction f with
  | zero =>
    intro listed a σ inv _ hr hy H
    have hun := (mem_ready.1 hr).1
    obtain ⟨v0, f0, hO0⟩ := hy.ex
    refine ⟨List.ne_nil_of_mem hr, fun j hj => ?_⟩
    have hjn : j < n := hw _ inv hun j hj
    refine ⟨hjn, ?_⟩
    by_cases hji : j = i
    · subst hji; exact gOp_of hi hy H
    · exact absurd (hdone _ _ _ (H v0 f0 hO0) j (ready_mono hj hji)) (by omega)
  | succ f ih =>
    intro listed a σ inv hfree hr hy H
    have hun := (mem_ready.1 hr).1
    refine ⟨List.ne_nil_of_mem hr, fun j hj => ?_⟩
    have hjn : j < n := hw _ inv hun j hj
    refine ⟨hjn, ?_⟩
    by_cases hji : j = i
    · subst hji; exact gOp_of hi hy H
    · obtain ⟨hjun, oj, hoj, hall⟩ := mem_ready.1 hj
      have hnot : ∀ e ∈ oj.after, Region.binds md e = true → e.on ≠ i := fun e he hb heq => by
        have h1 := hall e he hb
        rw [heq, getD_both hun] at h1
        cases h1
      have hfj := hfree j oj hoj hji hjun hnot
      have h2 := gOp_put hD hoj hfj.1 hfj.2 (fun cs b => hsel i oi cs b hi) (fun cs b => hsel j oj cs b hoj) hy (fun v f' hO => ((H v f' hO).2 j (ready_mono hj hji)).2)
      refine gOp_mono (fun a' s' h3 => ih (listed.setIfInBounds j true) a' s' (inv.set hj hjn) (fun k ok hk hki hku hno => hfree k ok hk hki ?_ hno) (ready_mono hr (Ne.symm hji)) h3.1 (fun v f' hO => by rw [Array.setIfInBounds_comm _ _ hji]; exact h3.2 v f' hO)) h2
      by_cases hjk : j = k
      · subst hjk; exact hjun
      · rwa [getD_set_ne true hjk] at hku

/-- the plan's own check: who comes later than k and does not wait for it, does not meet it -/
def planB (takes : Nat → List Nat) (ops : Array Oper) (md : Region.Mode) : Bool :=
  (List.range ops.size).all fun k => (List.range ops.size).all fun j => Nat.ble j k || (match ops[j]? with | some oj => oj.after.any (fun e => Region.binds md e && e.on == k) | none => true) ||
    (!(takes j).contains k && !(takes k).contains j && (takes k).all fun x => !(takes j).contains x)
theorem planB_spec (h : planB takes ops md = true) {k j : Nat} {oj : Oper} (hj : ops[j]? = some oj) (hkj : k < j) (hno : ∀ e ∈ oj.after, Region.binds md e = true → e.on ≠ k) : Indep takes k j := by
  unfold planB at h
  simp only [List.all_eq_true, List.mem_range] at h
  have hjs := (Array.getElem?_eq_some_iff.1 hj).1
  have h1 := h k (by omega) j hjs
  simp only [hj, Bool.or_eq_true] at h1
  rcases h1 with (h1 | h1) | h1
  · have := Nat.le_of_ble_eq_true h1; omega
  · obtain ⟨x, hx, h2⟩ := Array.any_eq_true.1 h1
    simp only [Bool.and_eq_true, beq_iff_eq] at h2
    exact absurd h2.2 (hno _ (Array.getElem_mem hx) h2.1)
  · simp only [Bool.and_eq_true, Bool.not_eq_true', List.all_eq_true] at h1
    refine ⟨by omega, fun hk => ?_, fun hk => ?_, fun x hx hx' => ?_⟩
    · have := h1.1.1; simp [hk] at this
    · have := h1.1.2; simp [hk] at this
    · have := h1.2 x hx; simp [hx'] at this

theorem headG_lex (hD : ∃ w, D w) {n g : Nat} {Lq : Act → Sig → Prop} (hsel : Region.noSelect ops = true) (hw : ∀ i, i < n → ∀ listed, HeadInv md ops n listed → listed.getD i true = false → ∀ j ∈ Region.ready md ops listed, j < n)
    (hpl : planB takes ops md = true) :
    ∀ (l : List Oper) (k : Nat) (listed : Array Bool) (a : Act) (σ : Sig), (∀ j, j < l.length → l[j]? = ops[k + j]?) → k + l.length = n → HeadInv md ops n listed → (∀ j, j < k → listed.getD j true = true) →
    Region.lexHead md ops g l.length k listed = true → wpGive P ops C D rel takes Lq k l a σ → headG P md ops C D rel takes n (fun listed' a' s' => Region.seqB md ops g n listed' = true ∧ Lq a' s') l.length listed a σ
  | [], k, listed, a, σ, _, hk, _, _, hB, h => by
    have : k = n := by simpa using hk
    subst this
    exact ⟨by simpa [Region.lexHead] using hB, h⟩
  | o :: l, k, listed, a, σ, hl, hk, inv, hlo, hB, h => by
    have h0 : ops[k]? = some o := by simpa using (hl 0 (by simp)).symm
    simp only [List.length_cons, Region.lexHead, Bool.and_eq_true] at hB
    obtain ⟨⟨hr, hf⟩, hB'⟩ := hB
    simp only [List.length_cons] at hk
    have hr' : k ∈ Region.ready md ops listed := by simpa using hr
    obtain ⟨O, hy, hK⟩ := h
    refine headG_first hD h0 (Region.noSelect_spec hsel) (hw k (by omega)) (by omega) (fun listed' a' s' hL => seqB_ready hL.1) l.length listed a σ inv (fun j oj hj hjk hun hno => ⟨Region.free_spec h0 hf j oj hj hjk hun hno, planB_spec hpl hj ?_ hno⟩) hr' hy (fun v f hO =>
      headG_lex hD hsel hw hpl l (k + 1) _ _ _ (fun j hj => by have := hl (j + 1) (by simp; omega); simpa [Nat.add_assoc, Nat.add_comm 1 j] using this) (by omega) (inv.set hr' (by omega)) (fun j hj => ?_) hB' (hK v f hO))
    · rcases Nat.lt_or_ge k j with h | h
      · exact h
      · have := hlo j (by omega)
        rw [hun] at this; cases this
    · by_cases hjk : k = j
      · subst hjk
        have hs : k < listed.size := by rw [inv.size]; exact (Array.getElem?_eq_some_iff.1 h0).1
        simp [hs]
      · rw [getD_set_ne true hjk]; exact hlo j (by omega)
end

section
variable {P : Program} {F : List Nat} {rel : Nat → Option Rel} {takes : Nat → List Nat}
/-- the things of all operations (the number N: the things that were there) -/
def sigAll (N : Nat) (σ : Sig) : List Thing := (List.range (N + 1)).flatMap σ
def GC (F : List Nat) (w : World) (N : Nat) (σ : Sig) (X : World) : Prop := SepF F w X (sigAll N σ)

theorem wp_region_give {id : Nat} {Q : Exit → Act → World → Prop} {a : Act} {w : World} {l : List Oper} (n : Nat) (rel : Nat → Option Rel) (takes : Nat → List Nat) {D : World → Prop} (σ : Sig) (hCD : ∀ X us, SepF F w X us → D X)
    (hm : P.follows .mixedOrders = true) (hB : Region.lexTailB .any l.toArray n = true) (hP : planB takes l.toArray .any = true) (hS : SepF F w w.drew (sigAll l.length σ))
    (h : wpGive P l.toArray (GC F w l.length) D rel takes (fun a' σ' => ∀ X, SepF F w X (sigAll l.length σ') → wpList P l.toArray Q (l.drop n) a' X) 0 (l.take n) a σ) : (Code.region id l.toArray true).wp P Q a w := by
  simp only [Region.lexTailB, Bool.and_eq_true, decide_eq_true_eq] at hB
  obtain ⟨⟨⟨⟨hsel, hn⟩, hs⟩, hc⟩, hlex⟩ := hB
  have hn' : n < l.length := by simpa using hn
  have htl : (l.take n).length = n := by simp; omega
  have hdl : (l.drop n).length = l.toArray.size - n := by simp
  have inv0 : HeadInv .any l.toArray n (Array.replicate l.toArray.size false) :=
    ⟨by simp, fun j oj _ hl => (by rw [getD_replicate_false] at hl; cases hl), fun t _ ht => getD_in (by simpa using ht) (getD_replicate_false _ _)⟩
  have hD : ∃ w, D w := ⟨_, hCD _ _ hS⟩
  have H := headG_lex (md := .any) (g := l.toArray.size - n) hD hsel (fun i hi listed inv hun j hj => Nat.lt_of_not_le fun h => tail_waits hs hc hn inv _ i rfl hi hun j h hj) hP (l.take n) 0 _ a σ (fun j hj => by
    have hj' : j < n := by rw [htl] at hj; exact hj
    simp [hj']) (by simpa using htl) inv0 (fun j hj => by omega) (by rw [htl]; exact hlex) h
  refine wp_region_any hm ?_
  have := headG_any (Q := Q) (C := GC F w l.length) (D := D) (g := l.toArray.size - n) (fun s X hX => hCD X _ hX) (fun listed a' s' w' hw' hL => by
    have := wpAny_of_seq (md := .any) (Q' := Q) (l.drop n) n listed a' w' (fun j => by simp [List.getElem?_drop]) (by rw [hdl]; exact hL.1) (hL.2 w' hw')
    rwa [hdl] at this) _ _ _ _ _ hS H
  rw [htl, show n + (l.toArray.size - n) = l.toArray.size by omega] at this
  exact this

theorem lexHead_of_from (md : Region.Mode) (ops : Array Oper) : ∀ (fuel k : Nat) (listed : Array Bool), Region.lexFrom md ops fuel k listed = true → Region.lexHead md ops 0 fuel k listed = true
  | 0, k, listed, h => by simpa [Region.lexHead, Region.lexFrom, Region.seqB] using h
  | f + 1, k, listed, h => by
    simp only [Region.lexFrom, Region.lexHead, Bool.and_eq_true] at h ⊢
    exact ⟨h.1, lexHead_of_from md ops f _ _ h.2⟩
/-- the same, all of the region in the walk -/
theorem wp_region_give_all {id : Nat} {Q : Exit → Act → World → Prop} {a : Act} {w : World} {l : List Oper} (rel : Nat → Option Rel) (takes : Nat → List Nat) {D : World → Prop} (σ : Sig) (hCD : ∀ X us, SepF F w X us → D X)
    (hm : P.follows .mixedOrders = true) (hB : Region.lexB .any l.toArray = true) (hP : planB takes l.toArray .any = true) (hS : SepF F w w.drew (sigAll l.length σ))
    (h : wpGive P l.toArray (GC F w l.length) D rel takes (fun a' σ' => ∀ X, SepF F w X (sigAll l.length σ') → Q .normal a' X) 0 l a σ) : (Code.region id l.toArray true).wp P Q a w := by
  simp only [Region.lexB, Bool.and_eq_true] at hB
  have inv0 : HeadInv .any l.toArray l.length (Array.replicate l.toArray.size false) :=
    ⟨by simp, fun j oj _ hl => (by rw [getD_replicate_false] at hl; cases hl), fun t h1 ht => by simp at ht; omega⟩
  have hD : ∃ w, D w := ⟨_, hCD _ _ hS⟩
  have H := headG_lex (md := .any) (n := l.length) (g := 0) (Lq := fun a' σ' => ∀ X, SepF F w X (sigAll l.length σ') → Q .normal a' X) hD hB.1 (fun i hi listed inv hun j hj => by
    obtain ⟨_, o, ho, _⟩ := mem_ready.1 hj
    simpa using (Array.getElem?_eq_some_iff.1 ho).1) hP l 0 _ a σ (fun j hj => by simp) (by simp) inv0 (fun j hj => by omega) (lexHead_of_from _ _ _ _ _ (by simpa using hB.2)) h
  refine wp_region_any hm ?_
  have := headG_any (Q := Q) (C := GC F w l.length) (D := D) (g := 0) (fun s X hX => hCD X _ hX) (fun listed a' s' w' hw' hL => ⟨by simpa [Region.seqB] using hL.1, hL.2 w' hw'⟩) _ _ _ _ _ hS H
  simpa using this

/-- nothing that was there has turned -/
theorem sep_und {w X : World} {us : List Thing} (h : SepF [] w X us) : ∃ x : Und w, X = und w x := ⟨⟨X, h.bel0⟩, rfl⟩
end

section
variable {P : Program} {ops : Array Oper} {C : Sig → World → Prop} {D : World → Prop} {rel : Nat → Option Rel} {takes : Nat → List Nat} {Q : Act → Sig → Prop} {i : Nat} {o : Oper} {rest : List Oper} {a : Act} {σ : Sig}
theorem give_nil (h : Q a σ) : wpGive P ops C D rel takes Q i [] a σ := h
theorem give_skip (hw : Region.wanted o (yielded ops a.tmps) = false) (h : wpGive P ops C D rel takes Q (i + 1) rest (a.put o.dst undef) σ) : wpGive P ops C D rel takes Q i (o :: rest) a σ :=
  ⟨_, .inl ⟨hw, rfl⟩, fun v f ⟨h1, h2⟩ => by subst h1; subst h2; exact h⟩
def Op.enters : Op → Bool
  | .move _ | .assign _ | .pick .. | .nilCheck .. | .load .. | .fieldAddr .. | .field .. | .indexAddr .. | .index .. | .build .. | .binOp .. | .unOp .. | .convert .. | .slice .. | .extract .. => false
  | .call c => match c.callee with
    | .builtin .len | .builtin .cap | .builtin .max | .builtin .min => false
    | _ => true
  | _ => true
theorem noE {s : Sem Value} {P : Program} {w w' : World} {f : FuncId} {args : Array Value} : (do pure (Next.value (← s)) : Sem Next).run P w ≠ .ok (.enter f args) w' := by
  intro e
  simp only [Sem.run_bind, Sem.run_pure] at e
  cases h : s.run P w <;> rw [h] at e <;> simp [Result.andThen] at e
theorem noP {P : Program} {w w' : World} {n : Next} : (runtimePanic .nilDeref : Sem Next).run P w ≠ .ok n w' := by
  simp [runtimePanic, go_sem]
theorem no_enter {o : Oper} (h : Op.enters o.op = false) (ρ : Operand → Value) (P : Program) (w w' : World) (f : FuncId) (args : Array Value) : (execOp ρ o).run P w ≠ .ok (.enter f args) w' := by
  unfold execOp
  cases ho : o.op <;> rw [ho] at h <;> simp only [Op.enters, reduceCtorEq] at h <;> try exact noE
  · simp
  · simp
  · intro e
    simp only [Sem.run_bind, Sem.run_pure] at e
    revert e
    generalize (asBool _).run P w = r
    cases r <;> simp [Result.andThen]
  · rename_i x
    dsimp only
    split
    · exact noP
    · exact noP
    · exact noP
    · split
      · exact noP
      · intro e
        simp only [Sem.run_bind] at e
        generalize Sem.run P program w = r1 at e
        cases r1 with
        | halt h1 w1 => simp [Result.andThen] at e
        | ok a1 w1 =>
          simp only [Result.andThen_ok] at e
          generalize Sem.run P _ w1 = r2 at e
          cases r2 with
          | halt h1 w2 => simp [Result.andThen] at e
          | ok a2 w2 =>
            simp only [Result.andThen_ok] at e
            split at e
            · simp only [Sem.run_bind, Sem.run_pure] at e
              generalize Sem.run P (unsupported _) w2 = r3 at e
              cases r3 <;> simp [Result.andThen] at e
            · simp at e
      · simp
    · simp
  · rename_i c
    cases hc : c.callee <;> rw [hc] at h <;> try cases h
    rename_i b
    cases b <;> (try cases h) <;> (simp only [resolve, hc, invoke, builtin, Sem.run_bind, Sem.run_pure, Result.andThen_ok]; intro e; revert e; generalize Sem.run P _ w = r; cases r <;> simp [Result.andThen])
theorem det_of_quiet {v : Value} (h : Op.enters o.op = false) (hq : ∀ w, D w → o.quietAt P a D w v) : GDet P D o a v := fun w hw => by
  have h1 := hq w hw
  unfold Oper.quietAt at h1
  have h2 := no_enter h a.eval P w
  generalize (execOp a.eval o).run P w = R at *
  cases R with
  | ok n w' =>
    cases n <;> simp only [Oper.quietUpon] at h1
    · exact h1
    · exact ⟨h1.1, h1.2.symm⟩
    · exact absurd rfl (h2 _ _ _)
  | halt x w' => exact h1.elim
theorem give_det (hw : Region.wanted o (yielded ops a.tmps) = true) (hr : rel i = none) (hc : Op.enters o.op = false) (h : ∀ K : Act → Prop, (∀ a, wpGive P ops C D rel takes Q (i + 1) rest a σ → K a) → o.quiet P a D K) : wpGive P ops C D rel takes Q i (o :: rest) a σ := by
  obtain ⟨v, h1, h2⟩ := h _ fun _ h => h
  exact ⟨_, .inr (.inl ⟨hw, hr, v, det_of_quiet hc h1, rfl⟩), fun u f ⟨h3, h4⟩ => by subst h3; subst h4; exact h2⟩
theorem give_rel {r : Rel} (hw : Region.wanted o (yielded ops a.tmps) = true) (hr : rel i = some r) (hv : GValid P C takes i o a σ (GRelAt takes r i o a σ)) (hin : ∃ v ds, GRelAt takes r i o a σ v ds)
    (h : ∀ v ds, GRelAt takes r i o a σ v ds → wpGive P ops C D rel takes Q (i + 1) rest (a.put o.dst v) (sigUpd takes σ i ds)) : wpGive P ops C D rel takes Q i (o :: rest) a σ :=
  ⟨_, .inr (.inr ⟨hw, r, hr, hv, hin, rfl⟩), fun v f ⟨ds, h3, h4⟩ => by subst h4; exact h v ds h3⟩
end

/-- what one operation that gives must bring: its value in slot d, and the things, in the place of those that it takes -/
def GvQ (F : List Nat) (w : World) (r : Value → List Thing → Prop) (d : Nat) (df : List Deferred) (rest : List Thing) (x : Exit) (a' : Act) (w' : World) : Prop :=
  x = .normal ∧ a'.defers = df ∧ ∃ ds, r (a'.tmps.getD d undef) ds ∧ SepF F w w' (ds ++ rest)

theorem flatMap_filter_not {β : Type} (p : β → Bool) (f : β → List Thing) : ∀ l : List β, l.flatMap (fun k => bif p k then [] else f k) = (l.filter fun k => !p k).flatMap f
  | [] => rfl
  | x :: l => by
    rw [List.flatMap_cons, flatMap_filter_not p f l, List.filter_cons]
    cases p x <;> simp
theorem flatMap_subN {l m : List Thing} (h : l.Sublist m) : (l.flatMap (·.fp)).Sublist (m.flatMap (·.fp)) := by
  induction h with
  | slnil => exact List.Sublist.refl _
  | cons x h ih => rw [List.flatMap_cons]; exact ih.trans (List.sublist_append_right _ _)
  | cons_cons x h ih => rw [List.flatMap_cons, List.flatMap_cons]; exact List.Sublist.append_left ih _
theorem flatMap_sub {β : Type} (f : β → List Thing) {l m : List β} (h : l.Sublist m) : (l.flatMap f).Sublist (m.flatMap f) := by
  induction h with
  | slnil => exact List.Sublist.refl _
  | cons x h ih => rw [List.flatMap_cons]; exact ih.trans (List.sublist_append_right _ _)
  | cons_cons x h ih => rw [List.flatMap_cons, List.flatMap_cons]; exact List.Sublist.append_left ih _
section
variable {takes : Nat → List Nat} {σ : Sig} {i N : Nat} {ds : List Thing}
theorem sigAll_upd (hi : i ≤ N) : (sigAll N (sigUpd takes σ i ds)).Perm (ds ++ sigAll N (sigUpd takes σ i [])) := by
  unfold sigAll
  have hnd : (List.range (N + 1)).Nodup := List.nodup_range
  have hm : i ∈ List.range (N + 1) := by rw [List.mem_range]; omega
  obtain ⟨s, t, hst⟩ := List.append_of_mem hm
  rw [hst] at hnd ⊢
  have hs : i ∉ s := fun h => (List.nodup_append.1 hnd).2.2 i h i (by simp) rfl
  have ht : i ∉ t := by
    have := (List.nodup_append.1 hnd).2.1
    rw [List.nodup_cons] at this
    exact this.1
  have e : ∀ l : List Nat, i ∉ l → l.flatMap (sigUpd takes σ i ds) = l.flatMap (sigUpd takes σ i []) := fun l hl => by
    rw [List.flatMap_def, List.flatMap_def]
    refine congrArg List.flatten (List.map_congr_left fun k hk => ?_)
    have : (k == i) = false := by rw [beq_eq_false_iff_ne]; rintro rfl; exact hl hk
    unfold sigUpd
    rw [this]; rfl
  have ei : ∀ es, sigUpd takes σ i es i = es := fun es => by unfold sigUpd; simp
  rw [List.flatMap_append, List.flatMap_cons, List.flatMap_append, List.flatMap_cons, e s hs, e t ht, ei, ei, List.nil_append]
  exact List.perm_append_comm_assoc _ _ _
theorem sigAll_take (hn : (takes i).Nodup) (hk : ∀ k ∈ takes i, k ≤ N) : ∃ l', l'.Perm (sigAll N σ) ∧ ((takes i).flatMap σ ++ sigAll N (sigUpd takes σ i [])).Sublist l' := by
  refine ⟨(takes i).flatMap σ ++ ((List.range (N + 1)).filter fun k => !(takes i).contains k).flatMap σ, ?_, ?_⟩
  · rw [← List.flatMap_append]
    refine List.Perm.flatMap_right _ ?_
    rw [List.perm_ext_iff_of_nodup ?_ List.nodup_range]
    · intro k
      rw [List.mem_append, List.mem_filter, List.mem_range]
      by_cases h : k ∈ takes i
      · have := hk k h
        simp [h]; omega
      · simp [h]
    · rw [List.nodup_append]
      refine ⟨hn, List.nodup_range.sublist List.filter_sublist, fun a ha b hb e => ?_⟩
      subst e
      rw [List.mem_filter] at hb
      simp [ha] at hb
  · refine List.Sublist.append_left ?_ _
    unfold sigAll
    have e : sigUpd takes σ i [] = fun k => bif (k == i || (takes i).contains k) then [] else σ k := by
      funext k
      unfold sigUpd
      cases (k == i) <;> cases (takes i).contains k <;> rfl
    rw [e, flatMap_filter_not]
    refine flatMap_sub _ ?_
    rw [show (fun k : Nat => !(k == i || (takes i).contains k)) = fun k => (!(k == i)) && (!(takes i).contains k) by funext k; rw [Bool.not_or], ← List.filter_filter]
    exact List.filter_sublist
end
theorem SepF.subE {F : List Nat} {w0 wr : World} {ts us : List Thing} (h : SepF F w0 wr ts) (hs : us.Sublist ts) : SepF F w0 wr us :=
  ⟨h.chg, h.nd.sublist (flatMap_subN hs), fun b hb => h.new b ((flatMap_subN hs).subset hb), fun t ht => h.hold t (hs.subset ht)⟩
theorem SepF.permE {F : List Nat} {w0 wr : World} {ts us : List Thing} (h : SepF F w0 wr ts) (hp : us.Perm ts) : SepF F w0 wr us :=
  h.conv (List.Perm.flatMap_right _ hp) fun u hu => h.hold u (hp.mem_iff.1 hu)
theorem SepF.sigTake {F : List Nat} {w X : World} {takes : Nat → List Nat} {σ : Sig} {i N : Nat} (h : SepF F w X (sigAll N σ)) (hn : (takes i).Nodup) (hk : ∀ k ∈ takes i, k ≤ N) : SepF F w X ((takes i).flatMap σ ++ sigAll N (sigUpd takes σ i [])) := by
  obtain ⟨l', h1, h2⟩ := sigAll_take (σ := σ) hn hk
  exact (h.permE h1).subE h2
section
variable {P : Program} {F : List Nat} {w : World} {N : Nat} {ops : Array Oper} {D : World → Prop} {rel : Nat → Option Rel} {takes : Nat → List Nat} {Q : Act → Sig → Prop} {i : Nat} {o : Oper} {rest : List Oper} {a : Act} {σ : Sig}
theorem put_get {a : Act} {d : Nat} (hs : d < a.tmps.size) (v : Value) : (a.put (some d) v).tmps.getD d undef = v := by
  simp [Act.put, hs]
theorem gvalid_of {r : Value → List Thing → Prop} (d : Nat) (hd : o.dst = some d) (hs : d < a.tmps.size) (hw : Region.wanted o (yielded ops a.tmps) = true) (hi : i ≤ N) (hn : (takes i).Nodup) (hk : ∀ k ∈ takes i, k ≤ N)
    (h : ∀ others X, SepF F w X ((takes i).flatMap σ ++ others) → wpList P ops (GvQ F w r d a.defers others) [o] a X) : GValid P (GC F w N) takes i o a σ r := by
  intro σ' X hC hag
  have e4 : (takes i).flatMap σ' = (takes i).flatMap σ := by
    rw [List.flatMap_def, List.flatMap_def]; exact congrArg List.flatten (List.map_congr_left hag)
  have h0 : SepF F w X (sigAll N σ') := hC
  have h1 := h0.sigTake hn hk
  rw [e4] at h1
  have h2 := h _ X h1
  have fin : ∀ u w', GvQ F w r d a.defers (sigAll N (sigUpd takes σ' i [])) .normal (a.put o.dst u) w' → ∃ ds, r u ds ∧ GC F w N (sigUpd takes σ' i ds) w' := fun u w' ⟨_, _, ds, h3, h4⟩ => by
    rw [hd, put_get hs] at h3
    exact ⟨ds, h3, h4.permE (sigAll_upd hi)⟩
  unfold wpList at h2
  rw [if_pos hw] at h2
  have h3 : o.wp P a X (fun a' w' => GvQ F w r d a.defers (sigAll N (sigUpd takes σ' i [])) .normal a' w') (GvQ F w r d a.defers (sigAll N (sigUpd takes σ' i []))) := by
    first
      | exact h2
      | exact h2.elim id fun h => by obtain ⟨_, a', w', h, _⟩ := h; cases h
  unfold Oper.wp at h3
  generalize (execOp a.eval o).run P X = R at *
  cases R with
  | ok n w' =>
    cases n <;> simp only [Oper.upon] at h3 <;> simp only [ups] <;> first | exact fin _ _ h3 | skip
    · refine h3.mono fun e w'' he => ?_
      cases e with
      | returned v => exact ⟨v, rfl, fin _ _ he⟩
      | panicked c => exact absurd he.1 (by simp)
      | outgrown => obtain ⟨a', w', h, _⟩ := he; cases h
    · have := h3.2.1
      rw [hd] at this
      exact absurd this (by simp [Act.put])
    · exact Rows.mono h3 fun v w'' he => fin _ _ he
  | halt x w' => cases x <;> simp only [Oper.upon] at h3; exact absurd h3.1 (by simp)

theorem give_op {R : Rel} (d : Nat) (hw : Region.wanted o (yielded ops a.tmps) = true) (hr : rel i = some R) (hd : o.dst = some d) (hs : d < a.tmps.size) (hi : i ≤ N) (hn : (takes i).Nodup) (hk : ∀ k ∈ takes i, k ≤ N)
    (hin : ∃ v ds, R (o.op.operands.toList.map a.eval) ((takes i).flatMap σ) v ds)
    (h : ∀ others X, SepF F w X ((takes i).flatMap σ ++ others) → wpList P ops (GvQ F w (R (o.op.operands.toList.map a.eval) ((takes i).flatMap σ)) d a.defers others) [o] a X)
    (hnext : ∀ v ds, R (o.op.operands.toList.map a.eval) ((takes i).flatMap σ) v ds → wpGive P ops (GC F w N) D rel takes Q (i + 1) rest (a.put (some d) v) (sigUpd takes σ i ds)) : wpGive P ops (GC F w N) D rel takes Q i (o :: rest) a σ :=
  give_rel hw hr (gvalid_of d hd hs hw hi hn hk h) hin (fun v ds hv => by rw [hd]; exact hnext v ds hv)
end

section
variable {P : Program} {F : List Nat} {w : World} {N : Nat} {ops : Array Oper} {D : World → Prop} {rel : Nat → Option Rel} {takes : Nat → List Nat} {Q : Act → Sig → Prop} {i : Nat} {o : Oper} {rest : List Oper} {a : Act} {σ : Sig}
/-- an operation that takes nothing -/
theorem give_op0 {R : Rel} (d : Nat) (hw : Region.wanted o (yielded ops a.tmps) = true) (hr : rel i = some R) (hd : o.dst = some d) (hs : Nat.blt d a.tmps.size = true) (hi : Nat.ble i N = true) (ht : takes i = [])
    (hin : ∃ v ds, R (o.op.operands.toList.map a.eval) [] v ds)
    (h : ∀ others X, SepF F w X others → wpList P ops (GvQ F w (R (o.op.operands.toList.map a.eval) []) d a.defers others) [o] a X)
    (hnext : ∀ v ds, R (o.op.operands.toList.map a.eval) [] v ds → wpGive P ops (GC F w N) D rel takes Q (i + 1) rest (a.put (some d) v) (sigUpd takes σ i ds)) : wpGive P ops (GC F w N) D rel takes Q i (o :: rest) a σ := by
  have e : (takes i).flatMap σ = [] := by rw [ht]; rfl
  refine give_op d hw hr hd (by simpa [Nat.blt_eq] using hs) (Nat.le_of_ble_eq_true hi) (by rw [ht]; exact List.nodup_nil) (by rw [ht]; intro k hk; cases hk) ?_ ?_ ?_
  · rw [e]; exact hin
  · rw [e]; exact h
  · rw [e]; exact hnext
/-- an operation that takes what operation k gave -/
theorem give_op1 {R : Rel} (d k : Nat) (hw : Region.wanted o (yielded ops a.tmps) = true) (hr : rel i = some R) (hd : o.dst = some d) (hs : Nat.blt d a.tmps.size = true) (hi : Nat.ble i N = true) (ht : takes i = [k]) (hk : Nat.ble k N = true)
    (tk : List Thing) (htk : σ k = tk)
    (hin : ∃ v ds, R (o.op.operands.toList.map a.eval) tk v ds)
    (h : ∀ others X, SepF F w X (tk ++ others) → wpList P ops (GvQ F w (R (o.op.operands.toList.map a.eval) tk) d a.defers others) [o] a X)
    (hnext : ∀ v ds, R (o.op.operands.toList.map a.eval) tk v ds → wpGive P ops (GC F w N) D rel takes Q (i + 1) rest (a.put (some d) v) (sigUpd takes σ i ds)) : wpGive P ops (GC F w N) D rel takes Q i (o :: rest) a σ := by
  have e : (takes i).flatMap σ = tk := by rw [ht, ← htk]; simp
  refine give_op d hw hr hd (by simpa [Nat.blt_eq] using hs) (Nat.le_of_ble_eq_true hi) (by rw [ht]; simp) (by rw [ht]; intro x hx; rw [List.mem_singleton.1 hx]; exact Nat.le_of_ble_eq_true hk) ?_ ?_ ?_
  · rw [e]; exact hin
  · rw [e]; exact h
  · rw [e]; exact hnext
end
theorem sep_eq {F : List Nat} {w0 wr : World} {ts us : List Thing} (h : SepF F w0 wr ts) (e : ts = us) : SepF F w0 wr us := e ▸ h
theorem SepF.startDrew (w : World) : SepF [] w w.drew [] := ⟨Chg.of_below (Below.refl _ _).drew, by simp, by simp, by simp⟩
/-- things of a call behind the things that were there -/
theorem SepF.join {F : List Nat} {w0 wr W : World} {ts us : List Thing} (h : SepF F w0 wr ts) (hS : SepF [] wr W us) : SepF F w0 W (us ++ ts) := by
  have h1 := h.step hS.bel0
  refine ⟨h1.chg, ?_, fun b hb => ?_, fun u hu => ?_⟩
  · rw [List.flatMap_append, List.nodup_append]
    refine ⟨hS.nd, h.nd, fun x hx y hy e => ?_⟩
    subst e
    have h2 := h.lt x hy
    rcases hS.new x hx with h3 | h3
    · cases h3
    · omega
  · rw [List.flatMap_append] at hb
    rcases List.mem_append.1 hb with hb | hb
    · rcases hS.new b hb with h3 | h3
      · cases h3
      · have := h.chg.size; exact .inr (by omega)
    · exact h.new b hb
  · rcases List.mem_append.1 hu with hu | hu
    · exact hS.hold u hu
    · exact h1.hold u hu
/-- what operations give -/
def gSl {α : Type} (E : Rep α) (e : TypeId) (xs : List α) : Rel := fun _ _ v ds => ∃ A n c fp, v = .slice A n c ∧ ds = [tsl E e xs (.slice A n c) fp] ∧ Hid (n = xs.length)
def gPtr (T : TypeId) (cs : List Value) : Rel := fun _ _ v ds => ∃ g, v = .pointer (some ⟨g, 0, none⟩) ∧ ds = [tblk g T cs]
def gEmp (e : TypeId) : Rel := fun _ _ v ds => ∃ g, v = .slice (some ⟨g, 0, none⟩) 0 0 ∧ ds = [tblk g e []]
def gVal (x : Value) : Rel := fun _ _ v ds => v = x ∧ ds = []
theorem gSl_in {α : Type} {E : Rep α} {e : TypeId} {xs : List α} {vals : List Value} {tk : List Thing} : ∃ v ds, gSl E e xs vals tk v ds := ⟨_, _, none, xs.length, 0, [], rfl, rfl, rfl⟩
theorem gPtr_in {T : TypeId} {cs vals : List Value} {tk : List Thing} : ∃ v ds, gPtr T cs vals tk v ds := ⟨_, _, 0, rfl, rfl⟩
theorem gEmp_in {e : TypeId} {vals : List Value} {tk : List Thing} : ∃ v ds, gEmp e vals tk v ds := ⟨_, _, 0, rfl, rfl⟩
theorem gVal_in {x : Value} {vals : List Value} {tk : List Thing} : ∃ v ds, gVal x vals tk v ds := ⟨_, _, rfl, rfl⟩
section
variable {F : List Nat} {w X W : World} {others : List Thing} {vals : List Value} {tk : List Thing} {d : Nat} {df : List Deferred} {a' : Act}
theorem gvq_sl {α : Type} {E : Rep α} {e : TypeId} {xs : List α} {A : Option Addr} {n c : Nat} {fp : List Nat} (h : SepF F w X others) (hb : Below X.heap.size X W) (hs : SlOwn E e W xs (.slice A n c) fp) (hnd : fp.Nodup) (hnew : ∀ b, b ∈ fp → X.heap.size ≤ b)
    (hv : a'.tmps.getD d undef = .slice A n c) (hdf : a'.defers = df) : GvQ F w (gSl E e xs vals tk) d df others .normal a' W := by
  obtain ⟨A', n', c', h1, h2, _⟩ := hs.form
  injection h1 with e1 e2 e3
  exact ⟨rfl, hdf, _, ⟨A, n, c, fp, hv, rfl, e2.trans h2⟩, h.add hb (t := tsl E e xs (.slice A n c) fp) hs hnd hnew⟩
theorem gvq_ptr {T : TypeId} {cs : List Value} {g : Nat} (h : SepF F w X others) (hg : X.heap.size = g) (hv : a'.tmps.getD d undef = .pointer (some ⟨g, 0, none⟩)) (hdf : a'.defers = df) : GvQ F w (gPtr T cs vals tk) d df others .normal a' (X.alloc (.cells cs.toArray T)) :=
  ⟨rfl, hdf, _, ⟨_, hv, rfl⟩, h.alloc' hg T cs⟩
theorem gvq_emp {e : TypeId} {g : Nat} (h : SepF F w X others) (hg : X.heap.size = g) (hv : a'.tmps.getD d undef = .slice (some ⟨g, 0, none⟩) 0 0) (hdf : a'.defers = df) : GvQ F w (gEmp e vals tk) d df others .normal a' (X.alloc (.cells #[] e)) :=
  ⟨rfl, hdf, _, ⟨_, hv, rfl⟩, h.alloc' hg e []⟩
theorem gvq_val {x : Value} (h : SepF F w X others) (hb : Below X.heap.size X W) (hv : a'.tmps.getD d undef = x) (hdf : a'.defers = df) : GvQ F w (gVal x vals tk) d df others .normal a' W :=
  ⟨rfl, hdf, [], ⟨hv, rfl⟩, h.step hb⟩
end
end Mm
end Go.Proofs.Ytnppcdiicnofpab

/-
  An owned slice whose element k is itself owned: the element is replaced by one that leads elsewhere; an element that is a slice grows by append. No program in sight. No conditions.
-/
namespace Go.Proofs.Ytnppcdiicnofpab
open Go.RowKit
namespace Mm
section
variable {α : Type} {E : Rep α} {e : TypeId} {w : World} {xs : List α} {fp : List Nat}
theorem SlOwn.repl {g n c : Nat} (h : SlOwn E e w xs (.slice (some ⟨g, 0, none⟩) n c) fp) (hnd : fp.Nodup) (hE : E.size = 1) {i : Nat} {x : α} (hi : xs[i]? = some x) :
    ∃ cs fx, E.own w x cs fx ∧ fx.Nodup ∧ (∀ b, b ∈ fx → b ∈ fp ∧ b ≠ g) ∧ (∀ j u, cs[j]? = some u → w.cell? ⟨g, i + j, none⟩ = some u) ∧
      ∀ W x' u' fx', Chg fx w W → E.own (W.setCell ⟨g, i, none⟩ u') x' [u'] fx' → fx'.Nodup → (∀ b, b ∈ fx' → b ∈ fx ∨ w.heap.size ≤ b) →
        ∃ fp', SlOwn E e (W.setCell ⟨g, i, none⟩ u') (xs.set i x') (.slice (some ⟨g, 0, none⟩) n c) fp' ∧ fp'.Nodup ∧ ∀ b, b ∈ fp' → b ∈ fp ∨ w.heap.size ≤ b := by
  obtain ⟨es, he, ho, rfl⟩ := h
  have hn : n = xs.length := by
    rcases ho.2 with ⟨h, _⟩ | ⟨g', cap, cur, h, _⟩
    · cases h
    · injection h
  subst hn
  have hil : i < xs.length := (List.getElem?_eq_some_iff.1 hi).1
  have hie : i < es.length := by rw [he.1]; exact hil
  have hy := List.getElem?_eq_getElem hie
  have hown := he.2 i x _ hi hy
  simp only [Value.ownBlock, Option.toList_some, List.singleton_append, List.nodup_cons] at hnd
  have hgn : ∀ y ∈ es, g ∉ y.2 := fun y hy hg => hnd.1 (List.mem_flatMap.2 ⟨y, hy, hg⟩)
  have e1 : es = es.take i ++ es[i] :: es.drop (i + 1) := by rw [← List.drop_eq_getElem_cons hie, List.take_append_drop]
  have hd := hnd.2
  rw [e1] at hd
  simp only [List.flatMap_append, List.flatMap_cons, List.nodup_append] at hd
  have hmem : ∀ b, b ∈ es[i].2 → b ∈ es.flatMap (·.2) := fun b hb => List.mem_flatMap.2 ⟨_, List.getElem_mem hie, hb⟩
  have hlt : g < w.heap.size := (ho.lt g (by simp [Value.ownBlock])).2
  have holt : ∀ b, b ∈ es.flatMap (·.2) → b < w.heap.size := fun b hb => by
    obtain ⟨y, hy, hb⟩ := List.mem_flatMap.1 hb
    obtain ⟨k, hk, rfl⟩ := List.mem_iff_getElem.1 hy
    exact E.olt (he.2 k _ _ (List.getElem?_eq_getElem (show k < xs.length by rw [← he.1]; exact hk)) (List.getElem?_eq_getElem hk)) b hb
  refine ⟨es[i].1, es[i].2, hown, hd.2.1.1, fun b hb => ⟨List.mem_append_right _ (hmem b hb), fun e => hgn _ (List.getElem_mem hie) (e ▸ hb)⟩, fun j u hu => ?_, fun W x' u' fx' hc hx' hxn hxs => ?_⟩
  · have := ho.cells (g := g) rfl (i * E.size + j) u (flatMap_get (·.1) E.size es he.len i _ j u hy hu)
    rw [add0, hE, Nat.mul_one] at this
    exact this
  · have m1 : ∀ y, y ∈ es.take i → ∀ b, b ∈ y.2 → b ∉ es[i].2 := fun y hy b hb hm => hd.2.2 b (List.mem_flatMap.2 ⟨y, hy, hb⟩) b (List.mem_append_left _ hm) rfl
    have m2 : ∀ y, y ∈ es.drop (i + 1) → ∀ b, b ∈ y.2 → b ∉ es[i].2 := fun y hy b hb hm => hd.2.1.2.2 b hm b (List.mem_flatMap.2 ⟨y, hy, hb⟩) rfl
    have e2 : es.set i ([u'], fx') = es.take i ++ ([u'], fx') :: es.drop (i + 1) := List.set_eq_take_append_cons_drop.trans (by rw [if_pos hie])
    have hsub : ∀ b, b ∈ (es.set i ([u'], fx')).flatMap (·.2) → b ∈ es.flatMap (·.2) ∨ w.heap.size ≤ b := by
      intro b hb
      obtain ⟨y, hy, hb⟩ := List.mem_flatMap.1 hb
      rcases List.mem_or_eq_of_mem_set hy with h | rfl
      · exact .inl (List.mem_flatMap.2 ⟨y, h, hb⟩)
      · rcases hxs b hb with h | h
        · exact .inl (hmem b h)
        · exact .inr h
    have hoW : W.ownsRow 0 e E.size (.slice (some ⟨g, 0, none⟩) xs.length c) xs.length (es.flatMap (·.1)) := by
      refine ⟨ho.1, ?_⟩
      rcases ho.2 with h | ⟨g', cap, cur, hv, h1, h2, h3⟩
      · exact .inl h
      · injection hv with hA _ hcap
        subst hcap
        injection hA with hA
        injection hA with hA
        subst hA
        exact .inr ⟨g, _, cur, rfl, h1, (hc.block g hlt (hgn _ (List.getElem_mem hie))).trans h2, h3⟩
    refine ⟨_, ⟨es.set i ([u'], fx'), ⟨by rw [List.length_set, List.length_set, he.1], fun k y z hy hz => ?_⟩, ?_, rfl⟩, ?_, ?_⟩
    · by_cases hki : i = k
      · subst hki
        rw [List.getElem?_set_self hie] at hz
        rw [List.getElem?_set_self hil] at hy
        injection hy with hy; injection hz with hz
        subst hy; subst hz
        exact hx'
      · rw [List.getElem?_set_ne hki] at hz hy
        have hk := he.2 k y z hy hz
        refine E.okeep hk fun b hb => (Below.heap_setCell _ _ _ _ (show b ≠ g from fun e => hgn z (List.mem_of_getElem? hz) (e ▸ hb))).trans (hc.block b (E.olt hk b hb) ?_)
        have hkl : k < es.length := (List.getElem?_eq_some_iff.1 hz).1
        rcases Nat.lt_or_gt_of_ne hki with h | h
        · refine m2 z (List.mem_of_getElem? (i := k - (i + 1)) ?_) b hb
          rw [List.getElem?_drop, show i + 1 + (k - (i + 1)) = k by omega]
          exact hz
        · refine m1 z (List.mem_of_getElem? (i := k) ?_) b hb
          rw [List.getElem?_take, if_pos h]
          exact hz
    · rw [List.length_set]
      have h1 := (hoW.stored i u').1
      have hll := setList_elems E.size es i [u'] fx' he.len (by rw [hE]; rfl) hie
      have h2 : setList (es.flatMap (·.1)) (i * E.size) [u'] = (es.flatMap (·.1)).set i u' := by rw [hE, Nat.mul_one]; rfl
      rw [← hll, h2]
      rw [hE] at h1 ⊢
      exact h1
    · simp only [Value.ownBlock, Option.toList_some, List.singleton_append, List.nodup_cons]
      refine ⟨fun hg => ?_, ?_⟩
      · rcases hsub g hg with h | h
        · exact hnd.1 h
        · omega
      rw [e2]
      simp only [List.flatMap_append, List.flatMap_cons, List.nodup_append]
      refine ⟨hd.1, ⟨hxn, hd.2.1.2.1, fun a ha b hb hab => ?_⟩, fun a ha b hb hab => ?_⟩
      · rcases hxs a ha with h | h
        · exact hd.2.1.2.2 a h b hb hab
        · subst hab
          have := holt a (by rw [e1]; simp only [List.flatMap_append, List.flatMap_cons]; exact List.mem_append_right _ (List.mem_append_right _ hb))
          omega
      · subst hab
        rcases List.mem_append.1 hb with hb | hb
        · rcases hxs a hb with h | h
          · exact hd.2.2 a ha a (List.mem_append_left _ h) rfl
          · have := holt a (by rw [e1]; simp only [List.flatMap_append]; exact List.mem_append_left _ ha)
            omega
        · exact hd.2.2 a ha a (List.mem_append_right _ hb) rfl
    · intro b hb
      rcases List.mem_append.1 hb with h | h
      · exact .inl (List.mem_append_left _ h)
      · rcases hsub b h with h | h
        · exact .inl (List.mem_append_right _ h)
        · exact .inr h
end
theorem cell_heq {w w' : World} {g : Nat} (h : w'.heap[g]? = w.heap[g]?) (i : Nat) : w'.cell? ⟨g, i, none⟩ = w.cell? ⟨g, i, none⟩ := by simp [World.cell?, h]
theorem frz_heq {w w' : World} {g : Nat} (h : w'.heap[g]? = w.heap[g]?) (i : Nat) : w'.frozen? ⟨g, i, none⟩ = w.frozen? ⟨g, i, none⟩ := by simp [World.frozen?, h]
/-- the inner slice of element k, alone: when it has become another, its header is stored in its place -/
theorem SepF.openIn {β : Type} {E1 : Rep β} {e1 e2 : TypeId} {F : List Nat} {w0 wr : World} {ts : List Thing} {xss : List (List β)} {ys : List β} {fp : List Nat} {g n c k : Nat}
    (h : SepF F w0 wr ts) (i : Nat) (hi : ts[i]? = some (tsl (slice E1 e1) e2 xss (.slice (some ⟨g, 0, none⟩) n c) fp)) (hk : xss[k]? = some ys) :
    ∃ A m d fx, wr.cell? ⟨g, k, none⟩ = some (.slice A m d) ∧ m = ys.length ∧ SlOwn E1 e1 wr ys (.slice A m d) fx ∧ fx.Nodup ∧ g ∉ fx ∧ (∀ (j : Nat) u, j ≠ i → ts[j]? = some u → ∀ b, b ∈ u.fp → b ∉ fx) ∧ (∀ b, b ∈ fx → b ∈ fp) ∧
      ∀ W ys' A' m' d' fx', SepF fx wr W [tsl E1 e1 ys' (.slice A' m' d') fx'] →
        W.cell? ⟨g, k, none⟩ = some (.slice A m d) ∧ W.frozen? ⟨g, k, none⟩ = false ∧ (∀ (j : Nat) u, j ≠ i → ts[j]? = some u → u.holds W) ∧
        ∃ fp', SepF F w0 (W.setCell ⟨g, k, none⟩ (.slice A' m' d')) (ts.set i (tsl (slice E1 e1) e2 (xss.set k ys') (.slice (some ⟨g, 0, none⟩) n c) fp')) := by
  have ho : SlOwn (slice E1 e1) e2 wr xss (.slice (some ⟨g, 0, none⟩) n c) fp := h.at_ i hi
  have hg2 : g ∈ fp := ho.mem_block
  have hglt : g < wr.heap.size := ho.olt g hg2
  obtain ⟨cs, fx, k1, k2, k3, k4, k5⟩ := ho.repl (h.ndat hi) rfl hk
  obtain ⟨v, rfl, hv⟩ := k1
  obtain ⟨A, m, d, rfl, hm, hmc, _⟩ := hv.form
  have hc := k4 0 _ rfl
  have hgx : g ∉ fx := fun hh => (k3 g hh).2 rfl
  refine ⟨A, m, d, fx, hc, hm, hv, k2, hgx, fun j u hji hj b hb hm => h.apart hj hi hji b hb (k3 b hm).1, fun b hb => (k3 b hb).1, fun W ys' A' m' d' fx' hS => ?_⟩
  have hchg : Chg fx wr W := hS.chg
  have m1 : SlOwn E1 e1 W ys' (.slice A' m' d') fx' := hS.sl 0 rfl
  have hgq : ∀ b, b ∈ fx' → b ∈ fx ∨ wr.heap.size ≤ b := fun b hb => hS.new b (by simpa [tsl] using hb)
  have hgnq : g ∉ fx' := fun hh => by
    rcases hgq g hh with h | h
    · exact hgx h
    · omega
  have hown : (slice E1 e1).own (W.setCell ⟨g, k, none⟩ (.slice A' m' d')) ys' [.slice A' m' d'] fx' :=
    ⟨_, rfl, m1.okeep fun b hb => Below.heap_setCell _ _ _ _ (show b ≠ g from fun e => hgnq (e ▸ hb))⟩
  obtain ⟨fp', q1, q2, q3⟩ := k5 W ys' _ fx' hchg hown (by simpa [tsl] using hS.nd) hgq
  refine ⟨?_, ?_, fun j u hji hj => ?_, fp', ?_⟩
  · rw [cell_heq (hchg.block g hglt hgx)]
    exact hc
  · rw [frz_heq (hchg.block g hglt hgx)]
    exact ho.frozen k
  · exact u.keep (h.at_ j hj) fun b hb => hchg.block b (u.lt (h.at_ j hj) b hb) (fun hm => h.apart hj hi hji b hb (k3 b hm).1)
  · exact h.upd hi ((hchg.more fun b hb => (k3 b hb).1).setCell hg2 _) q1 q2 q3
end Mm
end Go.Proofs.Ytnppcdiicnofpab

/-
  Regions that draw their order and append to a slice that is owned: the plan's law on append, and the class of the worlds in which only certain blocks have turned. No program in sight. No conditions.
-/
namespace Go.Proofs.Ytnppcdiicnofpab
open Go.RowKit
/-- a world in which only blocks of F have turned -/
structure Cha (F : List Nat) (w : World) where
  X : World
  h : Mm.Chg F w X
def cha (F : List Nat) (w : World) (x : Cha F w) : World := x.X
instance (F : List Nat) (w : World) : Nonempty (Cha F w) := ⟨⟨w, Mm.Chg.refl _ _⟩⟩
theorem cha_cell {F : List Nat} {w : World} (x : Cha F w) (a : Addr) (hn : a.block ∉ F) (h : (w.cell? a).isSome = true) : (cha F w x).cell? a = w.cell? a := by
  obtain ⟨u, hu⟩ := Option.isSome_iff_exists.1 h
  exact World.cell?_of_block (x.h.block a.block (World.block_lt_of_cell? w a hu) hn)
namespace Mm
theorem SepF.atW {F : List Nat} {w0 wr W : World} {ts : List Thing} (h : SepF F w0 wr ts) (e : wr = W) : SepF F w0 W ts := e ▸ h
theorem SepF.rot3 {F : List Nat} {w0 wr : World} {ts : List Thing} {a b c : Thing} (h : SepF F w0 wr (a :: b :: c :: ts)) : SepF F w0 wr (ts ++ [a, b, c]) := h.permE (List.perm_append_comm (l₁ := ts) (l₂ := [a, b, c]))
theorem sep_cha {F : List Nat} {w X : World} {us : List Thing} (h : SepF F w X us) : ∃ x : Cha F w, X = cha F w x := ⟨⟨X, h.chg⟩, rfl⟩
section
variable {P : Program} {F : List Nat} {w X : World} {ops : Array Oper} {o : Oper} {a : Act} {others tk : List Thing} {vals : List Value}
/-- append of one element to a slice that is owned -/
theorem app_gvq {α : Type} {E : Rep α} {e : TypeId} {xs : List α} {x : α} {cx : List Value} {v : Value} {fp : List Nat} {gb : Nat} (hgd : o.guard = none) (s y : Operand) (t : TypeId)
    (ho : o.op = .call { callee := .builtin .append, args := #[s, y], argTypes := #[t, t] }) (d : Nat) (hd : o.dst = some d) (hs : Nat.blt d a.tmps.size = true) (i : TypeInfo) (z : Value) (bytes : Nat)
    (ht : P.underlying t = some (.slice e)) (hi : P.info? e = some i) (hz : i.zero = some z) (hsize : i.size = E.size) (hby : i.bytes = bytes) (hzs : z.cells.size = E.size) (h0 : 0 < E.size)
    (hsv : a.eval s = v) (hyv : a.eval y = .slice (some ⟨gb, 0, none⟩) 1 1) (hx : ∀ W, E.own W x cx []) (h63 : xs.length + 1 ≤ maxLen) (hbytes : (xs.length + 1) * bytes ≤ 140737488355328)
    (hS : SepF F w X ([tblk gb e cx, tsl E e xs v fp] ++ others)) : wpList P ops (GvQ F w (gSl E e (xs ++ [x]) vals tk) d a.defers others) [o] a X := by
  obtain ⟨l0, ho1, hnext⟩ := hS.push0 1 rfl (Below.refl _ _) (x := x) (hx _)
  have hb : Blk X gb e cx := hS.at_ 0 rfl
  unfold wpList
  rw [if_pos (by simp [Region.wanted, hgd])]
  refine .inl (wp_append_lies _ s y t ho 0 e i z E.size bytes ht hi hz hsize hby hzs h0 v xs.length l0 hsv ho1 ⟨gb, 0, none⟩ 1 1 cx hyv (by rw [Nat.one_mul]; exact E.olen (hx X)) ?_ (E.one (hx X)) (by omega) h63 hbytes (Nat.zero_le _) _ rfl ?_)
  · have h1 := World.news_of_block hb
    simpa using h1
  · intro gg cap w4 hown1 hgrow hat hlt
    obtain ⟨fp', hs4⟩ := hnext gg cap w4 hown1 hgrow hat
    have e1 : ((a.put o.dst (.slice (some ⟨gg, 0, none⟩) (xs.length + 1) cap)).tmps.getD d undef) = .slice (some ⟨gg, 0, none⟩) (xs.length + 1) cap := by
      rw [hd]; exact put_get (by simpa [Nat.blt_eq] using hs) _
    exact ⟨rfl, by rw [hd]; rfl, _, ⟨some ⟨gg, 0, none⟩, xs.length + 1, cap, fp', e1, rfl, by show _ = _; simp⟩, hs4.tail⟩
/-- the block of the elements that are to be appended -/
def gBs (e : TypeId) (cx : List Value) : Rel := fun _ _ v ds => ∃ g, v = .slice (some ⟨g, 0, none⟩) 1 1 ∧ ds = [tblk g e cx]
theorem gBs_in {e : TypeId} {cx : List Value} {vals : List Value} {tk : List Thing} : ∃ v ds, gBs e cx vals tk v ds := ⟨_, _, 0, rfl, rfl⟩
theorem gvq_bs {e : TypeId} {cx : List Value} {g d : Nat} {df : List Deferred} {a' : Act} (h : SepF F w X others) (hg : X.heap.size = g) (hv : a'.tmps.getD d undef = .slice (some ⟨g, 0, none⟩) 1 1) (hdf : a'.defers = df) : GvQ F w (gBs e cx vals tk) d df others .normal a' (X.alloc (.cells cx.toArray e)) :=
  ⟨rfl, hdf, _, ⟨_, hv, rfl⟩, h.alloc' hg e cx⟩
end
section
variable {P : Program} {F : List Nat} {w : World} {N : Nat} {ops : Array Oper} {D : World → Prop} {rel : Nat → Option Rel} {takes : Nat → List Nat} {Q : Act → Sig → Prop} {i : Nat} {o : Oper} {rest : List Oper} {a : Act} {σ : Sig}
/-- an operation that takes what operations j and k gave -/
theorem give_op2 {R : Rel} (d j k : Nat) (hw : Region.wanted o (yielded ops a.tmps) = true) (hr : rel i = some R) (hd : o.dst = some d) (hs : Nat.blt d a.tmps.size = true) (hi : Nat.ble i N = true) (ht : takes i = [j, k]) (hjk : (j == k) = false) (hj : Nat.ble j N = true) (hk : Nat.ble k N = true)
    (tj tk : List Thing) (htj : σ j = tj) (htk : σ k = tk)
    (hin : ∃ v ds, R (o.op.operands.toList.map a.eval) (tj ++ tk) v ds)
    (h : ∀ others X, SepF F w X ((tj ++ tk) ++ others) → wpList P ops (GvQ F w (R (o.op.operands.toList.map a.eval) (tj ++ tk)) d a.defers others) [o] a X)
    (hnext : ∀ v ds, R (o.op.operands.toList.map a.eval) (tj ++ tk) v ds → wpGive P ops (GC F w N) D rel takes Q (i + 1) rest (a.put (some d) v) (sigUpd takes σ i ds)) : wpGive P ops (GC F w N) D rel takes Q i (o :: rest) a σ := by
  have e : (takes i).flatMap σ = tj ++ tk := by rw [ht, ← htj, ← htk]; simp
  refine give_op d hw hr hd (by simpa [Nat.blt_eq] using hs) (Nat.le_of_ble_eq_true hi) (by rw [ht]; exact List.nodup_cons.2 ⟨fun h => by rw [List.mem_singleton.1 h] at hjk; simp at hjk, by simp⟩) (by
      rw [ht]; intro x hx
      rcases List.mem_cons.1 hx with rfl | hx
      · exact Nat.le_of_ble_eq_true hj
      · rw [List.mem_singleton.1 hx]; exact Nat.le_of_ble_eq_true hk) ?_ ?_ ?_
  · rw [e]; exact hin
  · rw [e]; exact h
  · rw [e]; exact hnext
end
/-- append of one element, its block just laid, in a region in the order of the text -/
theorem app_list {P : Program} {F : List Nat} {w0 wr : World} {ts : List Thing} {ops : Array Oper} {rest : List Oper} {o : Oper} {a : Act} {Q : Exit → Act → World → Prop} {α : Type} {E : Rep α} {e : TypeId} {xs : List α} {x : α} {cx : List Value} {v : Value} {fp : List Nat} {m : Nat}
    (hS : SepF F w0 wr ts) (k : Nat) (hk : ts[k]? = some (tsl E e xs v fp)) (hgd : o.guard = none) (s y : Operand) (t : TypeId)
    (ho : o.op = .call { callee := .builtin .append, args := #[s, y], argTypes := #[t, t] }) (i : TypeInfo) (z : Value) (bytes : Nat)
    (ht : P.underlying t = some (.slice e)) (hi : P.info? e = some i) (hz : i.zero = some z) (hsize : i.size = E.size) (hby : i.bytes = bytes) (hzs : z.cells.size = E.size) (h0 : 0 < E.size)
    (hsv : a.eval s = v) (hyv : a.eval y = .slice (some ⟨wr.heap.size, 0, none⟩) 1 1) (hx : ∀ W, E.own W x cx []) (hm : xs.length = m) (h63 : m + 1 ≤ maxLen) (hbytes : (m + 1) * bytes ≤ 140737488355328)
    (h : ∀ g cap w' fp', SepF F w0 w' (ts.set k (tsl E e (xs ++ [x]) (.slice (some ⟨g, 0, none⟩) (m + 1) cap) fp')) → wpList P ops Q rest (a.put o.dst (.slice (some ⟨g, 0, none⟩) (m + 1) cap)) w') :
    wpList P ops Q (o :: rest) a (wr.alloc (.cells cx.toArray e)) := by
  subst hm
  obtain ⟨l0, ho1, hnext⟩ := hS.push0 k hk (W2 := wr.alloc (.cells cx.toArray e)) (below_new (Below.refl _ _) _) (x := x) (hx _)
  have hb : Blk (wr.alloc (.cells cx.toArray e)) wr.heap.size e cx := Blk.new _ _ _
  refine wpList_append_lies _ hgd s y t ho 0 e i z E.size bytes ht hi hz hsize hby hzs h0 v xs.length l0 hsv ho1 ⟨wr.heap.size, 0, none⟩ 1 1 cx hyv (by rw [Nat.one_mul]; exact E.olen (hx wr)) ?_ (E.one (hx wr)) (by omega) h63 hbytes (Nat.zero_le _) _ rfl ?_
  · have h1 := World.news_of_block hb
    simpa using h1
  · intro gg cap w4 hown1 hgrow hat hlt
    obtain ⟨fp', hs4⟩ := hnext gg cap w4 hown1 hgrow hat
    exact h gg cap w4 fp' hs4
end Mm
end Go.Proofs.Ytnppcdiicnofpab

/-
  append of a whole slice of flat elements to a slice that the call owns; slices cut from the right and from the left. No program in sight. No conditions.
-/
namespace Go.Proofs.Ytnppcdiicnofpab
open Go.RowKit
namespace Mm
section
variable {P : Program} {α : Type} {E : Rep α} {enc : α → List Value} {F : List Nat} {w0 wr : World} {ts : List Thing} {xs ys : List α} {A : Option Addr} {n c B : Nat} {e : TypeId} {v : Value} {fp : List Nat}
theorem SepF.appMany (hF : Flat E enc) (hN : FlatN E enc) (t ty : TypeId) (i : TypeInfo) (z : Value) (bytes : Nat) (ht : P.underlying t = some (.slice e)) (hi : P.info? e = some i) (hz : i.zero = some z) (hsize : i.size = E.size) (hby : i.bytes = bytes) (hzs : z.cells.size = E.size)
    (h : SepF F w0 wr ts) (k : Nat) (hk : ts[k]? = some (tsl E e ys v fp)) (hl : SlAt E wr B xs A n c) (hn : ys.length + n ≤ maxLen) (hbytes : (ys.length + n) * bytes ≤ 140737488355328) :
    ∃ A2 c2 fp' w1, (Builtin.append_ #[t, t] ty #[v, .slice A n c]).run P wr = .ok (.slice A2 (ys.length + n) c2) w1 ∧ SepF F w0 w1 (ts.set k (tsl E e (ys ++ xs) (.slice A2 (ys.length + n) c2) fp')) := by
  have hs : SlOwn E e wr ys v fp := h.at_ k hk
  obtain ⟨hown, hfp, hys, hlen⟩ := hN.owns hs
  have hE : ∀ w1 x, x ∈ xs → E.own w1 x (enc x) [] := fun w1 x hx => by
    obtain ⟨k, hk, rfl⟩ := List.mem_iff_getElem.1 hx
    obtain ⟨y, b, off, cs, hy, _, _, ha, _⟩ := hl.get (k := k) (by rw [← hl.1]; exact hk)
    rw [List.getElem?_eq_getElem hk] at hy
    injection hy with hy
    subst hy
    exact hF.own ha w1
  have main : ∀ v' w1, w1.ownsRow 0 e E.size v' (ys.length + n) (ys.flatMap enc ++ xs.flatMap enc) → wr.grownBy w1 v.ownBlock → (v'.ownBlock = v.ownBlock ∨ v'.ownBlock = some wr.heap.size) → ∃ A2 c2 fp', v' = .slice A2 (ys.length + n) c2 ∧ SepF F w0 w1 (ts.set k (tsl E e (ys ++ xs) (.slice A2 (ys.length + n) c2) fp')) := fun v' w1 k1 k2 k3 => by
    rw [← List.flatMap_append] at k1
    have hs1 : SlOwn E e w1 (ys ++ xs) v' v'.ownBlock.toList := SlOwn.of_row (enc := enc) (by rw [List.length_append, hl.1]; exact k1) (fun x hx => by
      rcases List.mem_append.1 hx with hx | hx
      · exact hys x hx w1
      · exact hE w1 x hx) rfl
    obtain ⟨A2, n2, c2, hv, hn2, _⟩ := hs1.form
    subst hv
    rw [List.length_append, hl.1] at hn2
    subst hn2
    refine ⟨A2, c2, _, rfl, h.upd hk (Chg.mk k2.os k2.tape k2.output k2.size fun b hb hn => k2.block b hb (fun hh => hn (row_in hs hh.symm))) (t' := tsl E e (ys ++ xs) (.slice A2 (ys.length + n) c2) _) hs1 (by simp only [tsl]; cases (Value.slice A2 (ys.length + n) c2).ownBlock <;> simp) (fun b hb => ?_)⟩
    simp only [tsl, Option.mem_toList] at hb
    rcases k3 with h3 | h3
    · rw [h3] at hb; exact .inl (row_in hs (by rw [Option.mem_def.1 hb]))
    · rw [h3] at hb; injection hb with hb; exact .inr (by omega)
  cases A with
  | none =>
    have hc0 : c = 0 := hl.2.2.2.1 rfl
    have hn0 : n = 0 := by have := hl.2.1; omega
    subst hc0; subst hn0
    have hx0 : xs = [] := List.length_eq_zero_iff.1 hl.1
    have hr := run_append_owned_none (P := P) wr 0 t ty e i E.size ht hi _ _ _ hown
    obtain ⟨A2, c2, fp', hv, hS⟩ := main _ wr (by rw [hx0]; simpa using hown) ⟨rfl, rfl, rfl, Nat.le_refl _, fun _ _ _ => rfl⟩ (.inl rfl)
    exact ⟨A2, c2, fp', wr, by rw [hr, hv], hS⟩
  | some a =>
    obtain ⟨v', w1, hr, h2, h3, _, h5⟩ := run_append_own_at (P := P) wr 0 t ty e i z E.size bytes ht hi hz hsize hby hzs hN.pos _ _ _ hown a n c (xs.flatMap enc) (flat_len (fun x cs h => hF.at_ h) hl) (flat_cells' (fun x cs h => hF.at_ h) hl) (fun u hu => by
      obtain ⟨x, hx, hu⟩ := List.mem_flatMap.1 hu
      exact E.one (hE wr x hx) u hu) hn hbytes (Nat.zero_le _)
    obtain ⟨A2, c2, fp', hv, hS⟩ := main v' w1 h2 h3 h5
    exact ⟨A2, c2, fp', w1, by rw [hr, hv], hS⟩
theorem wpList_appMany {ops : Array Oper} {rest : List Oper} {o : Oper} {a : Act} {Q : Exit → Act → World → Prop} {m : Nat} (hgd : o.guard = none) (s x : Operand) (t : TypeId)
    (ho : o.op = .call { callee := .builtin .append, args := #[s, x], argTypes := #[t, t] })
    (hF : Flat E enc) (hN : FlatN E enc) (i : TypeInfo) (z : Value) (bytes : Nat) (ht : P.underlying t = some (.slice e)) (hi : P.info? e = some i) (hz : i.zero = some z) (hsize : i.size = E.size) (hby : i.bytes = bytes) (hzs : z.cells.size = E.size)
    (h : SepF F w0 wr ts) (k : Nat) (hk : ts[k]? = some (tsl E e ys v fp)) (hl : SlAt E wr B xs A n c) (hm : ys.length + n = m) (hn : m ≤ maxLen) (hbytes : m * bytes ≤ 140737488355328) (hs : a.eval s = v) (hx : a.eval x = .slice A n c)
    (hnext : ∀ A2 c2 fp' w1, SepF F w0 w1 (ts.set k (tsl E e (ys ++ xs) (.slice A2 m c2) fp')) → wpList P ops Q rest (a.put o.dst (.slice A2 m c2)) w1) : wpList P ops Q (o :: rest) a wr := by
  subst hm
  refine wpList_plain hgd fun K hK => ?_
  obtain ⟨A2, c2, fp', w1, hr, h2⟩ := h.appMany (P := P) hF hN t o.type i z bytes ht hi hz hsize hby hzs k hk hl hn hbytes
  unfold Oper.wp execOp
  simp only [ho, resolve, invoke, builtin, Sem.run_bind, Sem.run_pure, Result.andThen_ok, List.map_toArray, List.map_cons, List.map_nil, hs, hx, hr]
  exact hK _ _ (hnext A2 c2 fp' w1 h2)
/-- a slice that is owned, read -/
theorem SepF.rdSl (h : SepF F w0 wr ts) (k : Nat) (hk : ts[k]? = some (tsl E e ys (.slice A n c) fp)) : SlAt E wr wr.heap.size ys A n c := (h.sl k hk).weak fun b hb => (h.sl k hk).olt b hb
/-- cut from the left, as Go lays it -/
theorem SlAt.cut {w : World} {g j : Nat} (h : SlAt E w B xs (some ⟨g, 0, none⟩) n c) (hj : j ≤ n) {s : Nat} (hs : E.size = s) : ∃ A', (if c = j then (some ⟨g, 0, none⟩ : Option Addr) else some ⟨g, j * s, none⟩) = A' ∧ SlAt E w B (xs.drop j) A' (n - j) (c - j) := by
  subst hs
  by_cases hc : c = j
  · rw [if_pos hc]
    have hn : n = j := by have := h.2.1; omega
    subst hn
    have hx : xs.drop n = [] := List.drop_eq_nil_of_le (by rw [h.1]; exact Nat.le_refl _)
    rw [hx, Nat.sub_self]
    exact ⟨_, rfl, SlAt.nil (by have := h.2.2.1; omega) (fun hh => by cases hh)⟩
  · rw [if_neg hc]
    have := h.drop hj
    rw [Nat.zero_add] at this
    exact ⟨_, rfl, this⟩
/-- 's[j:]', the bound an int, as one equation -/
theorem run_cut {P : Program} {t : TypeId} {s : Nat} (ht : P.underlying t = some (.slice (P.elem t))) (hs : ∀ W, (sizeOf (P.elem t)).run P W = .ok s W) {g n c : Nat} {j : Nat} {i : Int} (hi : i = j) (hj : j ≤ n) (W : World) :
    (Instr.slice t (.slice (some ⟨g, 0, none⟩) n c) (some (.int .i64 i)) none none).run P W = .ok (.slice (if c = j then (some ⟨g, 0, none⟩ : Option Addr) else some ⟨g, j * s, none⟩) (n - j) (c - j)) W := by
  subst hi
  rw [run_slice_l W t _ n c ht .i64 (j : Int) (by omega) (by omega), hs]
  simp only [Result.andThen_ok, sliced, Int.toNat_natCast]
  congr 1
  by_cases h : c = j
  · simp [h]
  · simp only [h, if_false, Option.map_some, Addr.add]
    by_cases h0 : j * s = 0
    · simp [h0]
    · simp [h0]
/-- an empty slice, just laid -/
theorem SepF.fresh {g : Nat} (h : SepF F w0 wr ts) (hg : wr.heap.size = g) (E : Rep α) (e : TypeId) : SepF F w0 (wr.alloc (.cells #[] e)) (tsl E e [] (.slice (some ⟨g, 0, none⟩) 0 0) [g] :: ts) := by
  have h1 := h.alloc' hg e []
  refine h1.conv (by simp [tblk, tsl]) (List.forall_mem_cons.2 ⟨?_, fun u hu => h1.hold u (List.mem_cons_of_mem _ hu)⟩)
  have hb : Blk (wr.alloc (.cells #[] e)) g e [] := h1.at_ 0 rfl
  exact ⟨[], ⟨rfl, fun i x y h => by simp at h⟩, ⟨by simp, .inr ⟨g, 0, #[], rfl, Nat.zero_le _, hb, Nat.le_refl _, Nat.zero_le _, by simp, by simp⟩⟩, by simp [Value.ownBlock]⟩
end
end Mm
end Go.Proofs.Ytnppcdiicnofpab

/-
  'append([]T{}, l...)' inside a region that draws its order and gives; an empty slice just laid; the two ways of telling what a call owns. No program in sight. No conditions.
-/
namespace Go.Proofs.Ytnppcdiicnofpab
open Go.RowKit
namespace Mm
theorem Sep.toF {w0 wr : World} {ts : List Thing} (h : Sep w0 wr ts) : SepF [] w0 wr ts := ⟨Chg.of_below h.bel, h.nd, fun b hb => .inr (h.new b hb), h.hold⟩
theorem SepF.toSep {w0 wr : World} {ts : List Thing} (h : SepF [] w0 wr ts) : Sep w0 wr ts := ⟨h.bel0, h.nd, fun b hb => (h.new b hb).resolve_left (fun h => by cases h), h.hold⟩
section
variable {P : Program} {F : List Nat} {w X : World} {ops : Array Oper} {o : Oper} {a a' : Act} {others tk : List Thing} {vals : List Value} {α : Type} {E : Rep α} {enc : α → List Value} {e : TypeId} {xs : List α} {v : Value} {fp : List Nat} {A : Option Addr} {n c B : Nat}
theorem clone_gvq (hgd : o.guard = none) (s y : Operand) (t : TypeId) (ho : o.op = .call { callee := .builtin .append, args := #[s, y], argTypes := #[t, t] }) (d : Nat) (hd : o.dst = some d) (hs : Nat.blt d a.tmps.size = true)
    (hF : Flat E enc) (hN : FlatN E enc) (i : TypeInfo) (z : Value) (bytes : Nat) (ht : P.underlying t = some (.slice e)) (hi : P.info? e = some i) (hz : i.zero = some z) (hsize : i.size = E.size) (hby : i.bytes = bytes) (hzs : z.cells.size = E.size)
    (hsv : a.eval s = v) (hyv : a.eval y = .slice A n c) (hl : SlAt E X B xs A n c) (hn : n ≤ maxLen) (hbytes : n * bytes ≤ 140737488355328)
    (hS : SepF F w X ([tsl E e [] v fp] ++ others)) : wpList P ops (GvQ F w (gSl E e xs vals tk) d a.defers others) [o] a X := by
  refine wpList_appMany hgd s y t ho hF hN i z bytes ht hi hz hsize hby hzs hS 0 rfl hl (m := n) (by simp) hn hbytes hsv hyv ?_
  intro A2 c2 fp' w1 h1
  have e1 : ((a.put o.dst (.slice A2 n c2)).tmps.getD d undef) = .slice A2 n c2 := by
    rw [hd]; exact put_get (by simpa [Nat.blt_eq] using hs) _
  unfold wpList
  exact ⟨rfl, by rw [hd]; rfl, _, ⟨A2, n, c2, fp', e1, rfl, hl.1.symm⟩, h1⟩
theorem gvq_fresh {g d : Nat} {df : List Deferred} (h : SepF F w X others) (hg : X.heap.size = g) (hv : a'.tmps.getD d undef = .slice (some ⟨g, 0, none⟩) 0 0) (hdf : a'.defers = df) : GvQ F w (gSl E e [] vals tk) d df others .normal a' (X.alloc (.cells #[] e)) :=
  ⟨rfl, hdf, _, ⟨_, _, _, _, hv, rfl, rfl⟩, h.fresh hg E e⟩
end
end Mm
end Go.Proofs.Ytnppcdiicnofpab

/-
  Slices of slices that are cloned row by row: first the headers alone are copied, then each row is replaced by its clone. No program in sight. No conditions.
-/
namespace Go.Proofs.Ytnppcdiicnofpab
open Go.RowKit
namespace Mm
abbrev Hdr := Option Addr × Nat × Nat
def hval (h : Hdr) : Value := .slice h.1 h.2.1 h.2.2
def hdr : Rep Hdr := flat 1 (fun h => [hval h]) (fun _ => True) (fun _ => rfl) (fun _ u hu => by rw [List.mem_singleton.1 hu]; rfl)
theorem flat_hdr : Flat hdr (fun h => [hval h]) := ⟨fun h => h.1, fun h w' => ⟨rfl, trivial, rfl⟩⟩
theorem flatN_hdr : FlatN hdr (fun h => [hval h]) := ⟨by decide, fun h => by
  obtain ⟨rfl, h1, rfl⟩ := h
  exact ⟨rfl, rfl, fun w' => ⟨rfl, trivial, rfl⟩⟩⟩
/-- a row of the call's own, or a header alone -/
def orv {α : Type} (E : Rep α) (e : TypeId) : Rep (List α ⊕ Hdr) where
  size := 1
  at_ := fun w B x cs => match x with
    | .inl xs => (slice E e).at_ w B xs cs
    | .inr h => cs = [hval h]
  own := fun w x cs fp => match x with
    | .inl xs => (slice E e).own w xs cs fp
    | .inr h => cs = [hval h] ∧ fp = []
  len := fun {w B x cs} h => by
    cases x with
    | inl xs => exact (slice E e).len h
    | inr y => rw [show cs = [hval y] from h]; rfl
  olen := fun {w x cs fp} h => by
    cases x with
    | inl xs => exact (slice E e).olen h
    | inr y => rw [show cs = [hval y] from h.1]; rfl
  one := fun {w x cs fp} h u hu => by
    cases x with
    | inl xs => exact (slice E e).one h u hu
    | inr y => rw [show cs = [hval y] from h.1] at hu; rw [List.mem_singleton.1 hu]; rfl
  keep := fun {w w' B x cs} h k => by
    cases x with
    | inl xs => exact (slice E e).keep h k
    | inr y => exact h
  more := fun {w B B' x cs} h k => by
    cases x with
    | inl xs => exact (slice E e).more h k
    | inr y => exact h
  okeep := fun {w w' x cs fp} h k => by
    cases x with
    | inl xs => exact (slice E e).okeep h k
    | inr y => exact h
  olt := fun {w x cs fp} h b hb => by
    cases x with
    | inl xs => exact (slice E e).olt h b hb
    | inr y => rw [show fp = [] from h.2] at hb; cases hb
  weak := fun {w B x cs fp} h k => by
    cases x with
    | inl xs => exact (slice E e).weak h k
    | inr y => exact h.1
section
variable {α : Type} {E : Rep α} {e e2 : TypeId} {w : World} {B : Nat} {v : Value} {fp : List Nat}
theorem orv_start {hs : List Hdr} (h : SlOwn hdr e2 w hs v fp) : SlOwn (orv E e) e2 w (hs.map .inr) v fp := by
  obtain ⟨es, he, ho, rfl⟩ := h
  refine ⟨es, ⟨by rw [List.length_map]; exact he.1, fun i x y hx hy => ?_⟩, by rw [List.length_map]; exact ho, rfl⟩
  rw [List.getElem?_map] at hx
  cases hh : hs[i]? with
  | none => rw [hh] at hx; cases hx
  | some h =>
    rw [hh] at hx
    injection hx with hx
    subst hx
    have := he.2 i h y hh hy
    exact ⟨this.1, this.2.2⟩
theorem orv_end {xs : List (List α)} (h : SlOwn (orv E e) e2 w (xs.map .inl) v fp) : SlOwn (slice E e) e2 w xs v fp := by
  obtain ⟨es, he, ho, rfl⟩ := h
  refine ⟨es, ⟨by rw [he.1, List.length_map], fun i x y hx hy => ?_⟩, by rw [List.length_map] at ho; exact ho, rfl⟩
  exact he.2 i (.inl x) y (by rw [List.getElem?_map, hx]; rfl) hy
/-- the headers of a slice of slices that is read -/
theorem hdrs {xs : List (List α)} {A : Option Addr} {n c : Nat} (h : SlAt (slice E e) w B xs A n c) : ∃ hs : List Hdr, SlAt hdr w B hs A n c ∧ ∀ (k : Nat) (x : List α), xs[k]? = some x → ∃ y, hs[k]? = some y ∧ SlAt E w B x y.1 y.2.1 y.2.2 := by
  have key : ∀ k : Nat, ∃ y : Hdr, ∀ x, xs[k]? = some x → ∃ b off, A = some ⟨b, off, none⟩ ∧ b < B ∧ SlAt E w B x y.1 y.2.1 y.2.2 ∧ w.cell? ⟨b, off + k, none⟩ = some (hval y) := fun k => by
    cases hx : xs[k]? with
    | none => exact ⟨(none, 0, 0), fun x h => by cases h⟩
    | some x =>
      obtain ⟨b, off, cs, hA, hb, ⟨A', n', c', rfl, ha⟩, hc⟩ := h.2.2.2.2 k x hx
      refine ⟨(A', n', c'), fun x' hx' => ?_⟩
      injection hx' with hx'
      subst hx'
      refine ⟨b, off, hA, hb, ha, ?_⟩
      have := hc 0 _ rfl
      rw [show (slice E e).size = 1 from rfl, Nat.mul_one, Nat.add_zero] at this
      exact this
  obtain ⟨f, hf⟩ := Classical.axiomOfChoice key
  refine ⟨(List.range n).map f, ⟨by simp, h.2.1, h.2.2.1, h.2.2.2.1, fun i y hy => ?_⟩, fun k x hx => ?_⟩
  · rw [List.getElem?_map] at hy
    have hi : i < n := by
      rcases Nat.lt_or_ge i n with h1 | h1
      · exact h1
      · rw [List.getElem?_eq_none (by simpa using h1)] at hy; cases hy
    rw [List.getElem?_range hi] at hy
    injection hy with hy
    subst hy
    have hl : i < xs.length := by rw [h.1]; exact hi
    obtain ⟨b, off, hA, hb, ha, hc⟩ := hf i _ (List.getElem?_eq_getElem hl)
    refine ⟨b, off, [hval (f i)], hA, hb, ⟨rfl, trivial⟩, fun j u hj => ?_⟩
    cases j with
    | zero =>
      injection hj with hj
      subst hj
      rw [show hdr.size = 1 from rfl, Nat.mul_one, Nat.add_zero]
      exact hc
    | succ j => simp at hj
  · have hk : k < n := by rw [← h.1]; exact (List.getElem?_eq_some_iff.1 hx).1
    obtain ⟨b, off, hA, hb, ha, hc⟩ := hf k x hx
    exact ⟨f k, by rw [List.getElem?_map, List.getElem?_range hk]; rfl, ha⟩
/-- row k, a header alone, becomes a row of the call's own -/
theorem SepF.rowIn {F : List Nat} {w0 wr : World} {ts : List Thing} {ys : List (List α ⊕ Hdr)} {g n c k : Nat} {z : List α ⊕ Hdr} {xs : List α} {A : Option Addr} {m d : Nat} {fx : List Nat} (h : SepF F w0 wr (tsl E e xs (.slice A m d) fx :: tsl (orv E e) e2 ys (.slice (some ⟨g, 0, none⟩) n c) fp :: ts)) (hk : ys[k]? = some z) :
    ∃ fp', SepF F w0 (wr.setCell ⟨g, k, none⟩ (.slice A m d)) (tsl (orv E e) e2 (ys.set k (.inl xs)) (.slice (some ⟨g, 0, none⟩) n c) fp' :: ts) := by
  have ho : SlOwn (orv E e) e2 wr ys (.slice (some ⟨g, 0, none⟩) n c) fp := h.at_ 1 rfl
  have hx : SlOwn E e wr xs (.slice A m d) fx := h.at_ 0 rfl
  have hnx : fx.Nodup := h.ndat (i := 0) rfl
  have hap : ∀ b, b ∈ fx → b ∉ fp := h.apart (i := 0) (j := 1) rfl rfl (by decide)
  have hgf : g ∈ fp := ho.mem_block
  have hown : (orv E e).own wr (.inl xs) [.slice A m d] fx := ⟨_, rfl, hx⟩
  have hkl : k < ys.length := (List.getElem?_eq_some_iff.1 hk).1
  obtain ⟨fp', h1, h2, h3⟩ := ho.set (i := k) hkl hown (h.ndat (i := 1) rfl) hnx (fun b hb hm => hap b hb hm)
  rw [show (orv E e).size = 1 from rfl, Nat.mul_one] at h1
  refine ⟨fp', ?_⟩
  have h4 := h.upd2 (i := 1) (j := 0) (by decide) rfl rfl (W := wr.setCell ⟨g, k, none⟩ (.slice A m d)) (t' := tsl (orv E e) e2 (ys.set k (.inl xs)) (.slice (some ⟨g, 0, none⟩) n c) fp') ((Chg.refl _ _).setCell (List.mem_append_left _ hgf) _) h1 h2 (fun b hb => by
    rcases h3 b hb with h | h
    · exact .inl h
    · exact .inr (.inl h))
  exact h4.tail
end
end Mm
end Go.Proofs.Ytnppcdiicnofpab

/-
  Contracts: slices.Clone, for the chapters' structs that lead nowhere and for slices of slices (their headers). No conditions.
-/
namespace Go.Proofs.Ytnppcdiicnofpab
open Go.RowKit
def Mm.encH (h : Mm.Hdr) : List Value := [Mm.hval h]
end Go.Proofs.Ytnppcdiicnofpab

/-
  Contracts: the totals of a list combined, the program's. No conditions beyond those named.
-/
namespace Go.Proofs.Ytnppcdiicnofpab
open Go.RowKit
attribute [local go_sem] und_cell World.cell?_alloc_some
def Mm.encLab (x : Label) : List Value := [.string x.Name, .string x.Value]
theorem Mm.flatA_lab : Mm.Flat rLabel Mm.encLab := ⟨fun h => (rLabel_at h).1, fun h w' => rLabel_own_mk (rLabel_at h).2⟩
theorem Try.info_clLab : (Try.prog.info? 79).map (fun i => (i.zero, i.size, i.bytes)) = some (some (.agg #[.string ⟨#[]⟩, .string ⟨#[]⟩]), 2, 32) := by kernel_rfl
set_option maxRecDepth 100000 in
set_option maxHeartbeats 1000000 in
theorem clLab_c (l : List Label) (A : Option Addr) (n c : Nat) (w : World) (B : Nat) (hl : Mm.SlAt rLabel w B l A n c) (hn : n ≤ 1048576) :
    Calls Try.prog 48 #[.slice A n c] w (Mm.NewSl rLabel 79 w l) := by
  have hlen := Lib.hid hl.1
  have hcap := hl.2.1
  have hq : ∀ (w : World) (a : Option Addr) (n c n' c' : Nat), (binOp .eql 54 (.slice a n c) (.slice none n' c')).run Try.prog w = .ok (.bool a.isNone) w := fun w a n c n' c' => Lib.run_eql_slice_nil w _ _ a n c n' c' Try.underlying54
  cases A with
  | none =>
    have hc : c = 0 := hl.2.2.2.1 rfl
    have hl0 : l = [] := List.length_eq_zero_iff.1 (by rw [hlen.out]; omega)
    subst hl0
    clear hl
    go_enter Try.func48, Try.ntmps48
    go_wp2
    go_ret
    exact (Mm.Acc.nil (Below.refl _ _)).newsl
  | some a =>
    have HC := Lib.hid (Mm.flat_cells' (E := rLabel) (enc := Mm.encLab) (fun x cs h => (Mm.flatA_lab).at_ h) hl)
    have HLN := Lib.hid (Mm.flat_len (E := rLabel) (enc := Mm.encLab) (fun x cs h => (Mm.flatA_lab).at_ h) hl)
    have HOK : Hid (∀ (w' : World) x, x ∈ l → (rLabel).own w' x ((Mm.encLab) x) []) := fun w' x hx => by
      obtain ⟨i, hi, rfl⟩ := List.mem_iff_getElem.1 hx
      obtain ⟨y, b, off, cs, hy, _, _, ha, _⟩ := hl.get (k := i) (by rw [← hlen.out]; exact hi)
      rw [List.getElem?_eq_getElem hi] at hy
      injection hy with hy
      subst hy
      exact (Mm.flatA_lab).own ha w'
    have H1 : Hid (∀ u : Value, u ∈ l.flatMap Mm.encLab → u.oneCell' = true) := fun u hu => by
      obtain ⟨x, hx, hu⟩ := List.mem_flatMap.1 hu
      exact (rLabel).one (HOK.out w x hx) u hu
    clear hl
    obtain ⟨i0, hi, hz0, hz1, hz2⟩ := info_parts Try.info_clLab
    go_enter Try.func48, Try.ntmps48
    go_wp2_with (at_builtin; refine wpList_append_own_at _ rfl _ _ 54 rfl w.heap.size 79 i0 (.agg #[.string ⟨#[]⟩, .string ⟨#[]⟩]) 2 32 Try.underlying54 hi hz0 hz1 hz2 rfl (by decide) _ _ _ rfl (World.ownsRow_made w #[] 0 (Nat.le_refl _) (Nat.zero_le _) rfl) a n c (l.flatMap Mm.encLab) rfl HLN.out (fun j u hj => Lib.cell?_alloc_some _ (HC.out j u hj)) H1.out (by unfold maxLen; omega) (by omega) (by simp) ?_; intro v' w1 hown hgrow hnil hat)
    have HA := Lib.hid (Mm.clone_post (E := rLabel) (e := 79) (Nat.zero_add _) (List.nil_append _) hown hgrow (fun x hx => HOK.out _ x hx) hlen.out)
    clear hown hgrow hat hnil
    go_wp2
    go_ret
    exact HA.out.newsl
theorem cell_set_off {w : World} {g a b : Nat} {u v : Value} (h : a ≠ b) (hc : w.cell? ⟨g, b, none⟩ = some v) : (w.setCell ⟨g, a, none⟩ u).cell? ⟨g, b, none⟩ = some v := by
  rw [World.cell?_setCell_other]
  · exact hc
  · intro e
    injection e with _ e _
    exact h e
theorem totOk_i64 {x : Total} (h : Pl.totOk x = true) : Mm.I64 x.Sum ∧ Mm.I64 x.Count ∧ Mm.I64 x.Least ∧ Mm.I64 x.Most := by
  obtain ⟨_, h2, h3, h4, h5⟩ := Pl.totOk_iff.1 h
  unfold Mm.I64
  omega
set_option maxRecDepth 100000 in
set_option maxHeartbeats 4000000 in
theorem combined_c (l : List Total) (A : Option Addr) (n c : Nat) (w : World) (B : Nat) (hl : Mm.SlAt rTotal w B l A n c) (hB : B ≤ w.heap.size) (hok : ∀ x, x ∈ l → Pl.totOk x = true) (hn : n ≤ 80) :
    Calls Try.prog 25 #[.slice A n c] w (Mm.RetS2 rTotal 59 w (Pl.tgood (Pl.tcomb l)).1 (Pl.tgood (Pl.tcomb l)).2) := by
  have HL := Lib.hid hl
  have HLN : Hid (l.length = n) := hl.1
  have HOK := Lib.hid hok
  clear hl hok
  go_enter Try.func25, Try.ntmps25
  go_wp2
  go_loopg [4, 12] n (fun g o i wr => ∃ (k m : Nat) (A1 : Option Addr) (c1 : Nat) (fp : List Nat) (xs : List Total), n - k ≤ g ∧ k ≤ n ∧ i = .int .i64 k ∧ o = .slice A1 m c1 ∧ Hid (m = xs.length) ∧ Hid (xs = Pl.tcomb (l.take k)) ∧ Hid (Mm.SepF [] w wr [Mm.tsl rTotal 59 xs (.slice A1 m c1) fp]))
  case atStart => exact ⟨0, 0, none, 0, [], [], Nat.le_refl _, Nat.zero_le _, rfl, rfl, rfl, rfl, (Mm.SepF.start w).add (Below.refl _ _) (t := Mm.tsl rTotal 59 [] (.slice none 0 0) []) Mm.SlOwn.nil List.nodup_nil (fun b hb => by cases hb)⟩
  case round =>
    obtain ⟨k, m, A1, c1, fp, xs, hgk, hk, rfl, rfl, HM, HX, HS⟩ := hrel
    obtain ⟨W, rfl⟩ : ∃ W : World, W = wr := ⟨_, rfl⟩
    have hT : Pl.TOk k xs := by rw [HX.out]; exact Pl.TOk.comb HOK.out k (by rw [HLN.out]; exact hk)
    have hm80 : m ≤ 80 := by have := hT.len; have := HM.out; omega
    have HT := Lib.hid hT
    clear hT
    have hsw := HS.out.chg.size
    by_cases hlt : k < n
    · have f1 : (k : Int) < (n : Nat) := by omega
      have f2 : (0 : Int) ≤ (k : Nat) := by omega
      have f3 : ((k : Nat) : Int).toNat = k := by omega
      obtain ⟨x, bb, off, A2, n2, c2, hx, rfl, hbb, hlb, i1, i2, i3, i4, e0, e1, e2, e3, e4⟩ := rTotal_get (HL.out.keep (w' := W) fun b hb => HS.out.bel0.block b (Nat.lt_of_lt_of_le hb hB)) hlt
      have htx := HOK.out x (List.mem_of_getElem? hx)
      have HTX := Lib.hid htx
      have HLB := Lib.hid hlb
      have HNX := Lib.hid (Pl.tcomb_next hx)
      have HI := Lib.hid (And.intro i1 (And.intro i2 (And.intro i3 i4)))
      clear hx htx hlb i1 i2 i3 i4
      obtain ⟨gt, hgt⟩ : ∃ gt, W.heap.size = gt := ⟨_, rfl⟩
      obtain ⟨W1, hW1⟩ : ∃ W1, W.alloc (.cells #[.slice A2 n2 c2, .int .i64 x.Sum, .int .i64 x.Count, .int .i64 x.Least, .int .i64 x.Most] 59) = W1 := ⟨_, rfl⟩
      have HS1 := Lib.hid ((HS.out.alloc' hgt 59 [.slice A2 n2 c2, .int .i64 x.Sum, .int .i64 x.Count, .int .i64 x.Least, .int .i64 x.Most]).atW hW1)
      have hB1 : Below W.heap.size W W1 := by rw [← hW1]; exact below_new (Below.refl _ _) _
      have hBW : B ≤ W1.heap.size := by have := hB1.size; omega
      have HLB1 := Lib.hid (HLB.out.keep (w' := W1) fun b hb => hB1.block b (by omega))
      go_upto_region 5 with fail
      clear hW1 hB1 HS
      have s0 := HS1.out.cell (k := 0) 0 rfl rfl
      obtain ⟨p, hp⟩ : ∃ p, Pl.tpos (Pl.labelsText x.Labels) xs = p := ⟨_, rfl⟩
      go_upto_if 25 with first
        | (go_at_call 52; (with_reducible refine (labelsText_c x.Labels A2 n2 c2 W1 B HLB1.out hBW (Pl.totOk_lab HTX.out)).mono ?_); rintro e w2 ⟨rfl, hb2⟩; (have HS2 := Lib.hid (HS1.out.step hb2)); (have hsz2 := hb2.size); (have HLB2 := Lib.hid (HLB1.out.keep (w' := w2) fun b hb => hb2.block b (Nat.lt_of_lt_of_le hb hBW))); clear hb2 s0)
        | (go_at_call 51; refine (bsTot_c xs (Pl.labelsText x.Labels) A1 m c1 w2 _ ((HS2.out.sl 1 rfl).weak (HS2.out.sl 1 rfl).olt) (Nat.le_refl _) (by omega) HT.out.lab HT.out.sort).mono ?_; rintro e w3 ⟨fd, rfl, hfd, hb3⟩; (have HS3 := Lib.hid (HS2.out.step hb3)); (have HLB3 := Lib.hid (HLB2.out.keep (w' := w3) fun b hb => hb3.block b (Nat.lt_of_lt_of_le hb (Nat.le_trans hBW hsz2)))); clear hb3)
      rw [hp] at hfd
      have hpm : p ≤ m := by have := Pl.tpos_le (Pl.labelsText x.Labels) xs; have := HM.out; omega
      have HP : Hid (Pl.tpos (Pl.txt x) xs = p) := hp
      clear hp
      cases fd with
      | false =>
        have HXN : Hid (Pl.tcomb (l.take (k + 1)) = Mm.insertAt xs p x) := by
          show _ = _
          rw [HNX.out, ← HX.out]
          refine (Pl.tput_miss fun o ho he => ?_).trans (by rw [HP.out])
          rw [HP.out] at ho
          exact absurd (hfd.2 ⟨o, ho, he⟩) (by simp)
        clear hfd
        have CC := clLab_c x.Labels A2 n2 c2 w3 B HLB3.out (by have := Pl.labelsOk_len (Pl.totOk_lab HTX.out); have := HLB3.out.1; omega)
        have s0 := HS3.out.cell (k := 0) 0 rfl rfl
        go_upto_region 8 with (go_at_call 48; (with_reducible refine CC.mono ?_); clear CC; rintro e w4 ⟨A3, n3, c3, fp3, rfl, ho, hnd, hnew, hb4⟩; (have HS4 := Lib.hid (HS3.out.add hb4 (t := Mm.tsl rLabel 79 x.Labels (.slice A3 n3 c3) fp3) ho hnd hnew)); clear ho hnd hnew hb4 s0; (have s0 := HS4.out.cell (k := 0) 1 rfl rfl); (have z0 := HS4.out.frz (k := 0) 1 rfl))
        obtain ⟨W5, hW5⟩ : ∃ W5, w4.setCell ⟨gt, 0, none⟩ (.slice A3 n3 c3) = W5 := ⟨_, rfl⟩
        have HS5 := Lib.hid ((HS4.out.setBlk (k := 0) 1 rfl (.slice A3 n3 c3)).atW hW5)
        rw [hW5]
        clear hW5 s0 z0
        have t0 := HS5.out.cell (k := 0) 1 rfl rfl
        have t1 := HS5.out.cell (k := 1) 1 rfl rfl
        have t2 := HS5.out.cell (k := 2) 1 rfl rfl
        have t3 := HS5.out.cell (k := 3) 1 rfl rfl
        have t4 := HS5.out.cell (k := 4) 1 rfl rfl
        obtain ⟨lc, ho, h1c, hnext⟩ := HS5.out.insert 2 0 (by decide) (k := p) rfl (by rw [← HM.out]; exact hpm) rfl (below_new (Below.refl W5.heap.size W5) (.cells #[.slice A3 n3 c3, .int .i64 x.Sum, .int .i64 x.Count, .int .i64 x.Least, .int .i64 x.Most] 59)) (x := x) (cx := [.slice A3 n3 c3, .int .i64 x.Sum, .int .i64 x.Count, .int .i64 x.Least, .int .i64 x.Most]) (fun W h => rTotal_own_mk h HI.out.1 HI.out.2.1 HI.out.2.2.1 HI.out.2.2.2)
        rw [← HM.out] at ho hnext
        have hnb := Mm.Blk.new W5 59 [.slice A3 n3 c3, .int .i64 x.Sum, .int .i64 x.Count, .int .i64 x.Least, .int .i64 x.Most]
        have CI := insTotal_c lc [.slice A3 n3 c3, .int .i64 x.Sum, .int .i64 x.Count, .int .i64 x.Least, .int .i64 x.Most] m p W5.heap.size A1 c1 _ ho hpm (by omega) rfl (fun j u hj => hnb.cell hj) (by simp [Value.oneCell']) h1c (fun g hg => by
          subst hg
          have := (HS5.out.sl 2 rfl).olt g (HS5.out.sl 2 rfl).mem_block
          omega) (Mm.shape_blk hnb) (fun j => hnb.frozen _) hnb.lt
        have HNE := Lib.hid hnext
        clear hnext ho h1c hnb
        go_wp2_with (go_at_call 55; (with_reducible refine CI.mono ?_); clear CI; rintro e w7 ⟨A', n', c', rfl, hrow, hgrow, hat⟩; obtain ⟨fp', hs7⟩ := HNE.out _ w7 (by rw [List.append_assoc]; exact hrow) hgrow (hat.imp id (fun h g hg => by rw [h] at hg; injection hg with hg; omega)); (have HS7 := Lib.hid hs7); clear hs7 hrow hgrow hat)
        have hn' : n' = (Mm.insertAt xs p x).length := by obtain ⟨_, _, _, hv, q1, _⟩ := (HS7.out.sl 2 rfl).form; injection hv with _ q2 _; omega
        go_roundg (n - (k + 1))
        case measure => omega
        case rel => exact ⟨k + 1, n', A', c', fp', Mm.insertAt xs p x, Nat.le_refl _, by omega, by go_num, rfl, hn', HXN.out.symm, HS7.out.sel [2] (by decide) rfl⟩
      | true =>
        obtain ⟨o, ho, he⟩ := hfd.1 rfl
        have HXN : Hid (Pl.tcomb (l.take (k + 1)) = xs.set p (Pl.tadd o x)) := by
          show _ = _
          rw [HNX.out, ← HX.out]
          exact (Pl.tput_hit (by rw [HP.out]; exact ho) he).trans (by rw [HP.out])
        clear hfd
        have hpl : p < m := by have := (List.getElem?_eq_some_iff.1 ho).1; have := HM.out; omega
        obtain ⟨g, hg, -, -⟩ := Mm.sl_addr (HS3.out.sl 1 rfl) (by have := HM.out; omega)
        subst hg
        have hom := List.mem_of_getElem? ho
        have q1 := HT.out.sum o hom
        have q2 := HT.out.cnt o hom
        have q3 := HT.out.least o hom
        obtain ⟨-, r2, r3, r4, r5⟩ := Pl.totOk_iff.1 HTX.out
        have hw1 : IntKind.i64.wrap (o.Sum + x.Sum) = o.Sum + x.Sum := IntWalk.i64_in _ (by omega)
        have hw2 : IntKind.i64.wrap (o.Count + x.Count) = o.Count + x.Count := IntWalk.i64_in _ (by omega)
        obtain ⟨A4, n4, c4, u0, u1, u2, u3, u4⟩ := rTotal_ocell (HS3.out.sl 1 rfl) (HS3.out.ndat (i := 1) rfl) ho
        have f4 : (p : Int) < (m : Nat) := by omega
        have f5 : (0 : Int) ≤ (p : Nat) := by omega
        have f6 : ((p : Nat) : Int).toNat = p := by omega
        have t1 := HS3.out.cell (k := 1) 0 rfl rfl
        have t2 := HS3.out.cell (k := 2) 0 rfl rfl
        have t3 := HS3.out.cell (k := 3) 0 rfl rfl
        have t4 := HS3.out.cell (k := 4) 0 rfl rfl
        have HB3 := Lib.hid (And.intro q1 (And.intro q2 q3))
        have HR := Lib.hid (And.intro r2 (And.intro r3 (And.intro r4 r5)))
        clear q1 q2 q3 r2 r3 r4 r5
        have HO := Lib.hid ho
        clear ho
        go_upto_region 10 with fail
        refine wp_region_und_tail 9 (by kernel_rfl) (by kernel_rfl) ?_
        simp only [List.take_succ_cons, List.take_zero, List.drop_succ_cons, List.drop_zero]
        repeat (go_big_quiet_step ((first | (fail))))
        refine wpQuiet_nil ?_
        intro X hX
        have HS4 := Lib.hid (HS3.out.step hX)
        replace u1 := below_some hX u1
        replace u2 := below_some hX u2
        replace u3 := below_some hX u3
        replace u4 := below_some hX u4
        replace t2 := below_some hX t2
        replace t3 := below_some hX t3
        replace t4 := below_some hX t4
        have z1 := (HS4.out.sl 1 rfl).frozen (p * 5 + 1)
        have z2 := (HS4.out.sl 1 rfl).frozen (p * 5 + 2)
        go_upto_region 11 with fail
        obtain ⟨X1, hX1⟩ : ∃ X1, X.setCell ⟨g, p * 5 + 1, none⟩ (.int .i64 (o.Sum + x.Sum)) = X1 := ⟨_, rfl⟩
        have hpx : p < xs.length := (List.getElem?_eq_some_iff.1 HO.out).1
        have HS5 := Lib.hid ((HS4.out.putSl (x' := ⟨o.Labels, o.Sum + x.Sum, o.Count, o.Least, o.Most⟩) (m := 1) 1 rfl HO.out (by decide) (fun cs fx h => by
          obtain ⟨A, n, c, f, rfl, rfl, h0, i1, i2, i3, i4⟩ := rTotal_own h
          have j1 := HB3.out; have j2 := HR.out
          exact rTotal_own_mk (x := ⟨o.Labels, o.Sum + x.Sum, o.Count, o.Least, o.Most⟩) h0 (by unfold Mm.I64; show _ ≤ o.Sum + x.Sum ∧ o.Sum + x.Sum ≤ _; omega) i2 i3 i4)).atW hX1)
        rw [hX1]
        have v2 : X1.cell? ⟨g, p * 5 + 2, none⟩ = some (.int .i64 o.Count) := hX1 ▸ cell_set_off (by omega) u2
        have v3 : X1.cell? ⟨g, p * 5 + 3, none⟩ = some (.int .i64 o.Least) := hX1 ▸ cell_set_off (by omega) u3
        have v4 : X1.cell? ⟨g, p * 5 + 4, none⟩ = some (.int .i64 o.Most) := hX1 ▸ cell_set_off (by omega) u4
        clear hX1 u1 u2 u3 u4 t1 t2 t3 t4 z1 z2 hX
        have t2 := HS5.out.cell (k := 2) 0 rfl rfl
        refine wp_region_und_tail 9 (by kernel_rfl) (by kernel_rfl) ?_
        simp only [List.take_succ_cons, List.take_zero, List.drop_succ_cons, List.drop_zero]
        repeat (go_big_quiet_step ((first | (fail))))
        refine wpQuiet_nil ?_
        intro X hX
        have HS6 := Lib.hid (HS5.out.step hX)
        replace v2 := below_some hX v2
        replace v3 := below_some hX v3
        replace v4 := below_some hX v4
        have z2 := (HS6.out.sl 1 rfl).frozen (p * 5 + 2)
        go_upto_region 12 with fail
        obtain ⟨X2, hX2⟩ : ∃ X2, X.setCell ⟨g, p * 5 + 2, none⟩ (.int .i64 (o.Count + x.Count)) = X2 := ⟨_, rfl⟩
        have HS7 := Lib.hid ((HS6.out.putSl (k := p) (x' := ⟨o.Labels, o.Sum + x.Sum, o.Count + x.Count, o.Least, o.Most⟩) (m := 2) 1 rfl (List.getElem?_set_self hpx) (by decide) (fun cs fx h => by
          obtain ⟨A, n, c, f, rfl, rfl, h0, i1, i2, i3, i4⟩ := rTotal_own h
          have j1 := HB3.out; have j2 := HR.out
          exact rTotal_own_mk (x := ⟨o.Labels, o.Sum + x.Sum, o.Count + x.Count, o.Least, o.Most⟩) h0 i1 (by unfold Mm.I64; show _ ≤ o.Count + x.Count ∧ o.Count + x.Count ≤ _; omega) i3 i4)).atW hX2)
        rw [hX2]
        replace v3 : X2.cell? ⟨g, p * 5 + 3, none⟩ = some (.int .i64 o.Least) := hX2 ▸ cell_set_off (by omega) v3
        replace v4 : X2.cell? ⟨g, p * 5 + 4, none⟩ = some (.int .i64 o.Most) := hX2 ▸ cell_set_off (by omega) v4
        clear hX2 v2 z2 hX t2
        have t3 := HS7.out.cell (k := 3) 0 rfl rfl
        have t4 := HS7.out.cell (k := 4) 0 rfl rfl
        have z3 := (HS7.out.sl 1 rfl).frozen (p * 5 + 3)
        have z4 := (HS7.out.sl 1 rfl).frozen (p * 5 + 4)
        have d3 := HS7.out.step (Below.refl _ _).drew
        have y3 := (d3.sl 1 rfl).frozen (p * 5 + 3)
        have y4 := (d3.sl 1 rfl).frozen (p * 5 + 4)
        clear d3
        go_region
        go_wp2
        have hmin : min o.Least x.Least = if x.Least < o.Least then x.Least else o.Least := by simp only [Int.min_def]; split <;> split <;> omega
        have hmax : max o.Most x.Most = if o.Most < x.Most then x.Most else o.Most := by simp only [Int.max_def]; split <;> split <;> omega
        obtain ⟨mi, hmi⟩ : ∃ mi, min o.Least x.Least = mi := ⟨_, rfl⟩
        obtain ⟨ma, hma⟩ : ∃ ma, max o.Most x.Most = ma := ⟨_, rfl⟩
        have hmib : Mm.I64 mi ∧ Mm.I64 ma := by
          have j1 := HB3.out; have j2 := HR.out
          unfold Mm.I64
          rw [← hmi, ← hma]
          omega
        have hp2 : p < (xs.set p (⟨o.Labels, o.Sum + x.Sum, o.Count, o.Least, o.Most⟩ : Total)).length := by rw [List.length_set]; exact hpx
        have HS8 := Lib.hid (HS7.out.putSl (k := p) (x' := ⟨o.Labels, o.Sum + x.Sum, o.Count + x.Count, mi, o.Most⟩) (u := .int .i64 mi) (m := 3) 1 rfl (List.getElem?_set_self hp2) (by decide) (fun cs fx h => by
          obtain ⟨A, n, c, f, rfl, rfl, h0, i1, i2, i3, i4⟩ := rTotal_own h
          exact rTotal_own_mk (x := ⟨o.Labels, o.Sum + x.Sum, o.Count + x.Count, mi, o.Most⟩) h0 i1 i2 hmib.1 i4))
        have HS9 := Lib.hid (HS8.out.putSl (k := p) (x' := ⟨o.Labels, o.Sum + x.Sum, o.Count + x.Count, mi, ma⟩) (u := .int .i64 ma) (m := 4) 1 rfl (List.getElem?_set_self (by rw [List.length_set]; exact hp2)) (by decide) (fun cs fx h => by
          obtain ⟨A, n, c, f, rfl, rfl, h0, i1, i2, i3, i4⟩ := rTotal_own h
          exact rTotal_own_mk (x := ⟨o.Labels, o.Sum + x.Sum, o.Count + x.Count, mi, ma⟩) h0 i1 i2 i3 hmib.2))
        have HSA := Lib.hid (HS9.out.step (Below.refl _ _).drew)
        have hlist : Pl.tcomb (l.take (k + 1)) = (((xs.set p (⟨o.Labels, o.Sum + x.Sum, o.Count, o.Least, o.Most⟩ : Total)).set p ⟨o.Labels, o.Sum + x.Sum, o.Count + x.Count, o.Least, o.Most⟩).set p ⟨o.Labels, o.Sum + x.Sum, o.Count + x.Count, mi, o.Most⟩).set p ⟨o.Labels, o.Sum + x.Sum, o.Count + x.Count, mi, ma⟩ := by
          rw [List.set_set, List.set_set, List.set_set, HXN.out]
          unfold Pl.tadd
          rw [← hmi, ← hma, hmin, hmax]
        rw [hmi, hma]
        go_roundg (n - (k + 1))
        case measure => omega
        case rel => exact ⟨k + 1, m, _, c1, fp, _, Nat.le_refl _, by omega, by go_num, rfl, (by show _ = _; rw [List.length_set, List.length_set, List.length_set, List.length_set]; exact HM.out), hlist.symm, HSA.out.sel [1] (by decide) rfl⟩
    · obtain rfl : k = n := by omega
      have f1 : ¬ (k : Int) < (k : Nat) := by omega
      have hxs : xs = Pl.tcomb l := by rw [HX.out, List.take_of_length_le (by rw [HLN.out]; exact Nat.le_refl _)]
      have CA := areTotals_c xs A1 m c1 W _ ((HS.out.sl 0 rfl).weak (HS.out.sl 0 rfl).olt) (Nat.le_refl _)
      obtain ⟨gd, hgd⟩ : ∃ gd, Pl.totalsOk xs = gd := ⟨_, rfl⟩
      rw [hgd] at CA
      cases gd with
      | false =>
        have HG : Hid (Pl.tgood (Pl.tcomb l) = ([], false)) := by show _ = _; rw [← hxs]; unfold Pl.tgood; rw [hgd]; rfl
        clear hxs hgd
        go_wp2_with (go_at_call 26; (with_reducible refine CA.mono ?_); clear CA; rintro e w1 ⟨rfl, hb1⟩)
        go_ret2
        rw [HG.out]
        exact (Mm.Acc.nil (below_step HS.out.bel0 hb1)).ret
      | true =>
        have HG : Hid (Pl.tgood (Pl.tcomb l) = (xs, true)) := by show _ = _; rw [← hxs]; unfold Pl.tgood; rw [hgd]; rfl
        clear hxs hgd
        go_wp2_with (go_at_call 26; (with_reducible refine CA.mono ?_); clear CA; rintro e w1 ⟨rfl, hb1⟩)
        go_ret2
        rw [HG.out]
        have HS2 := HS.out.step hb1
        exact ⟨_, _, _, fp, rfl, HS2.sl 0 rfl, HS2.ndat (i := 0) rfl, fun b hb => (HS2.new b (by simpa [Mm.tsl] using hb)).resolve_left (fun h => by cases h), HS2.bel0⟩
end Go.Proofs.Ytnppcdiicnofpab

/-
  Rows of elements that lead on: what a slice that is read has in its cells; a row made of such cells reads as the same elements; append of such a row. No program in sight. No conditions.
-/
namespace Go.Proofs.Ytnppcdiicnofpab
open Go.RowKit
namespace Mm
/-- the cells of elements that are read -/
structure Css {α : Type} (E : Rep α) (w : World) (B : Nat) (xs : List α) (css : List (List Value)) : Prop where
  len : css.length = xs.length
  at_ : ∀ (i : Nat) (x : α) (y : List Value), xs[i]? = some x → css[i]? = some y → E.at_ w B x y
section
variable {α : Type} {E : Rep α} {e : TypeId} {w w' : World} {B B' : Nat} {xs ys : List α} {A : Option Addr} {n c : Nat} {css dss : List (List Value)}
theorem Css.size (h : Css E w B xs css) : ∀ y ∈ css, y.length = E.size := fun y hy => by
  obtain ⟨i, hi, rfl⟩ := List.mem_iff_getElem.1 hy
  have hx := List.getElem?_eq_getElem (show i < xs.length by rw [← h.len]; exact hi)
  exact E.len (h.at_ i _ _ hx (List.getElem?_eq_getElem hi))
theorem Css.keep (h : Css E w B xs css) (k : ∀ b, b < B → w'.heap[b]? = w.heap[b]?) : Css E w' B xs css := ⟨h.len, fun i x y hx hy => E.keep (h.at_ i x y hx hy) k⟩
theorem Css.more (h : Css E w B xs css) (k : B ≤ B') : Css E w B' xs css := ⟨h.len, fun i x y hx hy => E.more (h.at_ i x y hx hy) k⟩
theorem Css.app (h : Css E w B xs css) (k : Css E w B ys dss) : Css E w B (xs ++ ys) (css ++ dss) := ⟨by rw [List.length_append, List.length_append, h.len, k.len], fun i x y hx hy => by
  by_cases hi : i < xs.length
  · rw [List.getElem?_append_left hi] at hx
    rw [List.getElem?_append_left (by rw [h.len]; exact hi)] at hy
    exact h.at_ i x y hx hy
  · rw [List.getElem?_append_right (by omega)] at hx
    rw [List.getElem?_append_right (by rw [h.len]; omega), h.len] at hy
    exact k.at_ _ x y hx hy⟩
theorem Css.flat_len (h : Css E w B xs css) : (css.flatMap id).length = xs.length * E.size := by
  have hs := h.size
  rw [← h.len]
  clear h
  induction css with
  | nil => simp
  | cons z t ih => rw [List.flatMap_cons, List.length_append, ih (fun y hy => hs y (by simp [hy])), id, hs z (by simp), List.length_cons, Nat.add_mul]; omega
theorem SlAt.cellsOf (h : SlAt E w B xs A n c) : ∃ css, Css E w B xs css ∧ ∀ a, A = some a → ∀ j u, (css.flatMap id)[j]? = some u → w.cell? (a.add j) = some u := by
  have step : ∀ k, k ≤ n → ∃ css : List (List Value), css.length = k ∧ ∀ i x y, xs[i]? = some x → css[i]? = some y → E.at_ w B x y ∧ ∃ b off, A = some ⟨b, off, none⟩ ∧ ∀ j u, y[j]? = some u → w.cell? ⟨b, off + i * E.size + j, none⟩ = some u := by
    intro k
    induction k with
    | zero => intro _; exact ⟨[], rfl, fun i x y _ hy => by simp at hy⟩
    | succ k ih =>
      intro hk
      obtain ⟨css, h1, h2⟩ := ih (by omega)
      obtain ⟨x0, b, off, cs, hx0, hA, hb, ha, hc⟩ := h.get (k := k) (by omega)
      refine ⟨css ++ [cs], by rw [List.length_append, h1]; rfl, fun i x y hx hy => ?_⟩
      by_cases hi : i < k
      · rw [List.getElem?_append_left (by omega)] at hy
        exact h2 i x y hx hy
      · rw [List.getElem?_append_right (by omega), h1] at hy
        obtain rfl : i = k := by
          have := (List.getElem?_eq_some_iff.1 hy).1
          simp at this; omega
        simp at hy
        subst hy
        rw [hx0] at hx
        injection hx with hx
        subst hx
        exact ⟨ha, b, off, hA, hc⟩
  obtain ⟨css, h1, h2⟩ := step n (Nat.le_refl _)
  have hC : Css E w B xs css := ⟨by rw [h1, h.1], fun i x y hx hy => (h2 i x y hx hy).1⟩
  refine ⟨css, hC, fun a hA j u hu => ?_⟩
  obtain ⟨i, r, y, rfl, h3, h4⟩ := flatMap_inv id E.size css hC.size j u hu
  have hx := List.getElem?_eq_getElem (show i < xs.length by rw [← hC.len]; exact (List.getElem?_eq_some_iff.1 h3).1)
  obtain ⟨_, b, off, hA', hc⟩ := h2 i _ y hx h3
  rw [hA] at hA'
  injection hA' with hA'
  subst hA'
  rw [Addr.add_lit, ← Nat.add_assoc]
  exact hc r u h4
/-- a row of such cells reads as the elements -/
theorem SlAt.of_css (hC : Css E w B xs css) {v : Value} (ho : w.ownsRow 0 e E.size v n (css.flatMap id)) (hn : xs.length = n) (hB : w.heap.size ≤ B) : ∃ A' c', v = .slice A' n c' ∧ SlAt E w B xs A' n c' := by
  rcases ho.2 with ⟨rfl, h0⟩ | ⟨g, cap, cur, rfl, _, hg, hnc, hcm, hcs, htake⟩
  · subst h0
    exact ⟨none, 0, rfl, hn, Nat.le_refl _, Nat.zero_le _, fun _ => rfl, fun i x hx => by
      have := (List.getElem?_eq_some_iff.1 hx).1; omega⟩
  · refine ⟨_, cap, rfl, hn, hnc, hcm, (fun h => by cases h), fun i x hx => ?_⟩
    have hi := (List.getElem?_eq_some_iff.1 hx).1
    have hy := List.getElem?_eq_getElem (show i < css.length by rw [hC.len]; exact hi)
    refine ⟨g, 0, css[i]'(by rw [hC.len]; exact hi), rfl, ?_, hC.at_ i x _ hx hy, fun j u hu => ?_⟩
    · have := (ho.lt g (by simp [Value.ownBlock])).2; omega
    · have hc := ho.cells (g := g) rfl (i * E.size + j) u (flatMap_get id _ css hC.size i _ j u hy hu)
      rw [add0] at hc
      simpa using hc
end
section
variable {P : Program} {w : World} {e : TypeId} {v : Value} {xs news : List Value} {n m c : Nat} {A : Option Addr}
/-- append of a whole row, the empty one too -/
theorem run_append_row (t ty : TypeId) (i : TypeInfo) (z : Value) (size bytes : Nat) (ht : P.underlying t = some (.slice e)) (hi : P.info? e = some i) (hz : i.zero = some z) (hsize : i.size = size) (hby : i.bytes = bytes) (hzs : z.cells.size = size) (hsz : 0 < size)
    (hown : w.ownsRow 0 e size v n xs) (hA : A = none → m = 0 ∧ c = 0) (hl : news.length = m * size) (hnews : ∀ a, A = some a → ∀ j u, news[j]? = some u → w.cell? (a.add j) = some u) (h1 : ∀ u ∈ news, u.oneCell' = true) (h63 : n + m ≤ maxLen) (hbytes : (n + m) * bytes ≤ 140737488355328) :
    ∃ v' w', (Builtin.append_ #[t, t] ty #[v, .slice A m c]).run P w = .ok v' w' ∧ w'.ownsRow 0 e size v' (n + m) (xs ++ news) ∧ w.grownBy w' v.ownBlock ∧ (v'.ownBlock = v.ownBlock ∨ v'.ownBlock = some w.heap.size) := by
  cases A with
  | none =>
    obtain ⟨rfl, rfl⟩ := hA rfl
    have hn0 : news = [] := List.length_eq_zero_iff.1 (by omega)
    subst hn0
    refine ⟨v, w, run_append_owned_none (P := P) w 0 t ty e i size ht hi v n xs hown, ?_, ⟨rfl, rfl, rfl, Nat.le_refl _, fun _ _ _ => rfl⟩, .inl rfl⟩
    rw [List.append_nil]
    exact hown
  | some a =>
    obtain ⟨v', w', hr, h2, h3, _, h5⟩ := run_append_own_at (P := P) w 0 t ty e i z size bytes ht hi hz hsize hby hzs hsz v n xs hown a m c news hl (hnews a rfl) h1 h63 hbytes (Nat.zero_le _)
    exact ⟨v', w', hr, h2, h3, h5⟩
end
end Mm
end Go.Proofs.Ytnppcdiicnofpab

/-
  Contracts: slices.Concat of two lists of totals. No conditions beyond those named.
-/
namespace Go.Proofs.Ytnppcdiicnofpab
open Go.RowKit
attribute [local go_sem] und_cell World.cell?_alloc_some
end Go.Proofs.Ytnppcdiicnofpab

/-
  One element of an owned slice changed, in its own cell and in what it leads to; the same among the things of a call. No program in sight. No conditions.
-/
namespace Go.Proofs.Ytnppcdiicnofpab
open Go.RowKit
namespace Mm
section
variable {α : Type} {E : Rep α} {e : TypeId} {w w' : World} {xs : List α} {fp : List Nat}
theorem Chg.grow {fx : List Nat} {a b : World} (h : Chg fx a b) {k : Nat} (hk : k < a.heap.size) (hn : k ∉ fx) : b.heap[k]? = a.heap[k]? := h.block k hk hn
theorem SlOwn.swap {g n c : Nat} (h : SlOwn E e w xs (.slice (some ⟨g, 0, none⟩) n c) fp) (hnd : fp.Nodup) {i : Nat} {x : α} (hi : xs[i]? = some x) :
    ∃ cs fx, E.own w x cs fx ∧ fx.Nodup ∧ (∀ b, b ∈ fx → b ∈ fp ∧ b ≠ g) ∧ (∀ j u, cs[j]? = some u → w.cell? ⟨g, i * E.size + j, none⟩ = some u) ∧
      ∀ W x' j u fx', Chg fx w W → j < E.size → E.own W x' (cs.set j u) fx' → fx'.Nodup → (∀ b, b ∈ fx' → b ∈ fx ∨ w.heap.size ≤ b) →
        ∃ fp', SlOwn E e (W.setCell ⟨g, i * E.size + j, none⟩ u) (xs.set i x') (.slice (some ⟨g, 0, none⟩) n c) fp' ∧ fp'.Nodup ∧ (∀ b, b ∈ fp' → b ∈ fp ∨ w.heap.size ≤ b) ∧ Chg fp w (W.setCell ⟨g, i * E.size + j, none⟩ u) := by
  have hol := h.olt
  have hgm := h.mem_block
  obtain ⟨es, he, ho, rfl⟩ := h
  have hn : n = xs.length := by
    rcases ho.2 with ⟨h, _⟩ | ⟨g', cap, cur, h, _⟩
    · cases h
    · injection h
  subst hn
  have hil : i < xs.length := (List.getElem?_eq_some_iff.1 hi).1
  have hie : i < es.length := by rw [he.1]; exact hil
  have hy := List.getElem?_eq_getElem hie
  have hown := he.2 i x _ hi hy
  have hgl := hol g hgm
  simp only [Value.ownBlock, Option.toList_some, List.singleton_append, List.nodup_cons] at hnd
  have hgn : ∀ y ∈ es, g ∉ y.2 := fun y hy hg => hnd.1 (List.mem_flatMap.2 ⟨y, hy, hg⟩)
  have hsp := flat_split (·.2) hy
  have hd := hnd.2
  rw [(hsp es[i]).1] at hd
  simp only [List.nodup_append] at hd
  have hmem : ∀ b, b ∈ es[i].2 → b ∈ es.flatMap (·.2) := fun b hb => List.mem_flatMap.2 ⟨_, List.getElem_mem hie, hb⟩
  refine ⟨es[i].1, es[i].2, hown, hd.2.1.1, fun b hb => ⟨List.mem_append_right _ (hmem b hb), fun e => hgn _ (List.getElem_mem hie) (e ▸ hb)⟩, fun j u hu => ?_, fun W x' j u fx' hc hj hx' hxn hxs => ?_⟩
  · have := ho.cells (g := g) rfl (i * E.size + j) u (flatMap_get (·.1) E.size es he.len i _ j u hy hu)
    rw [add0] at this
    exact this
  · have hW : ∀ b, b ≠ g → (W.setCell ⟨g, i * E.size + j, none⟩ u).heap[b]? = W.heap[b]? := fun b hb => Below.heap_setCell _ _ _ _ hb
    have m1 : ∀ y, y ∈ es.take i → ∀ b, b ∈ y.2 → b ∉ es[i].2 := fun y hy b hb hm => hd.2.2 b (List.mem_flatMap.2 ⟨y, hy, hb⟩) b (List.mem_append_left _ hm) rfl
    have m2 : ∀ y, y ∈ es.drop (i + 1) → ∀ b, b ∈ y.2 → b ∉ es[i].2 := fun y hy b hb hm => hd.2.1.2.2 b hm b (List.mem_flatMap.2 ⟨y, hy, hb⟩) rfl
    have hgx : g ∉ fx' := fun hg => by
      rcases hxs g hg with h | h
      · exact hgn _ (List.getElem_mem hie) h
      · omega
    have hsub : ∀ b, b ∈ (es.set i (es[i].1.set j u, fx')).flatMap (·.2) → b ∈ es.flatMap (·.2) ∨ w.heap.size ≤ b := by
      intro b hb
      obtain ⟨y, hy, hb⟩ := List.mem_flatMap.1 hb
      rcases List.mem_or_eq_of_mem_set hy with h | rfl
      · exact .inl (List.mem_flatMap.2 ⟨y, h, hb⟩)
      · exact (hxs b hb).imp (hmem b) id
    have hWo : W.ownsRow 0 e E.size (.slice (some ⟨g, 0, none⟩) xs.length c) xs.length (es.flatMap (·.1)) := by
      refine ⟨ho.1, ?_⟩
      rcases ho.2 with h | ⟨g', cap, cur, hv, h1, h2, h3⟩
      · exact .inl h
      · injection hv with hA _ hcap
        injection hA with hA
        injection hA with hA
        subst hA
        subst hcap
        exact .inr ⟨g, _, cur, rfl, h1, (hc.block g hgl (hgn _ (List.getElem_mem hie))).trans h2, h3⟩
    have h1 := (hWo.stored (i * E.size + j) u).1
    have hs : setList (es.flatMap (·.1)) (i * E.size) (es[i].1.set j u) = (es.flatMap (·.1)).set (i * E.size + j) u := by
      have hlen : (es.flatMap (·.1)).length = xs.length * E.size := ho.1
      have hle : i * E.size + E.size ≤ xs.length * E.size := by
        have := Nat.mul_le_mul_right E.size (show i + 1 ≤ xs.length by omega)
        rw [Nat.add_mul] at this; omega
      have hol := E.olen hown
      apply List.ext_getElem?
      intro k
      rw [setList_get _ _ _ _ (by rw [List.length_set, hol, hlen]; exact hle), List.length_set, hol]
      by_cases hkk : i * E.size ≤ k ∧ k < i * E.size + E.size
      · rw [if_pos hkk]
        by_cases hkj : k = i * E.size + j
        · subst hkj
          rw [show i * E.size + j - i * E.size = j by omega, List.getElem?_set_self (by omega), List.getElem?_set_self (by omega)]
        · rw [List.getElem?_set_ne (by omega), List.getElem?_set_ne (by omega)]
          have hu := List.getElem?_eq_getElem (show k - i * E.size < es[i].1.length by omega)
          have := flatMap_get (·.1) E.size es he.len i _ (k - i * E.size) _ hy hu
          rw [show i * E.size + (k - i * E.size) = k by omega] at this
          rw [this, hu]
      · rw [if_neg hkk, List.getElem?_set_ne (by omega)]
    have hll := setList_elems E.size es i (es[i].1.set j u) fx' he.len (by rw [List.length_set]; exact E.olen hown) hie
    have hchg : Chg (g :: es.flatMap (·.2)) w (W.setCell ⟨g, i * E.size + j, none⟩ u) := (hc.more fun b hb => List.mem_cons_of_mem _ (hmem b hb)).setCell (by simp) u
    refine ⟨_, ⟨es.set i (es[i].1.set j u, fx'), ⟨by rw [List.length_set, List.length_set, he.1], fun k y z hy hz => ?_⟩, ?_, rfl⟩, ?_, ?_, hchg⟩
    · by_cases hki : i = k
      · subst hki
        rw [List.getElem?_set_self hie] at hz
        rw [List.getElem?_set_self hil] at hy
        injection hy with hy; injection hz with hz
        subst hy; subst hz
        exact E.okeep hx' fun b hb => hW b (fun e => hgx (e ▸ hb))
      · rw [List.getElem?_set_ne hki] at hz hy
        have hk := he.2 k y z hy hz
        refine E.okeep hk fun b hb => (hW b (fun e => hgn z (List.mem_of_getElem? hz) (e ▸ hb))).trans (hc.block b (E.olt hk b hb) ?_)
        rcases Nat.lt_or_gt_of_ne hki with h | h
        · refine m2 z (List.mem_of_getElem? (i := k - (i + 1)) ?_) b hb
          rw [List.getElem?_drop, show i + 1 + (k - (i + 1)) = k by omega]
          exact hz
        · refine m1 z (List.mem_of_getElem? (i := k) ?_) b hb
          rw [List.getElem?_take, if_pos h]
          exact hz
    · rw [List.length_set, ← hll, hs]; exact h1
    · simp only [Value.ownBlock, Option.toList_some, List.singleton_append, List.nodup_cons]
      refine ⟨fun hg => ?_, ?_⟩
      · rcases hsub g hg with h | h
        · exact hnd.1 h
        · omega
      rw [(hsp (es[i].1.set j u, fx')).2]
      simp only [List.nodup_append]
      have hL : ∀ b, b ∈ es.flatMap (·.2) → b < w.heap.size := fun b hb => hol b (List.mem_append_right _ hb)
      rw [(hsp es[i]).1] at hL
      refine ⟨hd.1, ⟨hxn, hd.2.1.2.1, fun a ha b hb hab => ?_⟩, fun a ha b hb hab => ?_⟩
      · subst hab
        rcases hxs a ha with h | h
        · exact hd.2.1.2.2 a h a hb rfl
        · have := hL a (List.mem_append_right _ (List.mem_append_right _ hb)); omega
      · subst hab
        rcases List.mem_append.1 hb with hb | hb
        · rcases hxs a hb with h | h
          · exact hd.2.2 a ha a (List.mem_append_left _ h) rfl
          · have := hL a (List.mem_append_left _ ha); omega
        · exact hd.2.2 a ha a (List.mem_append_right _ hb) rfl
    · intro b hb
      rcases List.mem_append.1 hb with hb | hb
      · exact .inl (List.mem_append_left _ hb)
      · exact (hsub b hb).imp (List.mem_append_right _) id
/-- element k is changed, one of its own cells and what it leads to -/
theorem SepF.swap {F : List Nat} {w0 wr : World} {ts : List Thing} {g n c k : Nat} {x : α} (h : SepF F w0 wr ts) (i : Nat) (hi : ts[i]? = some (tsl E e xs (.slice (some ⟨g, 0, none⟩) n c) fp)) (hk : xs[k]? = some x) :
    ∃ cs fx, E.own wr x cs fx ∧ fx.Nodup ∧ (∀ b, b ∈ fx → b ∈ fp ∧ b ≠ g) ∧ (∀ j u, cs[j]? = some u → wr.cell? ⟨g, k * E.size + j, none⟩ = some u) ∧
      ∀ W x' j u fx', Chg fx wr W → j < E.size → E.own W x' (cs.set j u) fx' → fx'.Nodup → (∀ b, b ∈ fx' → b ∈ fx ∨ wr.heap.size ≤ b) →
        ∃ fp', SepF F w0 (W.setCell ⟨g, k * E.size + j, none⟩ u) (ts.set i (tsl E e (xs.set k x') (.slice (some ⟨g, 0, none⟩) n c) fp')) := by
  have h1 : SlOwn E e wr xs (.slice (some ⟨g, 0, none⟩) n c) fp := h.at_ i hi
  obtain ⟨cs, fx, k1, k2, k3, k4, k5⟩ := h1.swap (h.ndat hi) hk
  refine ⟨cs, fx, k1, k2, k3, k4, fun W x' j u fx' m1 m2 m3 m4 m5 => ?_⟩
  obtain ⟨fp', p1, p2, p3, p4⟩ := k5 W x' j u fx' m1 m2 m3 m4 m5
  exact ⟨fp', h.upd hi p4 p1 p2 p3⟩
end
end Mm
end Go.Proofs.Ytnppcdiicnofpab

/-
  Three appends in a row that lay one total among others; memory that a store leaves as it was. No conditions beyond those named.
-/
namespace Go.Proofs.Ytnppcdiicnofpab
open Go.RowKit
attribute [local go_sem] und_cell World.cell?_alloc_some
theorem Mm.setCell_id {w : World} {g k : Nat} {t : TypeId} {cs : List Value} {v : Value} (h : Mm.Blk w g t cs) (hk : cs[k]? = some v) : w.setCell ⟨g, k, none⟩ v = w := by
  unfold Mm.Blk at h
  rw [setCell_eq_setRow w g k cs.toArray t (0, 0) v h]
  have e : cs.toArray.setIfInBounds k v = cs.toArray := by
    apply Array.toList_inj.1
    rw [Array.toList_setIfInBounds]
    apply List.ext_getElem?
    intro i
    by_cases hi : k = i
    · subst hi
      rw [List.getElem?_set_self (by simpa using (List.getElem?_eq_some_iff.1 hk).1)]
      exact hk.symm
    · rw [List.getElem?_set_ne hi]
  rw [e, setRow_self w g cs.toArray t (0, 0) h]
theorem Mm.Blk.cell_inv {w : World} {g k : Nat} {t : TypeId} {cs : List Value} {v : Value} (h : Mm.Blk w g t cs) (hc : w.cell? ⟨g, k, none⟩ = some v) : cs[k]? = some v := by
  unfold Mm.Blk at h
  unfold World.cell? at hc
  rw [h] at hc
  simpa using hc
theorem Mm.SlOwn.blk {α : Type} {E : Mm.Rep α} {e : TypeId} {w : World} {xs : List α} {g n c : Nat} {fp : List Nat} (h : Mm.SlOwn E e w xs (.slice (some ⟨g, 0, none⟩) n c) fp) : ∃ cur, Mm.Blk w g e cur := by
  obtain ⟨es, he, ho, rfl⟩ := h
  rcases ho.2 with ⟨h, _⟩ | ⟨g', cap, cur, h, _, hg, _⟩
  · cases h
  · injection h with h _ _
    injection h with h
    injection h with h _
    subst h
    exact ⟨cur.toList, by unfold Mm.Blk; rw [Array.toArray_toList]; exact hg⟩
theorem Mm.rowKeep {w w' : World} {base S : Nat} {e : TypeId} {v : Value} {n : Nat} {xs : List Value} (h : w.ownsRow base e S v n xs) (hk : ∀ g, v.ownBlock = some g → w'.heap[g]? = w.heap[g]?) : w'.ownsRow base e S v n xs := by
  refine ⟨h.1, h.2.imp id ?_⟩
  rintro ⟨g, cap, cur, rfl, h1, h2, h3⟩
  exact ⟨g, cap, cur, rfl, h1, (hk g rfl).trans h2, h3⟩
theorem Mm.rowForm {w : World} {S : Nat} {e : TypeId} {v : Value} {n : Nat} {xs : List Value} (h : w.ownsRow 0 e S v n xs) : ∃ A c, v = .slice A n c := by
  rcases h.2 with ⟨h1, h2⟩ | ⟨g', cap, cur, h1, _⟩
  · exact ⟨none, 0, by rw [h1, h2]⟩
  · exact ⟨_, cap, h1⟩
set_option maxRecDepth 100000 in
theorem put3 (W : World) (A1 A3 : Option Addr) (n p m3 c1 c3 : Nat) (lc ct : List Value) (ho : W.ownsRow 0 59 5 (.slice A1 n c1) n lc) (h1c : ∀ u ∈ lc, u.oneCell' = true) (hp : p ≤ n) (hn : n ≤ 100) (hct : ct.length = 5) (h1 : ∀ u ∈ ct, u.oneCell' = true) (hA1 : A1 = none → p = 0 ∧ c1 = 0) (hm : m3 = n - p) (hA3 : A3 = none → m3 = 0 ∧ c3 = 0) (hs1 : ∀ a, A1 = some a → ∀ j u, (lc.take (p * 5))[j]? = some u → W.cell? (a.add j) = some u) (hs3 : ∀ a, A3 = some a → ∀ j u, (lc.drop (p * 5))[j]? = some u → W.cell? (a.add j) = some u) :
    ∃ A8 c8 w8, (∀ ty, (Builtin.append_ #[27, 27] ty #[.slice (some ⟨W.heap.size, 0, none⟩) 0 0, .slice A1 p c1]).run Try.prog (W.alloc (.cells #[] 59)) = .ok (.slice A8 p c8) w8) ∧
    ∃ A10 c10 w10, (∀ ty, (Builtin.append_ #[27, 27] ty #[.slice A8 p c8, .slice (some ⟨w8.heap.size, 0, none⟩) 1 1]).run Try.prog (w8.alloc (.cells ct.toArray 59)) = .ok (.slice A10 (p + 1) c10) w10) ∧
    ∃ A11 c11 w11, (∀ ty, (Builtin.append_ #[27, 27] ty #[.slice A10 (p + 1) c10, .slice A3 m3 c3]).run Try.prog w10 = .ok (.slice A11 (n + 1) c11) w11) ∧
      w11.ownsRow 0 59 5 (.slice A11 (n + 1) c11) (n + 1) (lc.take (p * 5) ++ ct ++ lc.drop (p * 5)) ∧ Below W.heap.size W w8 ∧ Below W.heap.size W w11 ∧ (∀ g, (Value.slice A11 (n + 1) c11).ownBlock = some g → W.heap.size ≤ g) := by
  obtain ⟨i0, hi, hz0, hzs, hzb⟩ := info_parts Try.infoTot
  have hcl := ho.1
  have hU := Try.underlying27
  have k0 : Below W.heap.size W (W.alloc (.cells #[] 59)) := below_new (Below.refl _ _) _
  have hblk : ∀ {V : World}, Below W.heap.size W V → ∀ (a : Addr) j u, W.cell? (a.add j) = some u → V.cell? (a.add j) = some u := fun hb a j u h => below_some hb h
  have r0 : (W.alloc (.cells #[] 59)).ownsRow 0 59 5 (.slice (some ⟨W.heap.size, 0, none⟩) 0 0) 0 [] := ⟨rfl, .inr ⟨W.heap.size, 0, #[], rfl, Nat.zero_le _, heap_alloc_new W _, Nat.le_refl _, Nat.zero_le _, rfl, rfl⟩⟩
  have ap : ∀ {V : World} {v : Value} {nn : Nat} {xs news : List Value} {A : Option Addr} {mm cc : Nat}, V.ownsRow 0 59 5 v nn xs → (A = none → mm = 0 ∧ cc = 0) → news.length = mm * 5 → (∀ a, A = some a → ∀ j u, news[j]? = some u → V.cell? (a.add j) = some u) → (∀ u ∈ news, u.oneCell' = true) → nn + mm ≤ 1000 →
      ∃ v' w', (∀ ty, (Builtin.append_ #[27, 27] ty #[v, .slice A mm cc]).run Try.prog V = .ok v' w') ∧ w'.ownsRow 0 59 5 v' (nn + mm) (xs ++ news) ∧ V.grownBy w' v.ownBlock ∧ (v'.ownBlock = v.ownBlock ∨ v'.ownBlock = some V.heap.size) := by
    intro V v nn xs news A mm cc q1 q2 q3 q4 q5 q6
    obtain ⟨v', w', hr, h2, h3, h4⟩ := Mm.run_append_row (P := Try.prog) (w := V) 27 0 i0 _ 5 56 hU hi hz0 hzs hzb rfl (by omega) q1 q2 q3 q4 q5 (by unfold maxLen; omega) (by omega)
    exact ⟨v', w', fun ty => hr, h2, h3, h4⟩
  obtain ⟨v8, w8, e1, r1, g1, o1⟩ := ap r0 hA1 (by rw [List.length_take, hcl]; omega) (fun a ha j u hj => hblk k0 a j u (hs1 a ha j u hj)) (fun u hu => h1c u (List.mem_of_mem_take hu)) (by omega)
  rw [Nat.zero_add, List.nil_append] at r1
  obtain ⟨A8, c8, rfl⟩ := Mm.rowForm r1
  have k1 : Below W.heap.size W w8 := k0.grown g1 k0.size (fun k hk => by simp [Value.ownBlock] at hk; omega)
  have n1 : ∀ g, (Value.slice A8 p c8).ownBlock = some g → W.heap.size ≤ g ∧ g < w8.heap.size := fun g hg => ⟨by
    rcases o1 with h | h
    · rw [hg] at h; simp [Value.ownBlock] at h; omega
    · rw [hg] at h; injection h with h; have := k0.size; omega, (r1.lt g hg).2⟩
  have k2 : Below W.heap.size W (w8.alloc (.cells ct.toArray 59)) := below_new k1 _
  have r2 : (w8.alloc (.cells ct.toArray 59)).ownsRow 0 59 5 (.slice A8 p c8) p (lc.take (p * 5)) := Mm.rowKeep r1 (fun g hg => heap_alloc_old w8 _ (n1 g hg).2)
  have nb := Mm.Blk.new w8 59 ct
  obtain ⟨v10, w10, e2, r3, g2, o2⟩ := ap (A := some ⟨w8.heap.size, 0, none⟩) (mm := 1) (cc := 1) (news := ct) r2 (fun h => by cases h) (by omega) (fun a ha j u hj => by injection ha with ha; subst ha; rw [Mm.add0]; exact nb.cell hj) h1 (by omega)
  obtain ⟨A10, c10, rfl⟩ := Mm.rowForm r3
  have k3 : Below W.heap.size W w10 := k2.grown g2 k2.size (fun k hk => (n1 k hk).1)
  have n2 : ∀ g, (Value.slice A10 (p + 1) c10).ownBlock = some g → W.heap.size ≤ g := fun g hg => by
    rcases o2 with h | h
    · rw [hg] at h; exact (n1 g h.symm).1
    · rw [hg] at h; injection h with h; have := k2.size; omega
  obtain ⟨v11, w11, e3, r4, g3, o3⟩ := ap r3 hA3 (by rw [List.length_drop, hcl, hm]; omega) (fun a ha j u hj => hblk k3 a j u (hs3 a ha j u hj)) (fun u hu => h1c u (List.mem_of_mem_drop hu)) (by omega)
  rw [show p + 1 + m3 = n + 1 by omega] at r4
  obtain ⟨A11, c11, rfl⟩ := Mm.rowForm r4
  refine ⟨A8, c8, w8, e1, A10, c10, w10, e2, A11, c11, w11, e3, r4, k1, k3.grown g3 k3.size (fun k hk => n2 k hk), fun g hg => ?_⟩
  rcases o3 with h | h
  · rw [hg] at h; exact n2 g h.symm
  · rw [hg] at h; injection h with h; have := k3.size; omega
end Go.Proofs.Ytnppcdiicnofpab
