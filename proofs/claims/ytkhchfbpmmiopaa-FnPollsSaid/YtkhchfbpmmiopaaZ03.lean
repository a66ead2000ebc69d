/-
  Joined texts, in build order: Rg, Ap, Ra, Rs, N0, N1, N2, N3, N4, E0, N5, Pk. Each part says what it proves; no conditions beyond those that a part names.
-/
import Derived.Test.YtkhchfbpmmiopaaZ01
import Derived.Test.YtkhchfbpmmiopaaZ02
import Derived.BigQuiet
import Derived.Deep.AppendLies
import Derived.Lib.Strings
import Derived.Lib.Hide
import Derived.Deep.DeepFit
import Derived.Deep.LoopGhost
import Derived.Laws.StructEq
import Derived.WalkKit
/-
  Regions that draw their order and whose operations hand back new things (a call that makes a slice, an alloc, an append): one walk in the order of the text serves every order. What an operation gives, and which earlier operation's things it takes, is told ahead by a plan. No program in sight. No conditions.
-/
namespace Go.Proofs.Ytkhchfbpmmiopaa
open Go.RowKit
namespace Mm

abbrev Sig := Nat → List Thing
/-- what operation i gives: of its operands' values and the things it takes, a value and things -/
abbrev Rel := List Value → List Thing → Value → List Thing → Prop
def sigUpd (takes : Nat → List Nat) (σ : Sig) (i : Nat) (ds : List Thing) : Sig := fun k => bif k == i then ds else bif (takes i).contains k then [] else σ k

section
variable {P : Program} {ops : Array Oper} {md : Region.Mode} {C : Sig → World → Prop} {D : World → Prop} {rel : Nat → Option Rel} {takes : Nat → List Nat}

def ups (P : Program) (C' : Value → World → Prop) : Result Next → Prop
  | .ok (.value u) w' => C' u w'
  | .ok .skip w' => C' undef w'
  | .ok (.enter f args) w' => Calls P f args w' (fun e w'' => ∃ v, e = .returned v ∧ C' v w'')
  | .ok (.row row args) w' => Rows P row args w' fun v w'' => C' v w''
  | _ => False
def valUpon (w : World) (v : Value) : Result Next → Prop
  | .ok (.value u) w' => w' = w ∧ u = v
  | .ok .skip w' => w' = w ∧ undef = v
  | _ => False
def GDet (P : Program) (D : World → Prop) (o : Oper) (a : Act) (v : Value) : Prop := ∀ w, D w → valUpon w v ((execOp a.eval o).run P w)
def GValid (P : Program) (C : Sig → World → Prop) (takes : Nat → List Nat) (i : Nat) (o : Oper) (a : Act) (σ : Sig) (r : Value → List Thing → Prop) : Prop :=
  ∀ σ' w, C σ' w → (∀ k ∈ takes i, σ' k = σ k) → ups P (fun v w' => ∃ ds, r v ds ∧ C (sigUpd takes σ' i ds) w') ((execOp a.eval o).run P w)
abbrev GRelAt (takes : Nat → List Nat) (r : Rel) (i : Nat) (o : Oper) (a : Act) (σ : Sig) : Value → List Thing → Prop := r (o.op.operands.toList.map a.eval) ((takes i).flatMap σ)

/-- what operation i may bring in state (a, σ): its value, and how the things turn -/
def GStatus (P : Program) (ops : Array Oper) (C : Sig → World → Prop) (D : World → Prop) (rel : Nat → Option Rel) (takes : Nat → List Nat) (i : Nat) (o : Oper) (a : Act) (σ : Sig) (O : Value → (Sig → Sig) → Prop) : Prop :=
  (Region.wanted o (yielded ops a.tmps) = false ∧ O = fun u f => u = undef ∧ f = id) ∨
  (Region.wanted o (yielded ops a.tmps) = true ∧ rel i = none ∧ ∃ v, GDet P D o a v ∧ O = fun u f => u = v ∧ f = id) ∨
  (Region.wanted o (yielded ops a.tmps) = true ∧ ∃ r, rel i = some r ∧ GValid P C takes i o a σ (GRelAt takes r i o a σ) ∧ (∃ v ds, GRelAt takes r i o a σ v ds) ∧ O = fun u f => ∃ ds, GRelAt takes r i o a σ u ds ∧ f = fun s => sigUpd takes s i ds)

def gOp (P : Program) (ops : Array Oper) (C : Sig → World → Prop) (D : World → Prop) (rel : Nat → Option Rel) (takes : Nat → List Nat) (i : Nat) (K : Act → Sig → Prop) (a : Act) (σ : Sig) : Prop :=
  match ops[i]? with
  | none => K a σ
  | some o => ∃ O, GStatus P ops C D rel takes i o a σ O ∧ ∀ v f, O v f → K (a.put o.dst v) (f σ)

theorem gOp_mono {i : Nat} {a : Act} {σ : Sig} {K K' : Act → Sig → Prop} (h : ∀ a s, K a s → K' a s) (hh : gOp P ops C D rel takes i K a σ) : gOp P ops C D rel takes i K' a σ := by
  unfold gOp at *
  split
  · exact h _ _ (by simpa [*] using hh)
  · rename_i o ho
    simp only [ho] at hh
    obtain ⟨O, h1, h2⟩ := hh
    exact ⟨O, h1, fun v f hO => h _ _ (h2 v f hO)⟩

theorem GDet.uniq {o : Oper} {a : Act} {v u : Value} {w : World} (hw : D w) (h : GDet P D o a v) (k : GDet P D o a u) : v = u := by
  have h1 := h w hw
  have h2 := k w hw
  generalize (execOp a.eval o).run P w = r at *
  cases r with
  | ok n w' => cases n <;> simp only [valUpon] at h1 h2 <;> first | exact h1.2.symm.trans h2.2 | exact h1.elim
  | halt x w' => exact h1.elim

theorem GStatus.func {i : Nat} {o : Oper} {a : Act} {σ : Sig} {O O' : Value → (Sig → Sig) → Prop} (hD : ∃ w, D w) (h : GStatus P ops C D rel takes i o a σ O) (k : GStatus P ops C D rel takes i o a σ O') : O = O' := by
  obtain ⟨w, hw⟩ := hD
  rcases h with ⟨h1, h2⟩ | ⟨h1, hr, v, h2, h3⟩ | ⟨h1, r, hr, h2, h3, h4⟩ <;> rcases k with ⟨k1, k2⟩ | ⟨k1, kr, u, k2, k3⟩ | ⟨k1, s, kr, k2, k3, k4⟩
  · rw [h2, k2]
  · rw [h1] at k1; cases k1
  · rw [h1] at k1; cases k1
  · rw [h1] at k1; cases k1
  · rw [h3, k3, GDet.uniq hw h2 k2]
  · rw [hr] at kr; cases kr
  · rw [h1] at k1; cases k1
  · rw [hr] at kr; cases kr
  · rw [hr] at kr; injection kr with kr; subst kr; rw [h4, k4]

theorem GStatus.ex {i : Nat} {o : Oper} {a : Act} {σ : Sig} {O : Value → (Sig → Sig) → Prop} (h : GStatus P ops C D rel takes i o a σ O) : ∃ v f, O v f := by
  rcases h with ⟨_, h2⟩ | ⟨_, _, v, _, h3⟩ | ⟨_, r, _, _, ⟨v, ds, h3⟩, h4⟩
  · exact ⟨undef, id, by rw [h2]; exact ⟨rfl, rfl⟩⟩
  · exact ⟨v, id, by rw [h3]; exact ⟨rfl, rfl⟩⟩
  · exact ⟨v, _, by rw [h4]; exact ⟨ds, h3, rfl⟩⟩

/-- the shape of what turns: nothing, or i's own -/
theorem GStatus.turn {i : Nat} {o : Oper} {a : Act} {σ : Sig} {O : Value → (Sig → Sig) → Prop} (h : GStatus P ops C D rel takes i o a σ O) {v : Value} {f : Sig → Sig} (hO : O v f) : f = id ∨ ∃ ds, f = fun s => sigUpd takes s i ds := by
  rcases h with ⟨_, h2⟩ | ⟨_, _, _, _, h3⟩ | ⟨_, r, _, _, _, h4⟩
  · rw [h2] at hO; exact .inl hO.2
  · rw [h3] at hO; exact .inl hO.2
  · rw [h4] at hO; obtain ⟨ds, _, h⟩ := hO; exact .inr ⟨ds, h⟩

def Indep (takes : Nat → List Nat) (i j : Nat) : Prop := i ≠ j ∧ i ∉ takes j ∧ j ∉ takes i ∧ ∀ k, k ∈ takes i → k ∉ takes j
theorem Indep.symm {i j : Nat} (h : Indep takes i j) : Indep takes j i := ⟨Ne.symm h.1, h.2.2.1, h.2.1, fun k hk hi => h.2.2.2 k hi hk⟩

theorem sigUpd_far {σ : Sig} {i j : Nat} {ds : List Thing} (h : Indep takes i j) {k : Nat} (hk : k ∈ takes j) : sigUpd takes σ i ds k = σ k := by
  unfold sigUpd
  have h1 : (k == i) = false := by rw [beq_eq_false_iff_ne]; rintro rfl; exact h.2.1 hk
  have h2 : (takes i).contains k = false := by
    cases hc : (takes i).contains k
    · rfl
    · exact absurd hk (h.2.2.2 k (by simpa using hc))
  rw [h1, h2]; rfl
theorem sigUpd_comm {σ : Sig} {i j : Nat} {ds es : List Thing} (h : Indep takes i j) : sigUpd takes (sigUpd takes σ i ds) j es = sigUpd takes (sigUpd takes σ j es) i ds := by
  funext k
  unfold sigUpd
  by_cases hi : k = i
  · subst hi
    have h1 : (k == j) = false := by rw [beq_eq_false_iff_ne]; exact h.1
    have h2 : (takes j).contains k = false := by
      cases hc : (takes j).contains k
      · rfl
      · exact absurd (by simpa using hc) h.2.1
    rw [h1, h2]; simp
  · have hi' : (k == i) = false := by rw [beq_eq_false_iff_ne]; exact hi
    rw [hi']
    by_cases hj : k = j
    · subst hj
      have h2 : (takes i).contains k = false := by
        cases hc : (takes i).contains k
        · rfl
        · exact absurd (by simpa using hc) h.2.2.1
      rw [h2]; simp
    · have hj' : (k == j) = false := by rw [beq_eq_false_iff_ne]; exact hj
      rw [hj']
      cases (takes i).contains k <;> cases (takes j).contains k <;> rfl

theorem map_eval_put {o oj : Oper} {a : Act} {v : Value} (h : ∀ d, oj.dst = some d → d ∉ o.looksAt ops) : o.op.operands.toList.map (a.put oj.dst v).eval = o.op.operands.toList.map a.eval := by
  refine List.map_congr_left fun x hx => Act.eval_put fun d hd hxd => h d hd ?_
  subst hxd
  exact List.mem_append_left _ (List.mem_filterMap.2 ⟨.tmp d, hx, rfl⟩)

theorem GStatus.keep {i : Nat} {o oj : Oper} {a : Act} {σ σ' : Sig} {O : Value → (Sig → Sig) → Prop} (h : GStatus P ops C D rel takes i o a σ O) (hs : ∀ cs b, o.op ≠ .select cs b) (hl : ∀ d, oj.dst = some d → d ∉ o.looksAt ops) (u : Value)
    (hσ : ∀ k, k ∈ takes i → σ' k = σ k) : GStatus P ops C D rel takes i o (a.put oj.dst u) σ' O := by
  have e1 := execOp_put o hs a oj.dst u hl
  have e2 := wanted_put o a oj.dst u hl
  have e3 := map_eval_put (a := a) (v := u) hl
  have e4 : (takes i).flatMap σ' = (takes i).flatMap σ := by
    rw [List.flatMap_def, List.flatMap_def]; exact congrArg List.flatten (List.map_congr_left hσ)
  have e5 : ∀ r : Rel, GRelAt takes r i o (a.put oj.dst u) σ' = GRelAt takes r i o a σ := fun r => by unfold GRelAt; rw [e3, e4]
  rcases h with ⟨h1, h2⟩ | ⟨h1, hr, v, h2, h3⟩ | ⟨h1, r, hr, h2, h3, h4⟩
  · exact .inl ⟨by rw [e2]; exact h1, h2⟩
  · refine .inr (.inl ⟨by rw [e2]; exact h1, hr, v, ?_, h3⟩)
    unfold GDet at *
    rw [e1]; exact h2
  · refine .inr (.inr ⟨by rw [e2]; exact h1, r, hr, ?_, ?_, ?_⟩)
    · unfold GValid at *
      rw [e1, e5]
      exact fun s w hc hk => h2 s w hc (fun k hk' => (hk k hk').trans (hσ k hk'))
    · rw [e5]; exact h3
    · rw [e5]; exact h4

/-- operations i and j do not meet: what j does ahead of i, it does behind it -/
theorem gOp_put {i j : Nat} {oi oj : Oper} {O : Value → (Sig → Sig) → Prop} (hD : ∃ w, D w) (hj : ops[j]? = some oj) (hap : oi.apart ops oj = true) (hin : Indep takes i j)
    (hsi : ∀ cs b, oi.op ≠ .select cs b) (hsj : ∀ cs b, oj.op ≠ .select cs b) {K : Act → Sig → Prop} {a : Act} {σ : Sig}
    (hy : GStatus P ops C D rel takes i oi a σ O) (h : ∀ v f, O v f → gOp P ops C D rel takes j K (a.put oi.dst v) (f σ)) :
    gOp P ops C D rel takes j (fun a' s => GStatus P ops C D rel takes i oi a' s O ∧ ∀ v f, O v f → K (a'.put oi.dst v) (f s)) a σ := by
  obtain ⟨h1, h2, h3⟩ := Oper.apart_spec hap
  -- j's status in the state ahead of i
  have back : ∀ v f, O v f → ∃ O', GStatus P ops C D rel takes j oj a σ O' ∧ ∀ u g, O' u g → K ((a.put oi.dst v).put oj.dst u) (g (f σ)) := fun v f hO => by
    have := h v f hO
    unfold gOp at this
    simp only [hj] at this
    obtain ⟨O', k1, k2⟩ := this
    refine ⟨O', ?_, k2⟩
    have e1 := execOp_put oj hsj a oi.dst v h1
    have e2 := wanted_put oj a oi.dst v h1
    have e3 := map_eval_put (a := a) (v := v) h1
    have hσ : ∀ k, k ∈ takes j → f σ k = σ k := fun k hk => by
      rcases hy.turn hO with rfl | ⟨ds, rfl⟩
      · rfl
      · exact sigUpd_far hin hk
    have e4 : (takes j).flatMap (f σ) = (takes j).flatMap σ := by
      rw [List.flatMap_def, List.flatMap_def]; exact congrArg List.flatten (List.map_congr_left hσ)
    have e5 : ∀ r : Rel, GRelAt takes r j oj (a.put oi.dst v) (f σ) = GRelAt takes r j oj a σ := fun r => by unfold GRelAt; rw [e3, e4]
    rcases k1 with ⟨q1, q2⟩ | ⟨q1, hr, x, q2, q3⟩ | ⟨q1, r, hr, q2, q3, q4⟩
    · exact .inl ⟨by rw [← e2]; exact q1, q2⟩
    · refine .inr (.inl ⟨by rw [← e2]; exact q1, hr, x, ?_, q3⟩)
      unfold GDet at *
      rw [← e1]; exact q2
    · refine .inr (.inr ⟨by rw [← e2]; exact q1, r, hr, ?_, ?_, ?_⟩)
      · unfold GValid at *
        rw [← e5, ← e1]
        exact fun s w hc hk => q2 s w hc (fun k hk' => (hk k hk').trans (hσ k hk').symm)
      · rw [← e5]; exact q3
      · rw [← e5]; exact q4
  obtain ⟨v0, f0, hO0⟩ := hy.ex
  obtain ⟨O', k1, _⟩ := back v0 f0 hO0
  unfold gOp
  simp only [hj]
  refine ⟨O', k1, fun u g hg => ⟨hy.keep hsi h3 u (fun k hk => ?_), fun v f hO => ?_⟩⟩
  · rcases k1.turn hg with rfl | ⟨ds, rfl⟩
    · rfl
    · exact sigUpd_far hin.symm hk
  · obtain ⟨O2, m1, m2⟩ := back v f hO
    rw [k1.func hD m1] at hg
    have := m2 u g hg
    rw [Act.put_comm a v u h2] at this
    have e : g (f σ) = f (g σ) := by
      rcases hy.turn hO with rfl | ⟨ds, rfl⟩
      · rfl
      · rcases m1.turn hg with rfl | ⟨es, rfl⟩
        · rfl
        · exact sigUpd_comm hin
    rw [e] at this
    exact this

theorem gOp_of {i : Nat} {oi : Oper} {a : Act} {σ : Sig} {O : Value → (Sig → Sig) → Prop} {K : Act → Sig → Prop} (hi : ops[i]? = some oi) (hy : GStatus P ops C D rel takes i oi a σ O) (h : ∀ v f, O v f → K (a.put oi.dst v) (f σ)) : gOp P ops C D rel takes i K a σ := by
  unfold gOp
  simp only [hi]
  exact ⟨O, hy, h⟩

theorem wpOp_of_gOp (hCD : ∀ σ w, C σ w → D w) {i : Nat} {a : Act} {σ : Sig} {K : Act → Sig → Prop} {K' : Act → World → Prop} {Q' : Exit → Act → World → Prop} {w : World} (hC : C σ w) (h : ∀ a s w', C s w' → K a s → K' a w') (hh : gOp P ops C D rel takes i K a σ) : wpOp P ops Q' i K' a w := by
  unfold gOp at hh
  unfold wpOp
  split
  · rename_i ho; simp only [ho] at hh; exact h _ _ _ hC hh
  · rename_i o ho
    simp only [ho] at hh
    obtain ⟨O, k1, k2⟩ := hh
    rcases k1 with ⟨h1, h2⟩ | ⟨h1, _, v, h2, h3⟩ | ⟨h1, r, _, h2, _, h4⟩
    · rw [h1]
      simp only [Bool.false_eq_true, if_false]
      exact h _ _ _ hC (k2 undef id (by rw [h2]; exact ⟨rfl, rfl⟩))
    · rw [h1]
      simp only [if_true]
      refine .inl ?_
      have h5 := h2 w (hCD _ _ hC)
      have h6 : K (a.put o.dst v) σ := k2 v id (by rw [h3]; exact ⟨rfl, rfl⟩)
      unfold Oper.wp
      generalize (execOp a.eval o).run P w = R at *
      cases R with
      | ok n w' =>
        cases n <;> simp only [valUpon] at h5 <;> simp only [Oper.upon]
        · obtain ⟨rfl, rfl⟩ := h5; exact h _ _ _ hC h6
        · obtain ⟨rfl, rfl⟩ := h5; exact h _ _ _ hC h6
      | halt x w' => exact h5.elim
    · rw [h1]
      simp only [if_true]
      refine .inl ?_
      have h5 := h2 σ w hC (fun _ _ => rfl)
      have h6 : ∀ v ds, GRelAt takes r i o a σ v ds → K (a.put o.dst v) (sigUpd takes σ i ds) := fun v ds hd => k2 v (fun s => sigUpd takes s i ds) (by rw [h4]; exact ⟨ds, hd, rfl⟩)
      unfold Oper.wp
      generalize (execOp a.eval o).run P w = R at *
      cases R with
      | ok n w' =>
        cases n <;> simp only [ups] at h5 <;> simp only [Oper.upon]
        · obtain ⟨ds, h7, h8⟩ := h5; exact h _ _ _ h8 (h6 _ _ h7)
        · obtain ⟨ds, h7, h8⟩ := h5; exact h _ _ _ h8 (h6 _ _ h7)
        · exact h5.mono fun e w'' ⟨v, he, ds, h7, h8⟩ => by subst he; exact h _ _ _ h8 (h6 _ _ h7)
        · exact Rows.mono h5 fun v w'' ⟨ds, h7, h8⟩ => h _ _ _ h8 (h6 _ _ h7)
      | halt x w' => exact h5.elim

/-- the walk in the order of the text -/
def wpGive (P : Program) (ops : Array Oper) (C : Sig → World → Prop) (D : World → Prop) (rel : Nat → Option Rel) (takes : Nat → List Nat) (Q : Act → Sig → Prop) : Nat → List Oper → Act → Sig → Prop
  | _, [], a, σ => Q a σ
  | i, o :: rest, a, σ => ∃ O, GStatus P ops C D rel takes i o a σ O ∧ ∀ v f, O v f → wpGive P ops C D rel takes Q (i + 1) rest (a.put o.dst v) (f σ)

/-- for so many rounds, whatever comes up -/
def headG (P : Program) (md : Region.Mode) (ops : Array Oper) (C : Sig → World → Prop) (D : World → Prop) (rel : Nat → Option Rel) (takes : Nat → List Nat) (n : Nat) (L : Array Bool → Act → Sig → Prop) : Nat → Array Bool → Act → Sig → Prop
  | 0, listed, a, σ => L listed a σ
  | f + 1, listed, a, σ => Region.ready md ops listed ≠ [] ∧ ∀ i ∈ Region.ready md ops listed, i < n ∧ gOp P ops C D rel takes i (headG P md ops C D rel takes n L f (listed.setIfInBounds i true)) a σ

theorem headG_any (hCD : ∀ σ w, C σ w → D w) {n g : Nat} {L : Array Bool → Act → Sig → Prop} {Q : Exit → Act → World → Prop} (hL : ∀ listed a s w, C s w → L listed a s → wpAny P md ops Q g listed a w) :
    ∀ (f : Nat) (listed : Array Bool) (a : Act) (s : Sig) (w : World), C s w → headG P md ops C D rel takes n L f listed a s → wpAny P md ops Q (f + g) listed a w
  | 0, listed, a, s, w, hw, h => by rw [Nat.zero_add]; exact hL _ _ _ _ hw h
  | f + 1, listed, a, s, w, hw, h => by
    rw [show f + 1 + g = (f + g) + 1 by omega]
    exact ⟨fun h0 => absurd h0 h.1, fun i hi => wpOp_of_gOp hCD hw (fun a' s' w' hw' h' => headG_any hCD hL f _ a' s' w' hw' h') (h.2 i hi).2⟩

theorem headG_first (hD : ∃ w, D w) {n i : Nat} {oi : Oper} {O : Value → (Sig → Sig) → Prop} {L : Array Bool → Act → Sig → Prop} (hi : ops[i]? = some oi) (hsel : ∀ (j : Nat) (o : Oper) cs b, ops[j]? = some o → o.op ≠ .select cs b)
    (hw : ∀ listed, HeadInv md ops n listed → listed.getD i true = false → ∀ j ∈ Region.ready md ops listed, j < n) (hin : i < n) (hdone : ∀ listed a s, L listed a s → ∀ j ∈ Region.ready md ops listed, n ≤ j) :
    ∀ (f : Nat) (listed : Array Bool) (a : Act) (σ : Sig), HeadInv md ops n listed →
      (∀ j oj, ops[j]? = some oj → j ≠ i → listed.getD j true = false → (∀ e ∈ oj.after, Region.binds md e = true → e.on ≠ i) → oi.apart ops oj = true ∧ Indep takes i j) →
      i ∈ Region.ready md ops listed → GStatus P ops C D rel takes i oi a σ O → (∀ v f', O v f' → headG P md ops C D rel takes n L f (listed.setIfInBounds i true) (a.put oi.dst v) (f' σ)) → headG P md ops C D rel takes n L (f + 1) listed a σ := by
  intro f
  induction f with
  | zero =>
    intro listed a σ inv _ hr hy H
    have hun := (mem_ready.1 hr).1
    obtain ⟨v0, f0, hO0⟩ := hy.ex
    refine ⟨List.ne_nil_of_mem hr, fun j hj => ?_⟩
    have hjn : j < n := hw _ inv hun j hj
    refine ⟨hjn, ?_⟩
    by_cases hji : j = i
    · subst hji; exact gOp_of hi hy H
    · exact absurd (hdone _ _ _ (H v0 f0 hO0) j (ready_mono hj hji)) (by omega)
  | succ f ih =>
    intro listed a σ inv hfree hr hy H
    have hun := (mem_ready.1 hr).1
    refine ⟨List.ne_nil_of_mem hr, fun j hj => ?_⟩
    have hjn : j < n := hw _ inv hun j hj
    refine ⟨hjn, ?_⟩
    by_cases hji : j = i
    · subst hji; exact gOp_of hi hy H
    · obtain ⟨hjun, oj, hoj, hall⟩ := mem_ready.1 hj
      have hnot : ∀ e ∈ oj.after, Region.binds md e = true → e.on ≠ i := fun e he hb heq => by
        have h1 := hall e he hb
        rw [heq, getD_both hun] at h1
        cases h1
      have hfj := hfree j oj hoj hji hjun hnot
      have h2 := gOp_put hD hoj hfj.1 hfj.2 (fun cs b => hsel i oi cs b hi) (fun cs b => hsel j oj cs b hoj) hy (fun v f' hO => ((H v f' hO).2 j (ready_mono hj hji)).2)
      refine gOp_mono (fun a' s' h3 => ih (listed.setIfInBounds j true) a' s' (inv.set hj hjn) (fun k ok hk hki hku hno => hfree k ok hk hki ?_ hno) (ready_mono hr (Ne.symm hji)) h3.1 (fun v f' hO => by rw [Array.setIfInBounds_comm _ _ hji]; exact h3.2 v f' hO)) h2
      by_cases hjk : j = k
      · subst hjk; exact hjun
      · rwa [getD_set_ne true hjk] at hku

/-- the plan's own check: who comes later than k and does not wait for it, does not meet it -/
def planB (takes : Nat → List Nat) (ops : Array Oper) (md : Region.Mode) : Bool :=
  (List.range ops.size).all fun k => (List.range ops.size).all fun j => Nat.ble j k || (match ops[j]? with | some oj => oj.after.any (fun e => Region.binds md e && e.on == k) | none => true) ||
    (!(takes j).contains k && !(takes k).contains j && (takes k).all fun x => !(takes j).contains x)
theorem planB_spec (h : planB takes ops md = true) {k j : Nat} {oj : Oper} (hj : ops[j]? = some oj) (hkj : k < j) (hno : ∀ e ∈ oj.after, Region.binds md e = true → e.on ≠ k) : Indep takes k j := by
  unfold planB at h
  simp only [List.all_eq_true, List.mem_range] at h
  have hjs := (Array.getElem?_eq_some_iff.1 hj).1
  have h1 := h k (by omega) j hjs
  simp only [hj, Bool.or_eq_true] at h1
  rcases h1 with (h1 | h1) | h1
  · have := Nat.le_of_ble_eq_true h1; omega
  · obtain ⟨x, hx, h2⟩ := Array.any_eq_true.1 h1
    simp only [Bool.and_eq_true, beq_iff_eq] at h2
    exact absurd h2.2 (hno _ (Array.getElem_mem hx) h2.1)
  · simp only [Bool.and_eq_true, Bool.not_eq_true', List.all_eq_true] at h1
    refine ⟨by omega, fun hk => ?_, fun hk => ?_, fun x hx hx' => ?_⟩
    · have := h1.1.1; simp [hk] at this
    · have := h1.1.2; simp [hk] at this
    · have := h1.2 x hx; simp [hx'] at this

theorem headG_lex (hD : ∃ w, D w) {n g : Nat} {Lq : Act → Sig → Prop} (hsel : Region.noSelect ops = true) (hw : ∀ i, i < n → ∀ listed, HeadInv md ops n listed → listed.getD i true = false → ∀ j ∈ Region.ready md ops listed, j < n)
    (hpl : planB takes ops md = true) :
    ∀ (l : List Oper) (k : Nat) (listed : Array Bool) (a : Act) (σ : Sig), (∀ j, j < l.length → l[j]? = ops[k + j]?) → k + l.length = n → HeadInv md ops n listed → (∀ j, j < k → listed.getD j true = true) →
    Region.lexHead md ops g l.length k listed = true → wpGive P ops C D rel takes Lq k l a σ → headG P md ops C D rel takes n (fun listed' a' s' => Region.seqB md ops g n listed' = true ∧ Lq a' s') l.length listed a σ
  | [], k, listed, a, σ, _, hk, _, _, hB, h => by
    have : k = n := by simpa using hk
    subst this
    exact ⟨by simpa [Region.lexHead] using hB, h⟩
  | o :: l, k, listed, a, σ, hl, hk, inv, hlo, hB, h => by
    have h0 : ops[k]? = some o := by simpa using (hl 0 (by simp)).symm
    simp only [List.length_cons, Region.lexHead, Bool.and_eq_true] at hB
    obtain ⟨⟨hr, hf⟩, hB'⟩ := hB
    simp only [List.length_cons] at hk
    have hr' : k ∈ Region.ready md ops listed := by simpa using hr
    obtain ⟨O, hy, hK⟩ := h
    refine headG_first hD h0 (Region.noSelect_spec hsel) (hw k (by omega)) (by omega) (fun listed' a' s' hL => seqB_ready hL.1) l.length listed a σ inv (fun j oj hj hjk hun hno => ⟨Region.free_spec h0 hf j oj hj hjk hun hno, planB_spec hpl hj ?_ hno⟩) hr' hy (fun v f hO =>
      headG_lex hD hsel hw hpl l (k + 1) _ _ _ (fun j hj => by have := hl (j + 1) (by simp; omega); simpa [Nat.add_assoc, Nat.add_comm 1 j] using this) (by omega) (inv.set hr' (by omega)) (fun j hj => ?_) hB' (hK v f hO))
    · rcases Nat.lt_or_ge k j with h | h
      · exact h
      · have := hlo j (by omega)
        rw [hun] at this; cases this
    · by_cases hjk : k = j
      · subst hjk
        have hs : k < listed.size := by rw [inv.size]; exact (Array.getElem?_eq_some_iff.1 h0).1
        simp [hs]
      · rw [getD_set_ne true hjk]; exact hlo j (by omega)
end

section
variable {P : Program} {F : List Nat} {rel : Nat → Option Rel} {takes : Nat → List Nat}
/-- the things of all operations (the number N: the things that were there) -/
def sigAll (N : Nat) (σ : Sig) : List Thing := (List.range (N + 1)).flatMap σ
def GC (F : List Nat) (w : World) (N : Nat) (σ : Sig) (X : World) : Prop := SepF F w X (sigAll N σ)

theorem wp_region_give {id : Nat} {Q : Exit → Act → World → Prop} {a : Act} {w : World} {l : List Oper} (n : Nat) (rel : Nat → Option Rel) (takes : Nat → List Nat) {D : World → Prop} (σ : Sig) (hCD : ∀ X us, SepF F w X us → D X)
    (hm : P.follows .mixedOrders = true) (hB : Region.lexTailB .any l.toArray n = true) (hP : planB takes l.toArray .any = true) (hS : SepF F w w.drew (sigAll l.length σ))
    (h : wpGive P l.toArray (GC F w l.length) D rel takes (fun a' σ' => ∀ X, SepF F w X (sigAll l.length σ') → wpList P l.toArray Q (l.drop n) a' X) 0 (l.take n) a σ) : (Code.region id l.toArray true).wp P Q a w := by
  simp only [Region.lexTailB, Bool.and_eq_true, decide_eq_true_eq] at hB
  obtain ⟨⟨⟨⟨hsel, hn⟩, hs⟩, hc⟩, hlex⟩ := hB
  have hn' : n < l.length := by simpa using hn
  have htl : (l.take n).length = n := by simp; omega
  have hdl : (l.drop n).length = l.toArray.size - n := by simp
  have inv0 : HeadInv .any l.toArray n (Array.replicate l.toArray.size false) :=
    ⟨by simp, fun j oj _ hl => (by rw [getD_replicate_false] at hl; cases hl), fun t _ ht => getD_in (by simpa using ht) (getD_replicate_false _ _)⟩
  have hD : ∃ w, D w := ⟨_, hCD _ _ hS⟩
  have H := headG_lex (md := .any) (g := l.toArray.size - n) hD hsel (fun i hi listed inv hun j hj => Nat.lt_of_not_le fun h => tail_waits hs hc hn inv _ i rfl hi hun j h hj) hP (l.take n) 0 _ a σ (fun j hj => by
    have hj' : j < n := by rw [htl] at hj; exact hj
    simp [hj']) (by simpa using htl) inv0 (fun j hj => by omega) (by rw [htl]; exact hlex) h
  refine wp_region_any hm ?_
  have := headG_any (Q := Q) (C := GC F w l.length) (D := D) (g := l.toArray.size - n) (fun s X hX => hCD X _ hX) (fun listed a' s' w' hw' hL => by
    have := wpAny_of_seq (md := .any) (Q' := Q) (l.drop n) n listed a' w' (fun j => by simp [List.getElem?_drop]) (by rw [hdl]; exact hL.1) (hL.2 w' hw')
    rwa [hdl] at this) _ _ _ _ _ hS H
  rw [htl, show n + (l.toArray.size - n) = l.toArray.size by omega] at this
  exact this

theorem lexHead_of_from (md : Region.Mode) (ops : Array Oper) : ∀ (fuel k : Nat) (listed : Array Bool), Region.lexFrom md ops fuel k listed = true → Region.lexHead md ops 0 fuel k listed = true
  | 0, k, listed, h => by simpa [Region.lexHead, Region.lexFrom, Region.seqB] using h
  | f + 1, k, listed, h => by
    simp only [Region.lexFrom, Region.lexHead, Bool.and_eq_true] at h ⊢
    exact ⟨h.1, lexHead_of_from md ops f _ _ h.2⟩
/-- the same, all of the region in the walk -/
theorem wp_region_give_all {id : Nat} {Q : Exit → Act → World → Prop} {a : Act} {w : World} {l : List Oper} (rel : Nat → Option Rel) (takes : Nat → List Nat) {D : World → Prop} (σ : Sig) (hCD : ∀ X us, SepF F w X us → D X)
    (hm : P.follows .mixedOrders = true) (hB : Region.lexB .any l.toArray = true) (hP : planB takes l.toArray .any = true) (hS : SepF F w w.drew (sigAll l.length σ))
    (h : wpGive P l.toArray (GC F w l.length) D rel takes (fun a' σ' => ∀ X, SepF F w X (sigAll l.length σ') → Q .normal a' X) 0 l a σ) : (Code.region id l.toArray true).wp P Q a w := by
  simp only [Region.lexB, Bool.and_eq_true] at hB
  have inv0 : HeadInv .any l.toArray l.length (Array.replicate l.toArray.size false) :=
    ⟨by simp, fun j oj _ hl => (by rw [getD_replicate_false] at hl; cases hl), fun t h1 ht => by simp at ht; omega⟩
  have hD : ∃ w, D w := ⟨_, hCD _ _ hS⟩
  have H := headG_lex (md := .any) (n := l.length) (g := 0) (Lq := fun a' σ' => ∀ X, SepF F w X (sigAll l.length σ') → Q .normal a' X) hD hB.1 (fun i hi listed inv hun j hj => by
    obtain ⟨_, o, ho, _⟩ := mem_ready.1 hj
    simpa using (Array.getElem?_eq_some_iff.1 ho).1) hP l 0 _ a σ (fun j hj => by simp) (by simp) inv0 (fun j hj => by omega) (lexHead_of_from _ _ _ _ _ (by simpa using hB.2)) h
  refine wp_region_any hm ?_
  have := headG_any (Q := Q) (C := GC F w l.length) (D := D) (g := 0) (fun s X hX => hCD X _ hX) (fun listed a' s' w' hw' hL => ⟨by simpa [Region.seqB] using hL.1, hL.2 w' hw'⟩) _ _ _ _ _ hS H
  simpa using this

/-- nothing that was there has turned -/
theorem sep_und {w X : World} {us : List Thing} (h : SepF [] w X us) : ∃ x : Und w, X = und w x := ⟨⟨X, h.bel0⟩, rfl⟩
end

section
variable {P : Program} {ops : Array Oper} {C : Sig → World → Prop} {D : World → Prop} {rel : Nat → Option Rel} {takes : Nat → List Nat} {Q : Act → Sig → Prop} {i : Nat} {o : Oper} {rest : List Oper} {a : Act} {σ : Sig}
theorem give_nil (h : Q a σ) : wpGive P ops C D rel takes Q i [] a σ := h
theorem give_skip (hw : Region.wanted o (yielded ops a.tmps) = false) (h : wpGive P ops C D rel takes Q (i + 1) rest (a.put o.dst undef) σ) : wpGive P ops C D rel takes Q i (o :: rest) a σ :=
  ⟨_, .inl ⟨hw, rfl⟩, fun v f ⟨h1, h2⟩ => by subst h1; subst h2; exact h⟩
def Op.enters : Op → Bool
  | .move _ | .assign _ | .pick .. | .nilCheck .. | .load .. | .fieldAddr .. | .field .. | .indexAddr .. | .index .. | .build .. | .binOp .. | .unOp .. | .convert .. | .slice .. | .extract .. => false
  | .call c => match c.callee with
    | .builtin .len | .builtin .cap | .builtin .max | .builtin .min => false
    | _ => true
  | _ => true
theorem noE {s : Sem Value} {P : Program} {w w' : World} {f : FuncId} {args : Array Value} : (do pure (Next.value (← s)) : Sem Next).run P w ≠ .ok (.enter f args) w' := by
  intro e
  simp only [Sem.run_bind, Sem.run_pure] at e
  cases h : s.run P w <;> rw [h] at e <;> simp [Result.andThen] at e
theorem noP {P : Program} {w w' : World} {n : Next} : (runtimePanic .nilDeref : Sem Next).run P w ≠ .ok n w' := by
  simp [runtimePanic, go_sem]
theorem no_enter {o : Oper} (h : Op.enters o.op = false) (ρ : Operand → Value) (P : Program) (w w' : World) (f : FuncId) (args : Array Value) : (execOp ρ o).run P w ≠ .ok (.enter f args) w' := by
  unfold execOp
  cases ho : o.op <;> rw [ho] at h <;> simp only [Op.enters, reduceCtorEq] at h <;> try exact noE
  · simp
  · simp
  · intro e
    simp only [Sem.run_bind, Sem.run_pure] at e
    revert e
    generalize (asBool _).run P w = r
    cases r <;> simp [Result.andThen]
  · rename_i x
    dsimp only
    split
    · exact noP
    · exact noP
    · exact noP
    · split
      · exact noP
      · intro e
        simp only [Sem.run_bind] at e
        generalize Sem.run P program w = r1 at e
        cases r1 with
        | halt h1 w1 => simp [Result.andThen] at e
        | ok a1 w1 =>
          simp only [Result.andThen_ok] at e
          generalize Sem.run P _ w1 = r2 at e
          cases r2 with
          | halt h1 w2 => simp [Result.andThen] at e
          | ok a2 w2 =>
            simp only [Result.andThen_ok] at e
            split at e
            · simp only [Sem.run_bind, Sem.run_pure] at e
              generalize Sem.run P (unsupported _) w2 = r3 at e
              cases r3 <;> simp [Result.andThen] at e
            · simp at e
      · simp
    · simp
  · rename_i c
    cases hc : c.callee <;> rw [hc] at h <;> try cases h
    rename_i b
    cases b <;> (try cases h) <;> (simp only [resolve, hc, invoke, builtin, Sem.run_bind, Sem.run_pure, Result.andThen_ok]; intro e; revert e; generalize Sem.run P _ w = r; cases r <;> simp [Result.andThen])
theorem det_of_quiet {v : Value} (h : Op.enters o.op = false) (hq : ∀ w, D w → o.quietAt P a D w v) : GDet P D o a v := fun w hw => by
  have h1 := hq w hw
  unfold Oper.quietAt at h1
  have h2 := no_enter h a.eval P w
  generalize (execOp a.eval o).run P w = R at *
  cases R with
  | ok n w' =>
    cases n <;> simp only [Oper.quietUpon] at h1
    · exact h1
    · exact ⟨h1.1, h1.2.symm⟩
    · exact absurd rfl (h2 _ _ _)
  | halt x w' => exact h1.elim
theorem give_det (hw : Region.wanted o (yielded ops a.tmps) = true) (hr : rel i = none) (hc : Op.enters o.op = false) (h : ∀ K : Act → Prop, (∀ a, wpGive P ops C D rel takes Q (i + 1) rest a σ → K a) → o.quiet P a D K) : wpGive P ops C D rel takes Q i (o :: rest) a σ := by
  obtain ⟨v, h1, h2⟩ := h _ fun _ h => h
  exact ⟨_, .inr (.inl ⟨hw, hr, v, det_of_quiet hc h1, rfl⟩), fun u f ⟨h3, h4⟩ => by subst h3; subst h4; exact h2⟩
theorem give_rel {r : Rel} (hw : Region.wanted o (yielded ops a.tmps) = true) (hr : rel i = some r) (hv : GValid P C takes i o a σ (GRelAt takes r i o a σ)) (hin : ∃ v ds, GRelAt takes r i o a σ v ds)
    (h : ∀ v ds, GRelAt takes r i o a σ v ds → wpGive P ops C D rel takes Q (i + 1) rest (a.put o.dst v) (sigUpd takes σ i ds)) : wpGive P ops C D rel takes Q i (o :: rest) a σ :=
  ⟨_, .inr (.inr ⟨hw, r, hr, hv, hin, rfl⟩), fun v f ⟨ds, h3, h4⟩ => by subst h4; exact h v ds h3⟩
end

/-- what one operation that gives must bring: its value in slot d, and the things, in the place of those that it takes -/
def GvQ (F : List Nat) (w : World) (r : Value → List Thing → Prop) (d : Nat) (df : List Deferred) (rest : List Thing) (x : Exit) (a' : Act) (w' : World) : Prop :=
  x = .normal ∧ a'.defers = df ∧ ∃ ds, r (a'.tmps.getD d undef) ds ∧ SepF F w w' (ds ++ rest)

theorem flatMap_filter_not {β : Type} (p : β → Bool) (f : β → List Thing) : ∀ l : List β, l.flatMap (fun k => bif p k then [] else f k) = (l.filter fun k => !p k).flatMap f
  | [] => rfl
  | x :: l => by
    rw [List.flatMap_cons, flatMap_filter_not p f l, List.filter_cons]
    cases p x <;> simp
theorem flatMap_subN {l m : List Thing} (h : l.Sublist m) : (l.flatMap (·.fp)).Sublist (m.flatMap (·.fp)) := by
  induction h with
  | slnil => exact List.Sublist.refl _
  | cons x h ih => rw [List.flatMap_cons]; exact ih.trans (List.sublist_append_right _ _)
  | cons_cons x h ih => rw [List.flatMap_cons, List.flatMap_cons]; exact List.Sublist.append_left ih _
theorem flatMap_sub {β : Type} (f : β → List Thing) {l m : List β} (h : l.Sublist m) : (l.flatMap f).Sublist (m.flatMap f) := by
  induction h with
  | slnil => exact List.Sublist.refl _
  | cons x h ih => rw [List.flatMap_cons]; exact ih.trans (List.sublist_append_right _ _)
  | cons_cons x h ih => rw [List.flatMap_cons, List.flatMap_cons]; exact List.Sublist.append_left ih _
section
variable {takes : Nat → List Nat} {σ : Sig} {i N : Nat} {ds : List Thing}
theorem sigAll_upd (hi : i ≤ N) : (sigAll N (sigUpd takes σ i ds)).Perm (ds ++ sigAll N (sigUpd takes σ i [])) := by
  unfold sigAll
  have hnd : (List.range (N + 1)).Nodup := List.nodup_range
  have hm : i ∈ List.range (N + 1) := by rw [List.mem_range]; omega
  obtain ⟨s, t, hst⟩ := List.append_of_mem hm
  rw [hst] at hnd ⊢
  have hs : i ∉ s := fun h => (List.nodup_append.1 hnd).2.2 i h i (by simp) rfl
  have ht : i ∉ t := by
    have := (List.nodup_append.1 hnd).2.1
    rw [List.nodup_cons] at this
    exact this.1
  have e : ∀ l : List Nat, i ∉ l → l.flatMap (sigUpd takes σ i ds) = l.flatMap (sigUpd takes σ i []) := fun l hl => by
    rw [List.flatMap_def, List.flatMap_def]
    refine congrArg List.flatten (List.map_congr_left fun k hk => ?_)
    have : (k == i) = false := by rw [beq_eq_false_iff_ne]; rintro rfl; exact hl hk
    unfold sigUpd
    rw [this]; rfl
  have ei : ∀ es, sigUpd takes σ i es i = es := fun es => by unfold sigUpd; simp
  rw [List.flatMap_append, List.flatMap_cons, List.flatMap_append, List.flatMap_cons, e s hs, e t ht, ei, ei, List.nil_append]
  exact List.perm_append_comm_assoc _ _ _
theorem sigAll_take (hn : (takes i).Nodup) (hk : ∀ k ∈ takes i, k ≤ N) : ∃ l', l'.Perm (sigAll N σ) ∧ ((takes i).flatMap σ ++ sigAll N (sigUpd takes σ i [])).Sublist l' := by
  refine ⟨(takes i).flatMap σ ++ ((List.range (N + 1)).filter fun k => !(takes i).contains k).flatMap σ, ?_, ?_⟩
  · rw [← List.flatMap_append]
    refine List.Perm.flatMap_right _ ?_
    rw [List.perm_ext_iff_of_nodup ?_ List.nodup_range]
    · intro k
      rw [List.mem_append, List.mem_filter, List.mem_range]
      by_cases h : k ∈ takes i
      · have := hk k h
        simp [h]; omega
      · simp [h]
    · rw [List.nodup_append]
      refine ⟨hn, List.nodup_range.sublist List.filter_sublist, fun a ha b hb e => ?_⟩
      subst e
      rw [List.mem_filter] at hb
      simp [ha] at hb
  · refine List.Sublist.append_left ?_ _
    unfold sigAll
    have e : sigUpd takes σ i [] = fun k => bif (k == i || (takes i).contains k) then [] else σ k := by
      funext k
      unfold sigUpd
      cases (k == i) <;> cases (takes i).contains k <;> rfl
    rw [e, flatMap_filter_not]
    refine flatMap_sub _ ?_
    rw [show (fun k : Nat => !(k == i || (takes i).contains k)) = fun k => (!(k == i)) && (!(takes i).contains k) by funext k; rw [Bool.not_or], ← List.filter_filter]
    exact List.filter_sublist
end
theorem SepF.subE {F : List Nat} {w0 wr : World} {ts us : List Thing} (h : SepF F w0 wr ts) (hs : us.Sublist ts) : SepF F w0 wr us :=
  ⟨h.chg, h.nd.sublist (flatMap_subN hs), fun b hb => h.new b ((flatMap_subN hs).subset hb), fun t ht => h.hold t (hs.subset ht)⟩
theorem SepF.permE {F : List Nat} {w0 wr : World} {ts us : List Thing} (h : SepF F w0 wr ts) (hp : us.Perm ts) : SepF F w0 wr us :=
  h.conv (List.Perm.flatMap_right _ hp) fun u hu => h.hold u (hp.mem_iff.1 hu)
theorem SepF.sigTake {F : List Nat} {w X : World} {takes : Nat → List Nat} {σ : Sig} {i N : Nat} (h : SepF F w X (sigAll N σ)) (hn : (takes i).Nodup) (hk : ∀ k ∈ takes i, k ≤ N) : SepF F w X ((takes i).flatMap σ ++ sigAll N (sigUpd takes σ i [])) := by
  obtain ⟨l', h1, h2⟩ := sigAll_take (σ := σ) hn hk
  exact (h.permE h1).subE h2
section
variable {P : Program} {F : List Nat} {w : World} {N : Nat} {ops : Array Oper} {D : World → Prop} {rel : Nat → Option Rel} {takes : Nat → List Nat} {Q : Act → Sig → Prop} {i : Nat} {o : Oper} {rest : List Oper} {a : Act} {σ : Sig}
theorem put_get {a : Act} {d : Nat} (hs : d < a.tmps.size) (v : Value) : (a.put (some d) v).tmps.getD d undef = v := by
  simp [Act.put, hs]
theorem gvalid_of {r : Value → List Thing → Prop} (d : Nat) (hd : o.dst = some d) (hs : d < a.tmps.size) (hw : Region.wanted o (yielded ops a.tmps) = true) (hi : i ≤ N) (hn : (takes i).Nodup) (hk : ∀ k ∈ takes i, k ≤ N)
    (h : ∀ others X, SepF F w X ((takes i).flatMap σ ++ others) → wpList P ops (GvQ F w r d a.defers others) [o] a X) : GValid P (GC F w N) takes i o a σ r := by
  intro σ' X hC hag
  have e4 : (takes i).flatMap σ' = (takes i).flatMap σ := by
    rw [List.flatMap_def, List.flatMap_def]; exact congrArg List.flatten (List.map_congr_left hag)
  have h0 : SepF F w X (sigAll N σ') := hC
  have h1 := h0.sigTake hn hk
  rw [e4] at h1
  have h2 := h _ X h1
  have fin : ∀ u w', GvQ F w r d a.defers (sigAll N (sigUpd takes σ' i [])) .normal (a.put o.dst u) w' → ∃ ds, r u ds ∧ GC F w N (sigUpd takes σ' i ds) w' := fun u w' ⟨_, _, ds, h3, h4⟩ => by
    rw [hd, put_get hs] at h3
    exact ⟨ds, h3, h4.permE (sigAll_upd hi)⟩
  unfold wpList at h2
  rw [if_pos hw] at h2
  have h3 : o.wp P a X (fun a' w' => GvQ F w r d a.defers (sigAll N (sigUpd takes σ' i [])) .normal a' w') (GvQ F w r d a.defers (sigAll N (sigUpd takes σ' i []))) := by
    first
      | exact h2
      | exact h2.elim id fun h => by obtain ⟨_, a', w', h, _⟩ := h; cases h
  unfold Oper.wp at h3
  generalize (execOp a.eval o).run P X = R at *
  cases R with
  | ok n w' =>
    cases n <;> simp only [Oper.upon] at h3 <;> simp only [ups] <;> first | exact fin _ _ h3 | skip
    · refine h3.mono fun e w'' he => ?_
      cases e with
      | returned v => exact ⟨v, rfl, fin _ _ he⟩
      | panicked c => exact absurd he.1 (by simp)
      | outgrown => obtain ⟨a', w', h, _⟩ := he; cases h
    · have := h3.2.1
      rw [hd] at this
      exact absurd this (by simp [Act.put])
    · exact Rows.mono h3 fun v w'' he => fin _ _ he
  | halt x w' => cases x <;> simp only [Oper.upon] at h3; exact absurd h3.1 (by simp)

theorem give_op {R : Rel} (d : Nat) (hw : Region.wanted o (yielded ops a.tmps) = true) (hr : rel i = some R) (hd : o.dst = some d) (hs : d < a.tmps.size) (hi : i ≤ N) (hn : (takes i).Nodup) (hk : ∀ k ∈ takes i, k ≤ N)
    (hin : ∃ v ds, R (o.op.operands.toList.map a.eval) ((takes i).flatMap σ) v ds)
    (h : ∀ others X, SepF F w X ((takes i).flatMap σ ++ others) → wpList P ops (GvQ F w (R (o.op.operands.toList.map a.eval) ((takes i).flatMap σ)) d a.defers others) [o] a X)
    (hnext : ∀ v ds, R (o.op.operands.toList.map a.eval) ((takes i).flatMap σ) v ds → wpGive P ops (GC F w N) D rel takes Q (i + 1) rest (a.put (some d) v) (sigUpd takes σ i ds)) : wpGive P ops (GC F w N) D rel takes Q i (o :: rest) a σ :=
  give_rel hw hr (gvalid_of d hd hs hw hi hn hk h) hin (fun v ds hv => by rw [hd]; exact hnext v ds hv)
end

section
variable {P : Program} {F : List Nat} {w : World} {N : Nat} {ops : Array Oper} {D : World → Prop} {rel : Nat → Option Rel} {takes : Nat → List Nat} {Q : Act → Sig → Prop} {i : Nat} {o : Oper} {rest : List Oper} {a : Act} {σ : Sig}
/-- an operation that takes nothing -/
theorem give_op0 {R : Rel} (d : Nat) (hw : Region.wanted o (yielded ops a.tmps) = true) (hr : rel i = some R) (hd : o.dst = some d) (hs : Nat.blt d a.tmps.size = true) (hi : Nat.ble i N = true) (ht : takes i = [])
    (hin : ∃ v ds, R (o.op.operands.toList.map a.eval) [] v ds)
    (h : ∀ others X, SepF F w X others → wpList P ops (GvQ F w (R (o.op.operands.toList.map a.eval) []) d a.defers others) [o] a X)
    (hnext : ∀ v ds, R (o.op.operands.toList.map a.eval) [] v ds → wpGive P ops (GC F w N) D rel takes Q (i + 1) rest (a.put (some d) v) (sigUpd takes σ i ds)) : wpGive P ops (GC F w N) D rel takes Q i (o :: rest) a σ := by
  have e : (takes i).flatMap σ = [] := by rw [ht]; rfl
  refine give_op d hw hr hd (by simpa [Nat.blt_eq] using hs) (Nat.le_of_ble_eq_true hi) (by rw [ht]; exact List.nodup_nil) (by rw [ht]; intro k hk; cases hk) ?_ ?_ ?_
  · rw [e]; exact hin
  · rw [e]; exact h
  · rw [e]; exact hnext
/-- an operation that takes what operation k gave -/
theorem give_op1 {R : Rel} (d k : Nat) (hw : Region.wanted o (yielded ops a.tmps) = true) (hr : rel i = some R) (hd : o.dst = some d) (hs : Nat.blt d a.tmps.size = true) (hi : Nat.ble i N = true) (ht : takes i = [k]) (hk : Nat.ble k N = true)
    (tk : List Thing) (htk : σ k = tk)
    (hin : ∃ v ds, R (o.op.operands.toList.map a.eval) tk v ds)
    (h : ∀ others X, SepF F w X (tk ++ others) → wpList P ops (GvQ F w (R (o.op.operands.toList.map a.eval) tk) d a.defers others) [o] a X)
    (hnext : ∀ v ds, R (o.op.operands.toList.map a.eval) tk v ds → wpGive P ops (GC F w N) D rel takes Q (i + 1) rest (a.put (some d) v) (sigUpd takes σ i ds)) : wpGive P ops (GC F w N) D rel takes Q i (o :: rest) a σ := by
  have e : (takes i).flatMap σ = tk := by rw [ht, ← htk]; simp
  refine give_op d hw hr hd (by simpa [Nat.blt_eq] using hs) (Nat.le_of_ble_eq_true hi) (by rw [ht]; simp) (by rw [ht]; intro x hx; rw [List.mem_singleton.1 hx]; exact Nat.le_of_ble_eq_true hk) ?_ ?_ ?_
  · rw [e]; exact hin
  · rw [e]; exact h
  · rw [e]; exact hnext
end
theorem sep_eq {F : List Nat} {w0 wr : World} {ts us : List Thing} (h : SepF F w0 wr ts) (e : ts = us) : SepF F w0 wr us := e ▸ h
theorem SepF.startDrew (w : World) : SepF [] w w.drew [] := ⟨Chg.of_below (Below.refl _ _).drew, by simp, by simp, by simp⟩
/-- things of a call behind the things that were there -/
theorem SepF.join {F : List Nat} {w0 wr W : World} {ts us : List Thing} (h : SepF F w0 wr ts) (hS : SepF [] wr W us) : SepF F w0 W (us ++ ts) := by
  have h1 := h.step hS.bel0
  refine ⟨h1.chg, ?_, fun b hb => ?_, fun u hu => ?_⟩
  · rw [List.flatMap_append, List.nodup_append]
    refine ⟨hS.nd, h.nd, fun x hx y hy e => ?_⟩
    subst e
    have h2 := h.lt x hy
    rcases hS.new x hx with h3 | h3
    · cases h3
    · omega
  · rw [List.flatMap_append] at hb
    rcases List.mem_append.1 hb with hb | hb
    · rcases hS.new b hb with h3 | h3
      · cases h3
      · have := h.chg.size; exact .inr (by omega)
    · exact h.new b hb
  · rcases List.mem_append.1 hu with hu | hu
    · exact hS.hold u hu
    · exact h1.hold u hu
/-- what operations give -/
def gSl {α : Type} (E : Rep α) (e : TypeId) (xs : List α) : Rel := fun _ _ v ds => ∃ A n c fp, v = .slice A n c ∧ ds = [tsl E e xs (.slice A n c) fp] ∧ Hid (n = xs.length)
def gPtr (T : TypeId) (cs : List Value) : Rel := fun _ _ v ds => ∃ g, v = .pointer (some ⟨g, 0, none⟩) ∧ ds = [tblk g T cs]
def gEmp (e : TypeId) : Rel := fun _ _ v ds => ∃ g, v = .slice (some ⟨g, 0, none⟩) 0 0 ∧ ds = [tblk g e []]
def gVal (x : Value) : Rel := fun _ _ v ds => v = x ∧ ds = []
theorem gSl_in {α : Type} {E : Rep α} {e : TypeId} {xs : List α} {vals : List Value} {tk : List Thing} : ∃ v ds, gSl E e xs vals tk v ds := ⟨_, _, none, xs.length, 0, [], rfl, rfl, rfl⟩
theorem gPtr_in {T : TypeId} {cs vals : List Value} {tk : List Thing} : ∃ v ds, gPtr T cs vals tk v ds := ⟨_, _, 0, rfl, rfl⟩
theorem gEmp_in {e : TypeId} {vals : List Value} {tk : List Thing} : ∃ v ds, gEmp e vals tk v ds := ⟨_, _, 0, rfl, rfl⟩
theorem gVal_in {x : Value} {vals : List Value} {tk : List Thing} : ∃ v ds, gVal x vals tk v ds := ⟨_, _, rfl, rfl⟩
section
variable {F : List Nat} {w X W : World} {others : List Thing} {vals : List Value} {tk : List Thing} {d : Nat} {df : List Deferred} {a' : Act}
theorem gvq_sl {α : Type} {E : Rep α} {e : TypeId} {xs : List α} {A : Option Addr} {n c : Nat} {fp : List Nat} (h : SepF F w X others) (hb : Below X.heap.size X W) (hs : SlOwn E e W xs (.slice A n c) fp) (hnd : fp.Nodup) (hnew : ∀ b, b ∈ fp → X.heap.size ≤ b)
    (hv : a'.tmps.getD d undef = .slice A n c) (hdf : a'.defers = df) : GvQ F w (gSl E e xs vals tk) d df others .normal a' W := by
  obtain ⟨A', n', c', h1, h2, _⟩ := hs.form
  injection h1 with e1 e2 e3
  exact ⟨rfl, hdf, _, ⟨A, n, c, fp, hv, rfl, e2.trans h2⟩, h.add hb (t := tsl E e xs (.slice A n c) fp) hs hnd hnew⟩
theorem gvq_ptr {T : TypeId} {cs : List Value} {g : Nat} (h : SepF F w X others) (hg : X.heap.size = g) (hv : a'.tmps.getD d undef = .pointer (some ⟨g, 0, none⟩)) (hdf : a'.defers = df) : GvQ F w (gPtr T cs vals tk) d df others .normal a' (X.alloc (.cells cs.toArray T)) :=
  ⟨rfl, hdf, _, ⟨_, hv, rfl⟩, h.alloc' hg T cs⟩
theorem gvq_emp {e : TypeId} {g : Nat} (h : SepF F w X others) (hg : X.heap.size = g) (hv : a'.tmps.getD d undef = .slice (some ⟨g, 0, none⟩) 0 0) (hdf : a'.defers = df) : GvQ F w (gEmp e vals tk) d df others .normal a' (X.alloc (.cells #[] e)) :=
  ⟨rfl, hdf, _, ⟨_, hv, rfl⟩, h.alloc' hg e []⟩
theorem gvq_val {x : Value} (h : SepF F w X others) (hb : Below X.heap.size X W) (hv : a'.tmps.getD d undef = x) (hdf : a'.defers = df) : GvQ F w (gVal x vals tk) d df others .normal a' W :=
  ⟨rfl, hdf, [], ⟨hv, rfl⟩, h.step hb⟩
end
end Mm
end Go.Proofs.Ytkhchfbpmmiopaa

/-
  An owned slice whose element k is itself owned: the element is replaced by one that leads elsewhere; an element that is a slice grows by append. No program in sight. No conditions.
-/
namespace Go.Proofs.Ytkhchfbpmmiopaa
open Go.RowKit
namespace Mm
section
variable {α : Type} {E : Rep α} {e : TypeId} {w : World} {xs : List α} {fp : List Nat}
theorem SlOwn.repl {g n c : Nat} (h : SlOwn E e w xs (.slice (some ⟨g, 0, none⟩) n c) fp) (hnd : fp.Nodup) (hE : E.size = 1) {i : Nat} {x : α} (hi : xs[i]? = some x) :
    ∃ cs fx, E.own w x cs fx ∧ fx.Nodup ∧ (∀ b, b ∈ fx → b ∈ fp ∧ b ≠ g) ∧ (∀ j u, cs[j]? = some u → w.cell? ⟨g, i + j, none⟩ = some u) ∧
      ∀ W x' u' fx', Chg fx w W → E.own (W.setCell ⟨g, i, none⟩ u') x' [u'] fx' → fx'.Nodup → (∀ b, b ∈ fx' → b ∈ fx ∨ w.heap.size ≤ b) →
        ∃ fp', SlOwn E e (W.setCell ⟨g, i, none⟩ u') (xs.set i x') (.slice (some ⟨g, 0, none⟩) n c) fp' ∧ fp'.Nodup ∧ ∀ b, b ∈ fp' → b ∈ fp ∨ w.heap.size ≤ b := by
  obtain ⟨es, he, ho, rfl⟩ := h
  have hn : n = xs.length := by
    rcases ho.2 with ⟨h, _⟩ | ⟨g', cap, cur, h, _⟩
    · cases h
    · injection h
  subst hn
  have hil : i < xs.length := (List.getElem?_eq_some_iff.1 hi).1
  have hie : i < es.length := by rw [he.1]; exact hil
  have hy := List.getElem?_eq_getElem hie
  have hown := he.2 i x _ hi hy
  simp only [Value.ownBlock, Option.toList_some, List.singleton_append, List.nodup_cons] at hnd
  have hgn : ∀ y ∈ es, g ∉ y.2 := fun y hy hg => hnd.1 (List.mem_flatMap.2 ⟨y, hy, hg⟩)
  have e1 : es = es.take i ++ es[i] :: es.drop (i + 1) := by rw [← List.drop_eq_getElem_cons hie, List.take_append_drop]
  have hd := hnd.2
  rw [e1] at hd
  simp only [List.flatMap_append, List.flatMap_cons, List.nodup_append] at hd
  have hmem : ∀ b, b ∈ es[i].2 → b ∈ es.flatMap (·.2) := fun b hb => List.mem_flatMap.2 ⟨_, List.getElem_mem hie, hb⟩
  have hlt : g < w.heap.size := (ho.lt g (by simp [Value.ownBlock])).2
  have holt : ∀ b, b ∈ es.flatMap (·.2) → b < w.heap.size := fun b hb => by
    obtain ⟨y, hy, hb⟩ := List.mem_flatMap.1 hb
    obtain ⟨k, hk, rfl⟩ := List.mem_iff_getElem.1 hy
    exact E.olt (he.2 k _ _ (List.getElem?_eq_getElem (show k < xs.length by rw [← he.1]; exact hk)) (List.getElem?_eq_getElem hk)) b hb
  refine ⟨es[i].1, es[i].2, hown, hd.2.1.1, fun b hb => ⟨List.mem_append_right _ (hmem b hb), fun e => hgn _ (List.getElem_mem hie) (e ▸ hb)⟩, fun j u hu => ?_, fun W x' u' fx' hc hx' hxn hxs => ?_⟩
  · have := ho.cells (g := g) rfl (i * E.size + j) u (flatMap_get (·.1) E.size es he.len i _ j u hy hu)
    rw [add0, hE, Nat.mul_one] at this
    exact this
  · have m1 : ∀ y, y ∈ es.take i → ∀ b, b ∈ y.2 → b ∉ es[i].2 := fun y hy b hb hm => hd.2.2 b (List.mem_flatMap.2 ⟨y, hy, hb⟩) b (List.mem_append_left _ hm) rfl
    have m2 : ∀ y, y ∈ es.drop (i + 1) → ∀ b, b ∈ y.2 → b ∉ es[i].2 := fun y hy b hb hm => hd.2.1.2.2 b hm b (List.mem_flatMap.2 ⟨y, hy, hb⟩) rfl
    have e2 : es.set i ([u'], fx') = es.take i ++ ([u'], fx') :: es.drop (i + 1) := List.set_eq_take_append_cons_drop.trans (by rw [if_pos hie])
    have hsub : ∀ b, b ∈ (es.set i ([u'], fx')).flatMap (·.2) → b ∈ es.flatMap (·.2) ∨ w.heap.size ≤ b := by
      intro b hb
      obtain ⟨y, hy, hb⟩ := List.mem_flatMap.1 hb
      rcases List.mem_or_eq_of_mem_set hy with h | rfl
      · exact .inl (List.mem_flatMap.2 ⟨y, h, hb⟩)
      · rcases hxs b hb with h | h
        · exact .inl (hmem b h)
        · exact .inr h
    have hoW : W.ownsRow 0 e E.size (.slice (some ⟨g, 0, none⟩) xs.length c) xs.length (es.flatMap (·.1)) := by
      refine ⟨ho.1, ?_⟩
      rcases ho.2 with h | ⟨g', cap, cur, hv, h1, h2, h3⟩
      · exact .inl h
      · injection hv with hA _ hcap
        subst hcap
        injection hA with hA
        injection hA with hA
        subst hA
        exact .inr ⟨g, _, cur, rfl, h1, (hc.block g hlt (hgn _ (List.getElem_mem hie))).trans h2, h3⟩
    refine ⟨_, ⟨es.set i ([u'], fx'), ⟨by rw [List.length_set, List.length_set, he.1], fun k y z hy hz => ?_⟩, ?_, rfl⟩, ?_, ?_⟩
    · by_cases hki : i = k
      · subst hki
        rw [List.getElem?_set_self hie] at hz
        rw [List.getElem?_set_self hil] at hy
        injection hy with hy; injection hz with hz
        subst hy; subst hz
        exact hx'
      · rw [List.getElem?_set_ne hki] at hz hy
        have hk := he.2 k y z hy hz
        refine E.okeep hk fun b hb => (Below.heap_setCell _ _ _ _ (show b ≠ g from fun e => hgn z (List.mem_of_getElem? hz) (e ▸ hb))).trans (hc.block b (E.olt hk b hb) ?_)
        have hkl : k < es.length := (List.getElem?_eq_some_iff.1 hz).1
        rcases Nat.lt_or_gt_of_ne hki with h | h
        · refine m2 z (List.mem_of_getElem? (i := k - (i + 1)) ?_) b hb
          rw [List.getElem?_drop, show i + 1 + (k - (i + 1)) = k by omega]
          exact hz
        · refine m1 z (List.mem_of_getElem? (i := k) ?_) b hb
          rw [List.getElem?_take, if_pos h]
          exact hz
    · rw [List.length_set]
      have h1 := (hoW.stored i u').1
      have hll := setList_elems E.size es i [u'] fx' he.len (by rw [hE]; rfl) hie
      have h2 : setList (es.flatMap (·.1)) (i * E.size) [u'] = (es.flatMap (·.1)).set i u' := by rw [hE, Nat.mul_one]; rfl
      rw [← hll, h2]
      rw [hE] at h1 ⊢
      exact h1
    · simp only [Value.ownBlock, Option.toList_some, List.singleton_append, List.nodup_cons]
      refine ⟨fun hg => ?_, ?_⟩
      · rcases hsub g hg with h | h
        · exact hnd.1 h
        · omega
      rw [e2]
      simp only [List.flatMap_append, List.flatMap_cons, List.nodup_append]
      refine ⟨hd.1, ⟨hxn, hd.2.1.2.1, fun a ha b hb hab => ?_⟩, fun a ha b hb hab => ?_⟩
      · rcases hxs a ha with h | h
        · exact hd.2.1.2.2 a h b hb hab
        · subst hab
          have := holt a (by rw [e1]; simp only [List.flatMap_append, List.flatMap_cons]; exact List.mem_append_right _ (List.mem_append_right _ hb))
          omega
      · subst hab
        rcases List.mem_append.1 hb with hb | hb
        · rcases hxs a hb with h | h
          · exact hd.2.2 a ha a (List.mem_append_left _ h) rfl
          · have := holt a (by rw [e1]; simp only [List.flatMap_append]; exact List.mem_append_left _ ha)
            omega
        · exact hd.2.2 a ha a (List.mem_append_right _ hb) rfl
    · intro b hb
      rcases List.mem_append.1 hb with h | h
      · exact .inl (List.mem_append_left _ h)
      · rcases hsub b h with h | h
        · exact .inl (List.mem_append_right _ h)
        · exact .inr h
end
theorem cell_heq {w w' : World} {g : Nat} (h : w'.heap[g]? = w.heap[g]?) (i : Nat) : w'.cell? ⟨g, i, none⟩ = w.cell? ⟨g, i, none⟩ := by simp [World.cell?, h]
theorem frz_heq {w w' : World} {g : Nat} (h : w'.heap[g]? = w.heap[g]?) (i : Nat) : w'.frozen? ⟨g, i, none⟩ = w.frozen? ⟨g, i, none⟩ := by simp [World.frozen?, h]
/-- the inner slice of element k, alone: when it has become another, its header is stored in its place -/
theorem SepF.openIn {β : Type} {E1 : Rep β} {e1 e2 : TypeId} {F : List Nat} {w0 wr : World} {ts : List Thing} {xss : List (List β)} {ys : List β} {fp : List Nat} {g n c k : Nat}
    (h : SepF F w0 wr ts) (i : Nat) (hi : ts[i]? = some (tsl (slice E1 e1) e2 xss (.slice (some ⟨g, 0, none⟩) n c) fp)) (hk : xss[k]? = some ys) :
    ∃ A m d fx, wr.cell? ⟨g, k, none⟩ = some (.slice A m d) ∧ m = ys.length ∧ SlOwn E1 e1 wr ys (.slice A m d) fx ∧ fx.Nodup ∧ g ∉ fx ∧ (∀ (j : Nat) u, j ≠ i → ts[j]? = some u → ∀ b, b ∈ u.fp → b ∉ fx) ∧ (∀ b, b ∈ fx → b ∈ fp) ∧
      ∀ W ys' A' m' d' fx', SepF fx wr W [tsl E1 e1 ys' (.slice A' m' d') fx'] →
        W.cell? ⟨g, k, none⟩ = some (.slice A m d) ∧ W.frozen? ⟨g, k, none⟩ = false ∧ (∀ (j : Nat) u, j ≠ i → ts[j]? = some u → u.holds W) ∧
        ∃ fp', SepF F w0 (W.setCell ⟨g, k, none⟩ (.slice A' m' d')) (ts.set i (tsl (slice E1 e1) e2 (xss.set k ys') (.slice (some ⟨g, 0, none⟩) n c) fp')) := by
  have ho : SlOwn (slice E1 e1) e2 wr xss (.slice (some ⟨g, 0, none⟩) n c) fp := h.at_ i hi
  have hg2 : g ∈ fp := ho.mem_block
  have hglt : g < wr.heap.size := ho.olt g hg2
  obtain ⟨cs, fx, k1, k2, k3, k4, k5⟩ := ho.repl (h.ndat hi) rfl hk
  obtain ⟨v, rfl, hv⟩ := k1
  obtain ⟨A, m, d, rfl, hm, hmc, _⟩ := hv.form
  have hc := k4 0 _ rfl
  have hgx : g ∉ fx := fun hh => (k3 g hh).2 rfl
  refine ⟨A, m, d, fx, hc, hm, hv, k2, hgx, fun j u hji hj b hb hm => h.apart hj hi hji b hb (k3 b hm).1, fun b hb => (k3 b hb).1, fun W ys' A' m' d' fx' hS => ?_⟩
  have hchg : Chg fx wr W := hS.chg
  have m1 : SlOwn E1 e1 W ys' (.slice A' m' d') fx' := hS.sl 0 rfl
  have hgq : ∀ b, b ∈ fx' → b ∈ fx ∨ wr.heap.size ≤ b := fun b hb => hS.new b (by simpa [tsl] using hb)
  have hgnq : g ∉ fx' := fun hh => by
    rcases hgq g hh with h | h
    · exact hgx h
    · omega
  have hown : (slice E1 e1).own (W.setCell ⟨g, k, none⟩ (.slice A' m' d')) ys' [.slice A' m' d'] fx' :=
    ⟨_, rfl, m1.okeep fun b hb => Below.heap_setCell _ _ _ _ (show b ≠ g from fun e => hgnq (e ▸ hb))⟩
  obtain ⟨fp', q1, q2, q3⟩ := k5 W ys' _ fx' hchg hown (by simpa [tsl] using hS.nd) hgq
  refine ⟨?_, ?_, fun j u hji hj => ?_, fp', ?_⟩
  · rw [cell_heq (hchg.block g hglt hgx)]
    exact hc
  · rw [frz_heq (hchg.block g hglt hgx)]
    exact ho.frozen k
  · exact u.keep (h.at_ j hj) fun b hb => hchg.block b (u.lt (h.at_ j hj) b hb) (fun hm => h.apart hj hi hji b hb (k3 b hm).1)
  · exact h.upd hi ((hchg.more fun b hb => (k3 b hb).1).setCell hg2 _) q1 q2 q3
end Mm
end Go.Proofs.Ytkhchfbpmmiopaa

/-
  Regions that draw their order and append to a slice that is owned: the plan's law on append, and the class of the worlds in which only certain blocks have turned. No program in sight. No conditions.
-/
namespace Go.Proofs.Ytkhchfbpmmiopaa
open Go.RowKit
/-- a world in which only blocks of F have turned -/
structure Cha (F : List Nat) (w : World) where
  X : World
  h : Mm.Chg F w X
def cha (F : List Nat) (w : World) (x : Cha F w) : World := x.X
instance (F : List Nat) (w : World) : Nonempty (Cha F w) := ⟨⟨w, Mm.Chg.refl _ _⟩⟩
theorem cha_cell {F : List Nat} {w : World} (x : Cha F w) (a : Addr) (hn : a.block ∉ F) (h : (w.cell? a).isSome = true) : (cha F w x).cell? a = w.cell? a := by
  obtain ⟨u, hu⟩ := Option.isSome_iff_exists.1 h
  exact World.cell?_of_block (x.h.block a.block (World.block_lt_of_cell? w a hu) hn)
namespace Mm
theorem SepF.atW {F : List Nat} {w0 wr W : World} {ts : List Thing} (h : SepF F w0 wr ts) (e : wr = W) : SepF F w0 W ts := e ▸ h
theorem SepF.rot3 {F : List Nat} {w0 wr : World} {ts : List Thing} {a b c : Thing} (h : SepF F w0 wr (a :: b :: c :: ts)) : SepF F w0 wr (ts ++ [a, b, c]) := h.permE (List.perm_append_comm (l₁ := ts) (l₂ := [a, b, c]))
theorem sep_cha {F : List Nat} {w X : World} {us : List Thing} (h : SepF F w X us) : ∃ x : Cha F w, X = cha F w x := ⟨⟨X, h.chg⟩, rfl⟩
section
variable {P : Program} {F : List Nat} {w X : World} {ops : Array Oper} {o : Oper} {a : Act} {others tk : List Thing} {vals : List Value}
/-- append of one element to a slice that is owned -/
theorem app_gvq {α : Type} {E : Rep α} {e : TypeId} {xs : List α} {x : α} {cx : List Value} {v : Value} {fp : List Nat} {gb : Nat} (hgd : o.guard = none) (s y : Operand) (t : TypeId)
    (ho : o.op = .call { callee := .builtin .append, args := #[s, y], argTypes := #[t, t] }) (d : Nat) (hd : o.dst = some d) (hs : Nat.blt d a.tmps.size = true) (i : TypeInfo) (z : Value) (bytes : Nat)
    (ht : P.underlying t = some (.slice e)) (hi : P.info? e = some i) (hz : i.zero = some z) (hsize : i.size = E.size) (hby : i.bytes = bytes) (hzs : z.cells.size = E.size) (h0 : 0 < E.size)
    (hsv : a.eval s = v) (hyv : a.eval y = .slice (some ⟨gb, 0, none⟩) 1 1) (hx : ∀ W, E.own W x cx []) (h63 : xs.length + 1 ≤ maxLen) (hbytes : (xs.length + 1) * bytes ≤ 140737488355328)
    (hS : SepF F w X ([tblk gb e cx, tsl E e xs v fp] ++ others)) : wpList P ops (GvQ F w (gSl E e (xs ++ [x]) vals tk) d a.defers others) [o] a X := by
  obtain ⟨l0, ho1, hnext⟩ := hS.push0 1 rfl (Below.refl _ _) (x := x) (hx _)
  have hb : Blk X gb e cx := hS.at_ 0 rfl
  unfold wpList
  rw [if_pos (by simp [Region.wanted, hgd])]
  refine .inl (wp_append_lies _ s y t ho 0 e i z E.size bytes ht hi hz hsize hby hzs h0 v xs.length l0 hsv ho1 ⟨gb, 0, none⟩ 1 1 cx hyv (by rw [Nat.one_mul]; exact E.olen (hx X)) ?_ (E.one (hx X)) (by omega) h63 hbytes (Nat.zero_le _) _ rfl ?_)
  · have h1 := World.news_of_block hb
    simpa using h1
  · intro gg cap w4 hown1 hgrow hat hlt
    obtain ⟨fp', hs4⟩ := hnext gg cap w4 hown1 hgrow hat
    have e1 : ((a.put o.dst (.slice (some ⟨gg, 0, none⟩) (xs.length + 1) cap)).tmps.getD d undef) = .slice (some ⟨gg, 0, none⟩) (xs.length + 1) cap := by
      rw [hd]; exact put_get (by simpa [Nat.blt_eq] using hs) _
    exact ⟨rfl, by rw [hd]; rfl, _, ⟨some ⟨gg, 0, none⟩, xs.length + 1, cap, fp', e1, rfl, by show _ = _; simp⟩, hs4.tail⟩
/-- the block of the elements that are to be appended -/
def gBs (e : TypeId) (cx : List Value) : Rel := fun _ _ v ds => ∃ g, v = .slice (some ⟨g, 0, none⟩) 1 1 ∧ ds = [tblk g e cx]
theorem gBs_in {e : TypeId} {cx : List Value} {vals : List Value} {tk : List Thing} : ∃ v ds, gBs e cx vals tk v ds := ⟨_, _, 0, rfl, rfl⟩
theorem gvq_bs {e : TypeId} {cx : List Value} {g d : Nat} {df : List Deferred} {a' : Act} (h : SepF F w X others) (hg : X.heap.size = g) (hv : a'.tmps.getD d undef = .slice (some ⟨g, 0, none⟩) 1 1) (hdf : a'.defers = df) : GvQ F w (gBs e cx vals tk) d df others .normal a' (X.alloc (.cells cx.toArray e)) :=
  ⟨rfl, hdf, _, ⟨_, hv, rfl⟩, h.alloc' hg e cx⟩
end
section
variable {P : Program} {F : List Nat} {w : World} {N : Nat} {ops : Array Oper} {D : World → Prop} {rel : Nat → Option Rel} {takes : Nat → List Nat} {Q : Act → Sig → Prop} {i : Nat} {o : Oper} {rest : List Oper} {a : Act} {σ : Sig}
/-- an operation that takes what operations j and k gave -/
theorem give_op2 {R : Rel} (d j k : Nat) (hw : Region.wanted o (yielded ops a.tmps) = true) (hr : rel i = some R) (hd : o.dst = some d) (hs : Nat.blt d a.tmps.size = true) (hi : Nat.ble i N = true) (ht : takes i = [j, k]) (hjk : (j == k) = false) (hj : Nat.ble j N = true) (hk : Nat.ble k N = true)
    (tj tk : List Thing) (htj : σ j = tj) (htk : σ k = tk)
    (hin : ∃ v ds, R (o.op.operands.toList.map a.eval) (tj ++ tk) v ds)
    (h : ∀ others X, SepF F w X ((tj ++ tk) ++ others) → wpList P ops (GvQ F w (R (o.op.operands.toList.map a.eval) (tj ++ tk)) d a.defers others) [o] a X)
    (hnext : ∀ v ds, R (o.op.operands.toList.map a.eval) (tj ++ tk) v ds → wpGive P ops (GC F w N) D rel takes Q (i + 1) rest (a.put (some d) v) (sigUpd takes σ i ds)) : wpGive P ops (GC F w N) D rel takes Q i (o :: rest) a σ := by
  have e : (takes i).flatMap σ = tj ++ tk := by rw [ht, ← htj, ← htk]; simp
  refine give_op d hw hr hd (by simpa [Nat.blt_eq] using hs) (Nat.le_of_ble_eq_true hi) (by rw [ht]; exact List.nodup_cons.2 ⟨fun h => by rw [List.mem_singleton.1 h] at hjk; simp at hjk, by simp⟩) (by
      rw [ht]; intro x hx
      rcases List.mem_cons.1 hx with rfl | hx
      · exact Nat.le_of_ble_eq_true hj
      · rw [List.mem_singleton.1 hx]; exact Nat.le_of_ble_eq_true hk) ?_ ?_ ?_
  · rw [e]; exact hin
  · rw [e]; exact h
  · rw [e]; exact hnext
end
/-- append of one element, its block just laid, in a region in the order of the text -/
theorem app_list {P : Program} {F : List Nat} {w0 wr : World} {ts : List Thing} {ops : Array Oper} {rest : List Oper} {o : Oper} {a : Act} {Q : Exit → Act → World → Prop} {α : Type} {E : Rep α} {e : TypeId} {xs : List α} {x : α} {cx : List Value} {v : Value} {fp : List Nat} {m : Nat}
    (hS : SepF F w0 wr ts) (k : Nat) (hk : ts[k]? = some (tsl E e xs v fp)) (hgd : o.guard = none) (s y : Operand) (t : TypeId)
    (ho : o.op = .call { callee := .builtin .append, args := #[s, y], argTypes := #[t, t] }) (i : TypeInfo) (z : Value) (bytes : Nat)
    (ht : P.underlying t = some (.slice e)) (hi : P.info? e = some i) (hz : i.zero = some z) (hsize : i.size = E.size) (hby : i.bytes = bytes) (hzs : z.cells.size = E.size) (h0 : 0 < E.size)
    (hsv : a.eval s = v) (hyv : a.eval y = .slice (some ⟨wr.heap.size, 0, none⟩) 1 1) (hx : ∀ W, E.own W x cx []) (hm : xs.length = m) (h63 : m + 1 ≤ maxLen) (hbytes : (m + 1) * bytes ≤ 140737488355328)
    (h : ∀ g cap w' fp', SepF F w0 w' (ts.set k (tsl E e (xs ++ [x]) (.slice (some ⟨g, 0, none⟩) (m + 1) cap) fp')) → wpList P ops Q rest (a.put o.dst (.slice (some ⟨g, 0, none⟩) (m + 1) cap)) w') :
    wpList P ops Q (o :: rest) a (wr.alloc (.cells cx.toArray e)) := by
  subst hm
  obtain ⟨l0, ho1, hnext⟩ := hS.push0 k hk (W2 := wr.alloc (.cells cx.toArray e)) (below_new (Below.refl _ _) _) (x := x) (hx _)
  have hb : Blk (wr.alloc (.cells cx.toArray e)) wr.heap.size e cx := Blk.new _ _ _
  refine wpList_append_lies _ hgd s y t ho 0 e i z E.size bytes ht hi hz hsize hby hzs h0 v xs.length l0 hsv ho1 ⟨wr.heap.size, 0, none⟩ 1 1 cx hyv (by rw [Nat.one_mul]; exact E.olen (hx wr)) ?_ (E.one (hx wr)) (by omega) h63 hbytes (Nat.zero_le _) _ rfl ?_
  · have h1 := World.news_of_block hb
    simpa using h1
  · intro gg cap w4 hown1 hgrow hat hlt
    obtain ⟨fp', hs4⟩ := hnext gg cap w4 hown1 hgrow hat
    exact h gg cap w4 fp' hs4
end Mm
end Go.Proofs.Ytkhchfbpmmiopaa

/-
  Regions that draw their order and give: a store among the operations of the plan (it yields no value; the block that it stores into is taken and given back). No program in sight. No conditions.
-/
namespace Go.Proofs.Ytkhchfbpmmiopaa
open Go.RowKit
namespace Mm
section
variable {P : Program} {F : List Nat} {w : World} {N : Nat} {ops : Array Oper} {D : World → Prop} {rel : Nat → Option Rel} {takes : Nat → List Nat} {Q : Act → Sig → Prop} {i : Nat} {o : Oper} {rest : List Oper} {a : Act} {σ : Sig}
def GvQn (F : List Nat) (w : World) (r : List Thing → Prop) (df : List Deferred) (rest : List Thing) (x : Exit) (a' : Act) (w' : World) : Prop :=
  x = .normal ∧ a'.defers = df ∧ ∃ ds, r ds ∧ SepF F w w' (ds ++ rest)
theorem gvalid_none {r : Value → List Thing → Prop} {r' : List Thing → Prop} (hr : ∀ u ds, r' ds → r u ds) (hd : o.dst = none) (hw : Region.wanted o (yielded ops a.tmps) = true) (hi : i ≤ N) (hn : (takes i).Nodup) (hk : ∀ k ∈ takes i, k ≤ N)
    (h : ∀ others X, SepF F w X ((takes i).flatMap σ ++ others) → wpList P ops (GvQn F w r' a.defers others) [o] a X) : GValid P (GC F w N) takes i o a σ r := by
  intro σ' X hC hag
  have e4 : (takes i).flatMap σ' = (takes i).flatMap σ := by
    rw [List.flatMap_def, List.flatMap_def]; exact congrArg List.flatten (List.map_congr_left hag)
  have h0 : SepF F w X (sigAll N σ') := hC
  have h1 := h0.sigTake hn hk
  rw [e4] at h1
  have h2 := h _ X h1
  have fin : ∀ u w', GvQn F w r' a.defers (sigAll N (sigUpd takes σ' i [])) .normal (a.put o.dst u) w' → ∃ ds, r u ds ∧ GC F w N (sigUpd takes σ' i ds) w' := fun u w' ⟨_, _, ds, h3, h4⟩ =>
    ⟨ds, hr u ds h3, h4.permE (sigAll_upd hi)⟩
  unfold wpList at h2
  rw [if_pos hw] at h2
  have h3 : o.wp P a X (fun a' w' => GvQn F w r' a.defers (sigAll N (sigUpd takes σ' i [])) .normal a' w') (GvQn F w r' a.defers (sigAll N (sigUpd takes σ' i []))) := by
    first
      | exact h2
      | exact h2.elim id fun h => by obtain ⟨_, a', w', h, _⟩ := h; cases h
  unfold Oper.wp at h3
  generalize (execOp a.eval o).run P X = R at *
  cases R with
  | ok n w' =>
    cases n <;> simp only [Oper.upon] at h3 <;> simp only [ups] <;> first | exact fin _ _ h3 | skip
    · refine h3.mono fun e w'' he => ?_
      cases e with
      | returned v => exact ⟨v, rfl, fin _ _ he⟩
      | panicked c => exact absurd he.1 (by simp)
      | outgrown => obtain ⟨a', w', h, _⟩ := he; cases h
    · have := h3.2.1
      rw [hd] at this
      exact absurd this (by simp [Act.put])
    · exact Rows.mono h3 fun v w'' he => fin _ _ he
  | halt x w' => cases x <;> simp only [Oper.upon] at h3; exact absurd h3.1 (by simp)
/-- what a store of a struct gives: the block, written anew -/
def gSto (T : TypeId) : Rel := fun vals _ _ ds => ∃ g cs, vals = [.pointer (some ⟨g, 0, none⟩), .agg cs.toArray] ∧ ds = [tblk g T cs]
/-- a store into the block that operation k gave -/
theorem give_store (T : TypeId) (g : Nat) (cs0 cs : List Value) (k : Nat) (hw : Region.wanted o (yielded ops a.tmps) = true) (hr : rel i = some (gSto T)) (hd : o.dst = none) (hi : Nat.ble i N = true) (ht : takes i = [k]) (hk : Nat.ble k N = true)
    (htk : σ k = [tblk g T cs0]) (hv : o.op.operands.toList.map a.eval = [.pointer (some ⟨g, 0, none⟩), .agg cs.toArray])
    (h : ∀ others X, SepF F w X (tblk g T cs0 :: others) → wpList P ops (GvQn F w (fun ds => ds = [tblk g T cs]) a.defers others) [o] a X)
    (hnext : wpGive P ops (GC F w N) D rel takes Q (i + 1) rest a (sigUpd takes σ i [tblk g T cs])) : wpGive P ops (GC F w N) D rel takes Q i (o :: rest) a σ := by
  have e : (takes i).flatMap σ = [tblk g T cs0] := by rw [ht, ← htk]; simp
  refine give_rel hw hr (gvalid_none (r' := fun ds => ds = [tblk g T cs]) (fun u ds h => ?_) hd hw (Nat.le_of_ble_eq_true hi) (by rw [ht]; simp) (by rw [ht]; intro x hx; rw [List.mem_singleton.1 hx]; exact Nat.le_of_ble_eq_true hk) ?_) ?_ ?_
  · exact ⟨g, cs, hv, h⟩
  · rw [e]; exact h
  · exact ⟨undef, _, g, cs, hv, rfl⟩
  · rintro v ds ⟨g', cs', hv', rfl⟩
    have h1 := hv.symm.trans hv'
    injection h1 with h2 h3
    injection h3 with h4 _
    injection h2 with h5
    injection h5 with h6
    injection h6 with h7
    injection h4 with h8
    have h9 : cs = cs' := by simpa using congrArg Array.toList h8
    subst h7 h9
    rw [hd]
    exact hnext
end
end Mm
end Go.Proofs.Ytkhchfbpmmiopaa

/-
  Plain functions: logs of entries: where two are alike, the starts of the epochs, an epoch's end, up to where a follower keeps its entries. No program in sight. No conditions.
-/
namespace Go.Proofs.Ytkhchfbpmmiopaa
namespace Pl
def eqE (a b : Entry) : Bool := decide (a.Epoch = b.Epoch) && (a.Text.toList == b.Text.toList)
theorem ba_eq {s t : ByteArray} (h : s.toList = t.toList) : s = t := by
  rw [Lib.toList_data, Lib.toList_data] at h
  cases s with | mk a => cases t with | mk b => 
    congr
    exact Array.ext' (by simpa using h)
theorem eqE_iff {a b : Entry} : eqE a b = true ↔ a = b := by
  unfold eqE
  rw [Bool.and_eq_true, decide_eq_true_eq, beq_iff_eq]
  constructor
  · rintro ⟨h1, h2⟩
    cases a; cases b
    simp only at h1 h2
    rw [h1, ba_eq h2]
  · rintro rfl; exact ⟨rfl, rfl⟩
theorem eqE_no {a b : Entry} : eqE a b = false ↔ a ≠ b := by
  rw [← Bool.not_eq_true, eqE_iff]
theorem eqE_self (a : Entry) : eqE a a = true := eqE_iff.2 rfl
theorem eqE_comm (a b : Entry) : eqE a b = eqE b a := by
  rw [Bool.eq_iff_iff, eqE_iff, eqE_iff]; exact ⟨Eq.symm, Eq.symm⟩
/-- up to where two logs are alike -/
def part : List Entry → List Entry → Nat
  | a :: s, b :: t => if eqE a b = true then part s t + 1 else 0
  | [], _ => 0
  | _ :: _, [] => 0
theorem part_le : ∀ a b : List Entry, part a b ≤ a.length ∧ part a b ≤ b.length
  | [], _ => by simp [part]
  | _ :: _, [] => by simp [part]
  | x :: s, y :: t => by
    have := part_le s t
    rw [part]
    split
    · simp only [List.length_cons]; omega
    · simp only [List.length_cons]; omega
theorem part_comm : ∀ a b : List Entry, part a b = part b a
  | [], [] => rfl
  | [], _ :: _ => rfl
  | _ :: _, [] => rfl
  | x :: s, y :: t => by rw [part, part, eqE_comm, part_comm s t]
theorem part_take : ∀ a b : List Entry, a.take (part a b) = b.take (part a b)
  | [], _ => by simp [part]
  | _ :: _, [] => by simp [part]
  | x :: s, y :: t => by
    rw [part]
    split
    · rename_i h
      rw [List.take_succ_cons, List.take_succ_cons, part_take s t, eqE_iff.1 h]
    · rfl
/-- where a loop that counts has come to -/
theorem part_of : ∀ (a b : List Entry) (k : Nat), k ≤ a.length → k ≤ b.length → a.take k = b.take k → (∀ x y, a[k]? = some x → b[k]? = some y → eqE x y = false) → part a b = k
  | [], b, k, h, _, _, _ => by simp at h; subst h; simp [part]
  | _ :: _, [], k, _, h, _, _ => by simp at h; subst h; simp [part]
  | x :: s, y :: t, 0, _, _, _, h => by
    rw [part, if_neg]
    rw [h x y rfl rfl]; simp
  | x :: s, y :: t, k + 1, h1, h2, h3, h4 => by
    rw [List.take_succ_cons, List.take_succ_cons] at h3
    injection h3 with h5 h6
    rw [part, if_pos (eqE_iff.2 h5), part_of s t k (by simpa using h1) (by simpa using h2) h6 (fun u v hu hv => h4 u v (by simpa using hu) (by simpa using hv))]
theorem part_ge : ∀ (a b : List Entry) (k : Nat), k ≤ a.length → k ≤ b.length → a.take k = b.take k → k ≤ part a b
  | _, _, 0, _, _, _ => Nat.zero_le _
  | [], b, k + 1, h, _, _ => by simp at h
  | _ :: _, [], k + 1, _, h, _ => by simp at h
  | x :: s, y :: t, k + 1, h1, h2, h3 => by
    rw [List.take_succ_cons, List.take_succ_cons] at h3
    injection h3 with h5 h6
    rw [part, if_pos (eqE_iff.2 h5)]
    exact Nat.succ_le_succ (part_ge s t k (by simpa using h1) (by simpa using h2) h6)
theorem part_self (a : List Entry) : part a a = a.length := Nat.le_antisymm (part_le a a).1 (part_ge a a _ (Nat.le_refl _) (Nat.le_refl _) rfl)
theorem part_full {l c : List Entry} : part l c = c.length ↔ c <+: l := by
  constructor
  · intro h
    have h1 := part_take l c
    rw [h, List.take_length] at h1
    rw [← h1]
    exact List.take_prefix _ _
  · intro h
    have h1 := h.length_le
    refine Nat.le_antisymm (part_le l c).2 (part_ge l c _ h1 (Nat.le_refl _) ?_)
    rw [List.take_length]
    exact (List.prefix_iff_eq_take.1 h).symm
theorem take_next {α : Type} {a b : List α} {k : Nat} {x : α} (h : a.take k = b.take k) (ha : a[k]? = some x) (hb : b[k]? = some x) : a.take (k + 1) = b.take (k + 1) := by
  obtain ⟨h1, h2⟩ := List.getElem?_eq_some_iff.1 ha
  obtain ⟨h3, h4⟩ := List.getElem?_eq_some_iff.1 hb
  rw [List.take_succ_eq_append_getElem h1, List.take_succ_eq_append_getElem h3, h, h2, h4]
/-- the epochs rise -/
def Ris (l : List Entry) : Prop := ∀ (i j : Nat) (x y : Entry), l[i]? = some x → l[j]? = some y → i ≤ j → x.Epoch ≤ y.Epoch
theorem Ris.take {l : List Entry} (h : Ris l) (n : Nat) : Ris (l.take n) := fun i j x y hx hy hij => by
  rw [List.getElem?_take] at hx hy
  split at hx
  · split at hy
    · exact h i j x y hx hy hij
    · cases hy
  · cases hx
/-- how many entries, from the first on, have an epoch or a smaller one -/
def fend : List Entry → Int → Nat
  | [], _ => 0
  | x :: t, e => if x.Epoch ≤ e then fend t e + 1 else 0
theorem fend_le : ∀ (l : List Entry) (e : Int), fend l e ≤ l.length
  | [], _ => Nat.le_refl _
  | x :: t, e => by
    rw [fend]
    have := fend_le t e
    split
    · simp only [List.length_cons]; omega
    · exact Nat.zero_le _
theorem fend_in : ∀ (l : List Entry) (e : Int) (i : Nat) (x : Entry), i < fend l e → l[i]? = some x → x.Epoch ≤ e
  | [], _, i, x, h, _ => by simp [fend] at h
  | y :: t, e, i, x, h, hx => by
    rw [fend] at h
    split at h
    · rename_i hy
      cases i with
      | zero => simp at hx; rw [← hx]; exact hy
      | succ i => exact fend_in t e i x (by omega) (by simpa using hx)
    · omega
theorem fend_out : ∀ (l : List Entry) (e : Int) (x : Entry), l[fend l e]? = some x → e < x.Epoch
  | [], _, x, h => by simp at h
  | y :: t, e, x, h => by
    rw [fend] at h
    split at h
    · exact fend_out t e x (by simpa using h)
    · rename_i hy
      simp at h; rw [← h]; omega
theorem fend_of {l : List Entry} {e : Int} {k : Nat} (hk : k ≤ l.length) (h1 : ∀ i x, i < k → l[i]? = some x → x.Epoch ≤ e) (h2 : ∀ x, l[k]? = some x → e < x.Epoch) : fend l e = k := by
  rcases Nat.lt_trichotomy (fend l e) k with h | h | h
  · have hx := List.getElem?_eq_getElem (show fend l e < l.length by omega)
    have := fend_out l e _ hx
    have := h1 _ _ h hx
    omega
  · exact h
  · have := fend_le l e
    have hx := List.getElem?_eq_getElem (show k < l.length by omega)
    have := fend_in l e k _ h hx
    have := h2 _ hx
    omega
/-- in a log whose epochs rise, the entries ahead of an epoch's end are those with that epoch or a smaller one -/
theorem fend_iff {l : List Entry} (hl : Ris l) {e : Int} {i : Nat} {x : Entry} (hx : l[i]? = some x) : i < fend l e ↔ x.Epoch ≤ e := by
  constructor
  · exact fun h => fend_in l e i x h hx
  · intro h
    apply Classical.byContradiction
    intro hn
    have hi := (List.getElem?_eq_some_iff.1 hx).1
    have hy := List.getElem?_eq_getElem (show fend l e < l.length by omega)
    have h1 := fend_out l e _ hy
    have h2 := hl _ _ _ _ hy hx (by omega)
    omega
theorem fend_mono {l : List Entry} (_hl : Ris l) {e f : Int} (h : e ≤ f) : fend l e ≤ fend l f := by
  apply Classical.byContradiction
  intro hn
  have := fend_le l e
  have hy := List.getElem?_eq_getElem (show fend l f < l.length by omega)
  have h1 := fend_out l f _ hy
  have h2 := fend_in l e _ _ (show fend l f < fend l e by omega) hy
  omega
theorem fend_count {l : List Entry} (hl : Ris l) (e : Int) : l.countP (fun x => decide (x.Epoch ≤ e)) = fend l e := by
  induction l with
  | nil => rfl
  | cons y t ih =>
    have ht : Ris t := fun i j x z hx hz hij => hl (i + 1) (j + 1) x z (by simpa using hx) (by simpa using hz) (by omega)
    rw [fend, List.countP_cons, ih ht]
    by_cases h : y.Epoch ≤ e
    · rw [if_pos h, if_pos (by simpa using h)]
    · rw [if_neg h, if_neg (by simpa using h)]
      cases t with
      | nil => rfl
      | cons z s =>
        rw [fend, if_neg]
        have := hl 0 1 y z rfl rfl (by omega)
        omega
def zEn : Entry := ⟨0, ByteArray.empty⟩
def epAt (l : List Entry) (i : Nat) : Int := (l.getD i zEn).Epoch
theorem epAt_of {l : List Entry} {i : Nat} {x : Entry} (h : l[i]? = some x) : epAt l i = x.Epoch := by
  unfold epAt; rw [List.getD_eq_getElem?_getD, h]; rfl
/-- an epoch begins here -/
def isSt (l : List Entry) (i : Nat) : Bool := decide (i = 0) || (epAt l (i - 1) != epAt l i)
def startsTo (l : List Entry) : Nat → List Start
  | 0 => []
  | k + 1 => if isSt l k = true then startsTo l k ++ [⟨epAt l k, k⟩] else startsTo l k
def starts (l : List Entry) : List Start := startsTo l l.length
theorem startsTo_len (l : List Entry) : ∀ k, (startsTo l k).length ≤ k
  | 0 => Nat.le_refl _
  | k + 1 => by
    have := startsTo_len l k
    rw [startsTo]
    split
    · simp only [List.length_append, List.length_singleton]; omega
    · omega
theorem startsTo_mem {l : List Entry} {s : Start} : ∀ {k}, s ∈ startsTo l k ↔ ∃ i, i < k ∧ isSt l i = true ∧ s = ⟨epAt l i, i⟩
  | 0 => by simp [startsTo]
  | k + 1 => by
    rw [startsTo]
    constructor
    · intro h
      split at h
      · rename_i hs
        rcases List.mem_append.1 h with h | h
        · obtain ⟨i, h1, h2⟩ := startsTo_mem.1 h
          exact ⟨i, by omega, h2⟩
        · exact ⟨k, by omega, hs, List.mem_singleton.1 h⟩
      · obtain ⟨i, h1, h2⟩ := startsTo_mem.1 h
        exact ⟨i, by omega, h2⟩
    · rintro ⟨i, h1, h2, h3⟩
      by_cases hi : i = k
      · subst hi
        rw [if_pos h2]
        exact List.mem_append_right _ (by rw [h3]; simp)
      · have := startsTo_mem.2 ⟨i, show i < k by omega, h2, h3⟩
        split
        · exact List.mem_append_left _ this
        · exact this
/-- the first entry with its epoch -/
theorem isSt_first {l : List Entry} (hl : Ris l) {i j : Nat} {x y : Entry} (hx : l[i]? = some x) (hs : isSt l i = true) (hy : l[j]? = some y) (he : y.Epoch = x.Epoch) : i ≤ j := by
  apply Classical.byContradiction
  intro hn
  have hi := (List.getElem?_eq_some_iff.1 hx).1
  have hz := List.getElem?_eq_getElem (show i - 1 < l.length by omega)
  unfold isSt at hs
  rw [epAt_of hx, epAt_of hz, Bool.or_eq_true, decide_eq_true_eq, bne_iff_ne] at hs
  have h1 := hl _ _ _ _ hy hz (by omega)
  have h2 := hl _ _ _ _ hz hx (by omega)
  omega
theorem isSt_exists {l : List Entry} {j : Nat} {y : Entry} (hy : l[j]? = some y) : ∃ i x, l[i]? = some x ∧ isSt l i = true ∧ x.Epoch = y.Epoch ∧ i ≤ j := by
  induction j generalizing y with
  | zero => exact ⟨0, y, hy, rfl, rfl, Nat.le_refl _⟩
  | succ j ih =>
    have hj := (List.getElem?_eq_some_iff.1 hy).1
    have hz := List.getElem?_eq_getElem (show j < l.length by omega)
    by_cases he : (l[j]'(by omega)).Epoch = y.Epoch
    · obtain ⟨i, x, h1, h2, h3, h4⟩ := ih hz
      exact ⟨i, x, h1, h2, h3.trans he, by omega⟩
    · refine ⟨j + 1, y, hy, ?_, rfl, Nat.le_refl _⟩
      unfold isSt
      rw [epAt_of hy, Nat.add_sub_cancel, epAt_of hz]
      simp [he]
theorem starts_ep {l : List Entry} {e : Int} : (∃ s, s ∈ starts l ∧ s.Epoch = e) ↔ ∃ (i : Nat) (x : Entry), l[i]? = some x ∧ x.Epoch = e := by
  constructor
  · rintro ⟨s, hs, rfl⟩
    obtain ⟨i, h1, h2, rfl⟩ := startsTo_mem.1 hs
    exact ⟨i, _, List.getElem?_eq_getElem h1, (epAt_of (List.getElem?_eq_getElem h1)).symm⟩
  · rintro ⟨i, x, hx, rfl⟩
    obtain ⟨j, y, h1, h2, h3, _⟩ := isSt_exists hx
    exact ⟨⟨epAt l j, j⟩, startsTo_mem.2 ⟨j, (List.getElem?_eq_some_iff.1 h1).1, h2, rfl⟩, by rw [epAt_of h1]; exact h3⟩
theorem startsTo_lt (l : List Entry) : ∀ k, (startsTo l k).Pairwise (fun s t => s.At < t.At)
  | 0 => List.Pairwise.nil
  | k + 1 => by
    rw [startsTo]
    split
    · refine List.pairwise_append.2 ⟨startsTo_lt l k, List.pairwise_singleton _ _, fun a ha b hb => ?_⟩
      obtain ⟨i, h1, _, rfl⟩ := startsTo_mem.1 ha
      rw [List.mem_singleton.1 hb]
      show (i : Int) < k
      omega
    · exact startsTo_lt l k
theorem startsTo_ep {l : List Entry} (hl : Ris l) {k : Nat} (hk : k ≤ l.length) : (startsTo l k).Pairwise (fun s t => s.Epoch < t.Epoch) := by
  refine (startsTo_lt l k).imp_of_mem fun {s t} hs ht h => ?_
  obtain ⟨i, h1, h2, rfl⟩ := startsTo_mem.1 hs
  obtain ⟨j, h3, h4, rfl⟩ := startsTo_mem.1 ht
  have hij : i < j := by have : (i : Int) < j := h; omega
  have hx := List.getElem?_eq_getElem (show i < l.length by omega)
  have hy := List.getElem?_eq_getElem (show j < l.length by omega)
  show epAt l i < epAt l j
  rw [epAt_of hx, epAt_of hy]
  have h5 := hl _ _ _ _ hx hy (by omega)
  rcases Int.lt_or_eq_of_le h5 with h | h
  · exact h
  · have := isSt_first hl hy h4 hx h; omega
/-- the start behind an epoch's is the epoch's end -/
theorem starts_next {l : List Entry} (hl : Ris l) {k : Nat} {s : Start} (hs : (starts l)[k]? = some s) : (∀ t, (starts l)[k + 1]? = some t → t.At = fend l s.Epoch) ∧ ((starts l).length ≤ k + 1 → l.length = fend l s.Epoch) := by
  have hm := List.mem_of_getElem? hs
  obtain ⟨i, h1, h2, rfl⟩ := startsTo_mem.1 hm
  have hx := List.getElem?_eq_getElem h1
  have hp : (starts l).Pairwise (fun s t => s.Epoch < t.Epoch) := startsTo_ep hl (Nat.le_refl l.length)
  have hk := (List.getElem?_eq_some_iff.1 hs).1
  -- every start with a greater epoch comes later
  have later : ∀ (j : Nat) (y : Entry), l[j]? = some y → l[i].Epoch < y.Epoch → ∃ m t, k < m ∧ (starts l)[m]? = some t ∧ t.At ≤ j ∧ t.Epoch = y.Epoch := by
    intro j y hy hlt
    obtain ⟨j', y', g1, g2, g3, g4⟩ := isSt_exists hy
    have hmem : (⟨epAt l j', j'⟩ : Start) ∈ starts l := startsTo_mem.2 ⟨j', (List.getElem?_eq_some_iff.1 g1).1, g2, rfl⟩
    obtain ⟨m, hm⟩ := List.mem_iff_getElem?.1 hmem
    refine ⟨m, _, ?_, hm, by show (j' : Int) ≤ j; omega, by show epAt l j' = _; rw [epAt_of g1, g3]⟩
    have hml := (List.getElem?_eq_some_iff.1 hm)
    apply Classical.byContradiction
    intro hn
    obtain ⟨hk1, hk2⟩ := List.getElem?_eq_some_iff.1 hs
    have hle : (starts l)[m].Epoch ≤ (starts l)[k].Epoch := by
      rcases Nat.lt_or_ge m k with h | h
      · exact Int.le_of_lt (List.pairwise_iff_getElem.1 hp m k hml.1 hk1 h)
      · have : m = k := by omega
        subst this; exact Int.le_refl _
    rw [hml.2, hk2] at hle
    have e1 : epAt l j' ≤ epAt l i := hle
    rw [epAt_of g1, epAt_of hx] at e1
    omega
  constructor
  · intro t ht
    obtain ⟨hk1, hk2⟩ := List.getElem?_eq_some_iff.1 ht
    obtain ⟨hk3, hk4⟩ := List.getElem?_eq_some_iff.1 hs
    obtain ⟨j, g1, g2, rfl⟩ := startsTo_mem.1 (List.mem_of_getElem? ht)
    have hy := List.getElem?_eq_getElem g1
    have hlt := List.pairwise_iff_getElem.1 hp k (k + 1) hk3 hk1 (by omega)
    rw [hk2, hk4] at hlt
    have hlt' : epAt l i < epAt l j := hlt
    rw [epAt_of hx, epAt_of hy] at hlt'
    show (j : Int) = fend l (epAt l i)
    rw [epAt_of hx]
    congr 1
    symm
    refine fend_of (by omega) (fun a z ha hz => ?_) (fun z hz => by rw [hy] at hz; injection hz with hz; rw [← hz]; exact hlt')
    apply Classical.byContradiction
    intro hn
    obtain ⟨m, t, q1, q2, q3, q4⟩ := later a z hz (by omega)
    have hat : (starts l).Pairwise (fun s t => s.At < t.At) := startsTo_lt l l.length
    obtain ⟨hq1, hq2⟩ := List.getElem?_eq_some_iff.1 q2
    have : (starts l)[k + 1].At ≤ (starts l)[m].At := by
      rcases Nat.lt_or_ge (k + 1) m with h | h
      · exact Int.le_of_lt (List.pairwise_iff_getElem.1 hat (k + 1) m hk1 hq1 h)
      · have : m = k + 1 := by omega
        subst this; exact Int.le_refl _
    rw [hq2, hk2] at this
    have this' : (j : Int) ≤ t.At := this
    omega
  · intro hlen
    show l.length = fend l (epAt l i)
    rw [epAt_of hx]
    symm
    refine fend_of (Nat.le_refl _) (fun a z ha hz => ?_) (fun z hz => by simp at hz)
    apply Classical.byContradiction
    intro hn
    obtain ⟨m, t, q1, q2, q3, q4⟩ := later a z hz (by omega)
    have := (List.getElem?_eq_some_iff.1 q2).1
    omega
def hasEp (l : List Entry) (e : Int) : Bool := l.any (fun x => x.Epoch == e)
theorem hasEp_iff {l : List Entry} {e : Int} : hasEp l e = true ↔ ∃ (i : Nat) (x : Entry), l[i]? = some x ∧ x.Epoch = e := by
  unfold hasEp
  rw [List.any_eq_true]
  constructor
  · rintro ⟨x, hx, he⟩
    obtain ⟨i, hi⟩ := List.mem_iff_getElem?.1 hx
    exact ⟨i, x, hi, by simpa using he⟩
  · rintro ⟨i, x, hx, he⟩
    exact ⟨x, List.mem_of_getElem? hx, by simpa using he⟩
/-- up to where a follower keeps its entries -/
def ffind (a b : List Entry) : Nat := match (starts a).reverse.find? (fun s => hasEp b s.Epoch) with
  | none => 0
  | some s => min (fend a s.Epoch) (fend b s.Epoch)
theorem ffind_le (a b : List Entry) : ffind a b ≤ a.length ∧ ffind a b ≤ b.length := by
  unfold ffind
  split
  · omega
  · rename_i s _
    have := fend_le a s.Epoch
    have := fend_le b s.Epoch
    omega
end Pl
end Go.Proofs.Ytkhchfbpmmiopaa

/-
  Plain functions: logs with one history: a follower keeps what is the leader's. No program in sight. No conditions.
-/
namespace Go.Proofs.Ytkhchfbpmmiopaa
namespace Pl
theorem hasEp_of {l : List Entry} {i : Nat} {x : Entry} (h : l[i]? = some x) : hasEp l x.Epoch = true := hasEp_iff.2 ⟨i, x, h, rfl⟩
/-- what a search has found -/
theorem ffind_spec {a b : List Entry} (ha : Ris a) : (ffind a b = 0 ∧ ∀ (i : Nat) (x : Entry), a[i]? = some x → hasEp b x.Epoch = false) ∨
    ∃ e, hasEp a e = true ∧ hasEp b e = true ∧ ffind a b = min (fend a e) (fend b e) ∧ ∀ (i : Nat) (x : Entry), a[i]? = some x → hasEp b x.Epoch = true → x.Epoch ≤ e := by
  unfold ffind
  cases hf : (starts a).reverse.find? (fun s => hasEp b s.Epoch) with
  | none =>
    left
    refine ⟨rfl, fun i x hx => ?_⟩
    obtain ⟨s, hs, he⟩ := starts_ep.2 ⟨i, x, hx, rfl⟩
    have := List.find?_eq_none.1 hf s (List.mem_reverse.2 hs)
    rw [he] at this
    simpa using this
  | some s =>
    right
    obtain ⟨h1, as1, bs1, h2, h3⟩ := List.find?_eq_some_iff_append.1 hf
    have h4 : starts a = bs1.reverse ++ s :: as1.reverse := by
      have := congrArg List.reverse h2
      simpa using this
    have hmem : s ∈ starts a := by rw [h4]; simp
    refine ⟨s.Epoch, hasEp_iff.2 (starts_ep.1 ⟨s, hmem, rfl⟩), h1, rfl, fun i x hx hb => ?_⟩
    obtain ⟨t, ht, he⟩ := starts_ep.2 ⟨i, x, hx, rfl⟩
    have hp : (starts a).Pairwise (fun s t => s.Epoch < t.Epoch) := startsTo_ep ha (Nat.le_refl _)
    rw [h4] at ht hp
    rcases List.mem_append.1 ht with h | h
    · rw [← he]
      exact Int.le_of_lt ((List.pairwise_append.1 hp).2.2 t h s (by simp))
    · rcases List.mem_cons.1 h with h | h
      · rw [← he, h]; exact Int.le_refl _
      · have := h3 t (List.mem_reverse.1 h)
        rw [he, hb] at this
        simp at this
theorem fend_pos {l : List Entry} (hl : Ris l) {e : Int} (h : hasEp l e = true) : ∃ (i : Nat) (x : Entry), l[i]? = some x ∧ x.Epoch = e ∧ isSt l i = true ∧ i < fend l e := by
  obtain ⟨j, y, hy, rfl⟩ := hasEp_iff.1 h
  obtain ⟨i, x, h1, h2, h3, h4⟩ := isSt_exists hy
  exact ⟨i, x, h1, h3, h2, (fend_iff hl h1).2 (by omega)⟩
/-- all entries of a log are the history's of their epochs -/
def Hist (H : Int → List Entry) (l : List Entry) : Prop := ∀ (i : Nat) (x : Entry), l[i]? = some x → l.take (i + 1) = (H x.Epoch).take (i + 1)
theorem hist_same {H : Int → List Entry} {a b : List Entry} (ha : Hist H a) (hb : Hist H b) {i : Nat} {x y : Entry} (hx : a[i]? = some x) (hy : b[i]? = some y) (he : x.Epoch = y.Epoch) : a.take (i + 1) = b.take (i + 1) := by
  rw [ha i x hx, hb i y hy, he]
theorem take_get {α : Type} {a b : List α} {n i : Nat} (h : a.take n = b.take n) (hi : i < n) : a[i]? = b[i]? := by
  have := congrArg (·[i]?) h
  simpa [List.getElem?_take, hi] using this
theorem hist_start {H : Int → List Entry} {a b : List Entry} (ha : Hist H a) (hb : Hist H b) (hra : Ris a) (hrb : Ris b) {i j : Nat} {x y : Entry} (hx : a[i]? = some x) (hy : b[j]? = some y) (he : x.Epoch = y.Epoch) (hi : isSt a i = true) (hj : isSt b j = true) : i = j := by
  have h1 := ha i x hx
  have h2 := hb j y hy
  rcases Nat.lt_trichotomy i j with h | h | h
  · have h3 := take_get h2 (show i < j + 1 by omega)
    have h4 := take_get h1 (show i < i + 1 by omega)
    rw [he] at h4
    rw [← h4, hx] at h3
    have := isSt_first hrb hy hj h3 he
    omega
  · exact h
  · have h3 := take_get h1 (show j < i + 1 by omega)
    have h4 := take_get h2 (show j < j + 1 by omega)
    rw [he, ← h4, hy] at h3
    have := isSt_first hra hx hi h3 he.symm
    omega
/-- up to there the two logs are alike -/
theorem ffind_take {H : Int → List Entry} {a b : List Entry} (ha : Hist H a) (hb : Hist H b) (hra : Ris a) (hrb : Ris b) : a.take (ffind a b) = b.take (ffind a b) := by
  rcases ffind_spec (b := b) hra with ⟨h, _⟩ | ⟨e, h1, h2, h3, _⟩
  · rw [h]; rfl
  · obtain ⟨i, x, g1, g2, g3, g4⟩ := fend_pos hra h1
    obtain ⟨j, y, k1, k2, k3, k4⟩ := fend_pos hrb h2
    have hij := hist_start ha hb hra hrb g1 k1 (g2.trans k2.symm) g3 k3
    subst hij
    rw [h3]
    obtain ⟨m, hm⟩ : ∃ m, min (fend a e) (fend b e) = m + 1 := ⟨min (fend a e) (fend b e) - 1, by omega⟩
    rw [hm]
    have l1 := fend_le a e
    have l2 := fend_le b e
    have e1 := List.getElem?_eq_getElem (show m < a.length by omega)
    have e2 := List.getElem?_eq_getElem (show m < b.length by omega)
    refine hist_same ha hb e1 e2 ?_
    have q1 := fend_in a e m _ (by omega) e1
    have q2 := fend_in b e m _ (by omega) e2
    have q3 := hra _ _ _ _ g1 e1 (by omega)
    have q4 := hrb _ _ _ _ k1 e2 (by omega)
    omega
/-- what begins both logs is kept -/
theorem ffind_ge {a b c : List Entry} (hra : Ris a) (hrb : Ris b) (ha : c <+: a) (hb : c <+: b) : c.length ≤ ffind a b := by
  cases hc : c.length with
  | zero => exact Nat.zero_le _
  | succ n =>
    have hz := List.getElem?_eq_getElem (show n < c.length by omega)
    have ha' := (List.prefix_iff_getElem?.1 ha) n (by omega)
    have hb' := (List.prefix_iff_getElem?.1 hb) n (by omega)
    have hbe := hasEp_of hb'
    rcases ffind_spec (b := b) hra with ⟨_, h⟩ | ⟨e, h1, h2, h3, h4⟩
    · rw [h n _ ha'] at hbe; cases hbe
    · have := h4 n _ ha' hbe
      rw [h3]
      have g1 := (fend_iff hra ha').2 this
      have g2 := (fend_iff hrb hb').2 this
      omega
theorem ffind_prefix {a b : List Entry} (hra : Ris a) (hrb : Ris b) (h : a <+: b) : ffind a b = a.length :=
  Nat.le_antisymm (ffind_le a b).1 (ffind_ge hra hrb (List.prefix_refl _) h)
/-- what a follower has behind a fetch -/
def fetchL (own other : List Entry) : List Entry := own.take (ffind own other) ++ (other[ffind own other]?).toList
theorem fetchL_take {H : Int → List Entry} {a b : List Entry} (ha : Hist H a) (hb : Hist H b) (hra : Ris a) (hrb : Ris b) : fetchL a b = b.take (ffind a b + 1) := by
  unfold fetchL
  rw [ffind_take ha hb hra hrb]
  cases h : b[ffind a b]? with
  | none =>
    have := List.getElem?_eq_none_iff.1 h
    rw [List.take_of_length_le (show b.length ≤ ffind a b + 1 by omega), List.take_of_length_le this]
    simp
  | some x =>
    obtain ⟨h1, h2⟩ := List.getElem?_eq_some_iff.1 h
    rw [List.take_succ_eq_append_getElem h1, h2]
    rfl
theorem Hist.take {H : Int → List Entry} {l : List Entry} (h : Hist H l) (n : Nat) : Hist H (l.take n) := fun i x hx => by
  rw [List.getElem?_take] at hx
  split at hx
  · rename_i hi
    rw [List.take_take, Nat.min_eq_left (by omega)]
    exact h i x hx
  · cases hx
def entOk (x : Entry) : Bool := isIn x.Epoch 1 1000 && decide (x.Text.size ≤ 20)
structure LogOk (l : List Entry) : Prop where
  ris : Ris l
  len : l.length ≤ 40
  ok : ∀ (i : Nat) (x : Entry), l[i]? = some x → entOk x = true
theorem LogOk.take {l : List Entry} (h : LogOk l) (n : Nat) : LogOk (l.take n) := ⟨h.ris.take n, by rw [List.length_take]; have := h.len; omega, fun i x hx => by
  rw [List.getElem?_take] at hx
  split at hx
  · exact h.ok i x hx
  · cases hx⟩
theorem LogOk.nil : LogOk [] := ⟨fun i j x y hx => by simp at hx, Nat.zero_le _, fun i x hx => by simp at hx⟩
theorem LogOk.pre {l c : List Entry} (h : LogOk l) (hc : c <+: l) : LogOk c := by
  rw [List.prefix_iff_eq_take.1 hc]; exact h.take _
def lastEp (l : List Entry) : Int := if l.length = 0 then 0 else epAt l (l.length - 1)
theorem LogOk.snoc {l : List Entry} (h : LogOk l) (hl : l.length ≠ 40) {x : Entry} (hx : entOk x = true) (hle : lastEp l ≤ x.Epoch) : LogOk (l ++ [x]) := by
  have hlen := h.len
  refine ⟨fun i j y z hy hz hij => ?_, by simp; omega, fun i y hy => ?_⟩
  · rcases Nat.lt_or_ge j l.length with hj | hj
    · rw [List.getElem?_append_left hj] at hz
      rw [List.getElem?_append_left (by omega)] at hy
      exact h.ris i j y z hy hz hij
    · have hj2 := (List.getElem?_eq_some_iff.1 hz).1
      have : j = l.length := by simp at hj2; omega
      subst this
      rw [List.getElem?_append_right (Nat.le_refl _)] at hz
      simp at hz
      subst hz
      rcases Nat.lt_or_ge i l.length with hi | hi
      · rw [List.getElem?_append_left hi] at hy
        have hq := List.getElem?_eq_getElem (show l.length - 1 < l.length by omega)
        have := h.ris _ _ _ _ hy hq (by omega)
        unfold lastEp at hle
        rw [if_neg (by omega), epAt_of hq] at hle
        omega
      · have : i = l.length := by omega
        subst this
        rw [List.getElem?_append_right (Nat.le_refl _)] at hy
        simp at hy
        rw [hy]; exact Int.le_refl _
  · rcases Nat.lt_or_ge i l.length with hi | hi
    · rw [List.getElem?_append_left hi] at hy
      exact h.ok i y hy
    · have hj2 := (List.getElem?_eq_some_iff.1 hy).1
      have : i = l.length := by simp at hj2; omega
      subst this
      rw [List.getElem?_append_right (Nat.le_refl _)] at hy
      simp at hy
      rw [← hy]; exact hx
theorem Hist.snoc {H : Int → List Entry} {l : List Entry} (h : Hist H l) {x : Entry} (hx : (H x.Epoch).take (l.length + 1) = l ++ [x]) : Hist H (l ++ [x]) := fun i y hy => by
  rcases Nat.lt_or_ge i l.length with hi | hi
  · rw [List.getElem?_append_left hi] at hy
    rw [List.take_append_of_le_length (by omega)]
    exact h i y hy
  · have hj2 := (List.getElem?_eq_some_iff.1 hy).1
    have : i = l.length := by simp at hj2; omega
    subst this
    rw [List.getElem?_append_right (Nat.le_refl _)] at hy
    simp at hy
    subst hy
    rw [hx, List.take_of_length_le (by simp)]
end Pl
end Go.Proofs.Ytkhchfbpmmiopaa

/-
  Plain functions: replication: the steps, what every state that is played meets. No program in sight. No conditions.
-/
namespace Go.Proofs.Ytkhchfbpmmiopaa
namespace Pl
def logAt (r : Repl) (k : Int) : List Entry := r.Logs.getD k.toNat []
def downAt (r : Repl) (k : Int) : Bool := r.Down.getD k.toNat false
theorem logAt_of {r : Repl} {k : Int} {l : List Entry} (h : r.Logs[k.toNat]? = some l) : logAt r k = l := by
  unfold logAt; rw [List.getD_eq_getElem?_getD, h]; rfl
theorem downAt_of {r : Repl} {k : Int} {b : Bool} (h : r.Down[k.toNat]? = some b) : downAt r k = b := by
  unfold downAt; rw [List.getD_eq_getElem?_getD, h]; rfl
def hasI (l : List Int) (k : Int) : Bool := l.any (fun x => x == k)
theorem hasI_iff {l : List Int} {k : Int} : hasI l k = true ↔ k ∈ l := by
  unfold hasI; rw [List.any_eq_true]
  exact ⟨fun ⟨x, hx, he⟩ => by rw [← beq_iff_eq.1 he]; exact hx, fun h => ⟨k, h, by simp⟩⟩
/-- how many entries all nodes of a list have as the leader has them, no more than so many -/
def certF (r : Repl) (n : Nat) (l : List Int) : Nat := l.foldl (fun n k => min n (part (logAt r r.Leader) (logAt r k))) n
def certain (r : Repl) : Nat := certF r (logAt r r.Leader).length r.InSync
theorem certF_snoc (r : Repl) (n : Nat) (l : List Int) (k : Int) : certF r n (l ++ [k]) = min (certF r n l) (part (logAt r r.Leader) (logAt r k)) := by
  unfold certF; rw [List.foldl_append]; rfl
theorem certF_le (r : Repl) : ∀ (l : List Int) (n : Nat), certF r n l ≤ n ∧ ∀ k, k ∈ l → certF r n l ≤ part (logAt r r.Leader) (logAt r k)
  | [], n => ⟨Nat.le_refl _, fun k h => by cases h⟩
  | k :: t, n => by
    have h := certF_le r t (min n (part (logAt r r.Leader) (logAt r k)))
    show certF r (min n _) t ≤ n ∧ ∀ j, j ∈ k :: t → certF r (min n _) t ≤ _
    refine ⟨by omega, fun j hj => ?_⟩
    rcases List.mem_cons.1 hj with rfl | hj
    · omega
    · exact h.2 j hj
theorem certF_ge (r : Repl) : ∀ (l : List Int) (n m : Nat), m ≤ n → (∀ k, k ∈ l → m ≤ part (logAt r r.Leader) (logAt r k)) → m ≤ certF r n l
  | [], n, m, h, _ => h
  | k :: t, n, m, h, hk => certF_ge r t (min n (part (logAt r r.Leader) (logAt r k))) m (by have := hk k (by simp); omega) (fun j hj => hk j (by simp [hj]))
/-- the start does not matter, where the leader is in the list -/
theorem certF_start (r : Repl) {l : List Int} (hl : r.Leader ∈ l) {n : Nat} (hn : (logAt r r.Leader).length ≤ n) : certF r n l = certF r (logAt r r.Leader).length l := by
  have h1 := certF_le r l n
  have h2 := certF_le r l (logAt r r.Leader).length
  have h3 := h1.2 _ hl
  rw [part_self] at h3
  exact Nat.le_antisymm (certF_ge r l _ _ h3 h1.2) (certF_ge r l _ _ (by omega) h2.2)
def rfetch (r : Repl) (k : Int) : Repl := { r with Logs := r.Logs.set k.toNat (fetchL (logAt r k) (logAt r r.Leader)) }
def outI (l : List Int) (k : Int) : List Int := l.filter (fun x => x != k)
def insI (l : List Int) (k : Int) : List Int := l.filter (fun x => decide (x < k)) ++ k :: l.filter (fun x => decide (k < x))
def sameLog (r : Repl) (k : Int) : Bool := decide ((logAt r k).length = (logAt r r.Leader).length) && decide (part (logAt r k) (logAt r r.Leader) = (logAt r r.Leader).length)
theorem sameLog_iff {r : Repl} {k : Int} : sameLog r k = true ↔ logAt r k = logAt r r.Leader := by
  unfold sameLog
  rw [Bool.and_eq_true, decide_eq_true_eq, decide_eq_true_eq]
  constructor
  · rintro ⟨h1, h2⟩
    have := part_full.1 h2
    exact (this.eq_of_length h1.symm).symm
  · intro h
    rw [h]; exact ⟨rfl, part_self _⟩
def rdo (r : Repl) (s : ReplStep) : Repl × Bool :=
  if s.Kind = 1 then
    if s.Node = 0 ∧ downAt r r.Leader = false ∧ s.Text.size ≤ 20 ∧ (logAt r r.Leader).length ≠ 40 ∧ lastEp (logAt r r.Leader) ≤ r.Epoch then
      ({ r with Logs := r.Logs.set r.Leader.toNat (logAt r r.Leader ++ [⟨r.Epoch, s.Text⟩]) }, true) else (r, false)
  else if s.Text.size ≠ 0 ∨ s.Node < 0 ∨ (r.Logs.length : Int) ≤ s.Node then (r, false)
  else if s.Kind = 2 then (if s.Node ≠ r.Leader ∧ downAt r r.Leader = false ∧ downAt r s.Node = false then (rfetch r s.Node, true) else (r, false))
  else if s.Kind = 3 then (if hasI r.InSync s.Node = true ∧ s.Node ≠ r.Leader ∧ downAt r r.Leader = false then ({ r with InSync := outI r.InSync s.Node }, true) else (r, false))
  else if s.Kind = 4 then (if hasI r.InSync s.Node = false ∧ downAt r r.Leader = false ∧ sameLog r s.Node = true then ({ r with InSync := insI r.InSync s.Node }, true) else (r, false))
  else if s.Kind = 5 then (if downAt r s.Node = false then ({ r with Down := r.Down.set s.Node.toNat true }, true) else (r, false))
  else if s.Kind = 6 then (if downAt r s.Node = true then ({ r with Down := r.Down.set s.Node.toNat false }, true) else (r, false))
  else if s.Kind = 7 then (if hasI r.InSync s.Node = true ∧ downAt r s.Node = false ∧ r.Epoch < 1000 then ({ r with Leader := s.Node, Epoch := r.Epoch + 1 }, true) else (r, false))
  else (r, false)
def rcert (r : Repl) : Repl := { r with Certain := if r.Certain.length < certain r then (logAt r r.Leader).take (certain r) else r.Certain }
def rstep (r : Repl) (s : ReplStep) : Repl × Bool := if (rdo r s).2 = true then (rcert (rdo r s).1, true) else (r, false)
/-- what a step asks of a state: what isRepl tells -/
structure RW (r : Repl) : Prop where
  n1 : 1 ≤ r.Logs.length
  n5 : r.Logs.length ≤ 5
  down : r.Down.length = r.Logs.length
  lead : 0 ≤ r.Leader ∧ r.Leader < r.Logs.length
  epoch : 1 ≤ r.Epoch ∧ r.Epoch ≤ 1000
  sync : r.InSync.Pairwise (· < ·)
  syncIn : ∀ k, k ∈ r.InSync → 0 ≤ k ∧ k < r.Logs.length
  leadIn : r.Leader ∈ r.InSync
  logs : ∀ (k : Nat) (l : List Entry), r.Logs[k]? = some l → LogOk l
  cert : ∀ k, k ∈ r.InSync → r.Certain <+: logAt r k
theorem RW.at_ {r : Repl} (_h : RW r) {k : Int} (h0 : 0 ≤ k) (h1 : k < r.Logs.length) : r.Logs[k.toNat]? = some (logAt r k) := by
  have hx := List.getElem?_eq_getElem (show k.toNat < r.Logs.length by omega)
  rw [logAt_of hx]; exact hx
theorem RW.ok {r : Repl} (h : RW r) {k : Int} (h0 : 0 ≤ k) (h1 : k < r.Logs.length) : LogOk (logAt r k) := h.logs _ _ (h.at_ h0 h1)
theorem RW.dat {r : Repl} (h : RW r) {k : Int} (h0 : 0 ≤ k) (h1 : k < r.Logs.length) : r.Down[k.toNat]? = some (downAt r k) := by
  have hx := List.getElem?_eq_getElem (show k.toNat < r.Down.length by have := h.down; omega)
  rw [downAt_of hx]; exact hx
theorem RW.certain_ge {r : Repl} (h : RW r) : r.Certain.length ≤ certain r := by
  have hc := h.cert _ h.leadIn
  refine certF_ge r _ _ _ hc.length_le fun k hk => ?_
  have h1 := List.prefix_iff_eq_take.1 hc
  have h2 := List.prefix_iff_eq_take.1 (h.cert k hk)
  exact part_ge _ _ _ hc.length_le (h.cert k hk).length_le (by rw [← h1, ← h2])
theorem mem_outI {l : List Int} {k x : Int} : x ∈ outI l k ↔ x ∈ l ∧ x ≠ k := by unfold outI; rw [List.mem_filter, bne_iff_ne]
theorem mem_insI {l : List Int} {k x : Int} : x ∈ insI l k ↔ x = k ∨ (x ∈ l ∧ x ≠ k) := by
  unfold insI
  rw [List.mem_append, List.mem_cons, List.mem_filter, List.mem_filter, decide_eq_true_eq, decide_eq_true_eq]
  constructor
  · rintro (⟨h1, h2⟩ | h | ⟨h1, h2⟩)
    · exact .inr ⟨h1, by omega⟩
    · exact .inl h
    · exact .inr ⟨h1, by omega⟩
  · rintro (h | ⟨h1, h2⟩)
    · exact .inr (.inl h)
    · rcases Int.lt_or_gt_of_ne h2 with h | h
      · exact .inl ⟨h1, h⟩
      · exact .inr (.inr ⟨h1, h⟩)
theorem insI_sorted {l : List Int} (h : l.Pairwise (· < ·)) (k : Int) : (insI l k).Pairwise (· < ·) := by
  unfold insI
  refine List.pairwise_append.2 ⟨h.filter _, List.pairwise_cons.2 ⟨fun x hx => ?_, h.filter _⟩, fun x hx y hy => ?_⟩
  · simpa using (List.mem_filter.1 hx).2
  · have h1 : x < k := by simpa using (List.mem_filter.1 hx).2
    rcases List.mem_cons.1 hy with rfl | hy
    · exact h1
    · have : k < y := by simpa using (List.mem_filter.1 hy).2
      omega
/-- what every state that is played meets -/
structure RInv (r : Repl) : Prop where
  rw : RW r
  hist : ∃ H : Int → List Entry, (∀ (k : Nat) (l : List Entry), r.Logs[k]? = some l → Hist H l) ∧ H r.Epoch = logAt r r.Leader
  ep : ∀ (k : Nat) (l : List Entry), r.Logs[k]? = some l → ∀ x, x ∈ l → x.Epoch ≤ r.Epoch
  cert : certain r = r.Certain.length
theorem get_set_cases {α : Type} {l : List α} {k j : Nat} {x a : α} (h : (l.set k x)[j]? = some a) : (k = j ∧ a = x ∧ k < l.length) ∨ (k ≠ j ∧ l[j]? = some a) := by
  by_cases hkj : k = j
  · subst hkj
    have hk : k < l.length := by have := (List.getElem?_eq_some_iff.1 h).1; rwa [List.length_set] at this
    rw [List.getElem?_set_self hk] at h
    injection h with h
    exact .inl ⟨rfl, h.symm, hk⟩
  · rw [List.getElem?_set_ne hkj] at h
    exact .inr ⟨hkj, h⟩
theorem logAt_set {r : Repl} {L : List (List Entry)} {k j : Int} {x : List Entry} (hL : r.Logs = L.set k.toNat x) (hk : k.toNat < L.length) : logAt r j = if k.toNat = j.toNat then x else L.getD j.toNat [] := by
  unfold logAt
  rw [hL, List.getD_eq_getElem?_getD, List.getD_eq_getElem?_getD]
  split
  · rename_i h
    rw [← h, List.getElem?_set_self hk]; rfl
  · rename_i h
    rw [List.getElem?_set_ne h]
/-- the certain entries told anew: what is asked of a state ahead of it -/
structure RPre (r : Repl) : Prop where
  rw : RW r
  hist : ∃ H : Int → List Entry, (∀ (k : Nat) (l : List Entry), r.Logs[k]? = some l → Hist H l) ∧ H r.Epoch = logAt r r.Leader
  ep : ∀ (k : Nat) (l : List Entry), r.Logs[k]? = some l → ∀ x, x ∈ l → x.Epoch ≤ r.Epoch
theorem rcert_eq {r : Repl} (h : RW r) : (rcert r).Certain = (logAt r r.Leader).take (certain r) ∧ r.Certain <+: (rcert r).Certain := by
  have h1 := h.certain_ge
  have hc := h.cert _ h.leadIn
  have e : (rcert r).Certain = (logAt r r.Leader).take (certain r) := by
    show (if _ then _ else _) = _
    split
    · rfl
    · have : certain r = r.Certain.length := by omega
      rw [this]; exact List.prefix_iff_eq_take.1 hc
  refine ⟨e, ?_⟩
  rw [e]
  rw [List.prefix_iff_eq_take.1 hc]
  exact List.take_prefix_take_left h1
theorem RPre.inv {r : Repl} (h : RPre r) : RInv (rcert r) := by
  have hw := h.rw
  have e := rcert_eq hw
  have hcl := certF_le r r.InSync (logAt r r.Leader).length
  refine ⟨⟨hw.n1, hw.n5, hw.down, hw.lead, hw.epoch, hw.sync, hw.syncIn, hw.leadIn, hw.logs, fun k hk => ?_⟩, h.hist, h.ep, ?_⟩
  · show (rcert r).Certain <+: logAt r k
    rw [e.1]
    have h1 : certain r ≤ _ := hcl.2 k hk
    have h2 := part_take (logAt r r.Leader) (logAt r k)
    have h3 : (logAt r r.Leader).take (certain r) = (logAt r k).take (certain r) := by
      have := congrArg (List.take (certain r)) h2
      rwa [List.take_take, List.take_take, Nat.min_eq_left h1] at this
    rw [h3]
    exact List.take_prefix _ _
  · show certain r = (rcert r).Certain.length
    rw [e.1, List.length_take]
    have : certain r ≤ (logAt r r.Leader).length := hcl.1
    omega
theorem RInv.do_ {r : Repl} (h : RInv r) (s : ReplStep) (hok : (rdo r s).2 = true) : RPre (rdo r s).1 ∧ (rdo r s).1.Certain = r.Certain := by
  obtain ⟨hw, ⟨H, hH, hE⟩, hep, hcert⟩ := h
  have hlat := hw.at_ hw.lead.1 hw.lead.2
  have hlen := (List.getElem?_eq_some_iff.1 hlat).1
  have HIST : ∀ (k : Int), 0 ≤ k → k < r.Logs.length → Hist H (logAt r k) := fun k h0 h1 => hH _ _ (hw.at_ h0 h1)
  unfold rdo at hok ⊢
  by_cases h1 : s.Kind = 1
  · rw [if_pos h1] at hok ⊢
    by_cases h2 : s.Node = 0 ∧ downAt r r.Leader = false ∧ s.Text.size ≤ 20 ∧ (logAt r r.Leader).length ≠ 40 ∧ lastEp (logAt r r.Leader) ≤ r.Epoch
    · rw [if_pos h2]
      obtain ⟨_, _, g1, g2, g3⟩ := h2
      have hxo : entOk ⟨r.Epoch, s.Text⟩ = true := by unfold entOk isIn; simp; exact ⟨hw.epoch, g1⟩
      have hL : LogOk (logAt r r.Leader ++ [⟨r.Epoch, s.Text⟩]) := (hw.ok hw.lead.1 hw.lead.2).snoc g2 hxo g3
      have hset : ∀ j : Int, 0 ≤ j → logAt { r with Logs := r.Logs.set r.Leader.toNat (logAt r r.Leader ++ [⟨r.Epoch, s.Text⟩]) } j = if r.Leader = j then logAt r r.Leader ++ [⟨r.Epoch, s.Text⟩] else logAt r j := fun j hj => by
        rw [logAt_set (r := { r with Logs := r.Logs.set r.Leader.toNat _ }) rfl hlen]
        by_cases e : r.Leader = j
        · rw [if_pos (by rw [e]), if_pos e]
        · rw [if_neg (by have := hw.lead; omega), if_neg e]; rfl
      refine ⟨⟨⟨by simpa using hw.n1, by simpa using hw.n5, by simpa using hw.down, by simpa using hw.lead, hw.epoch, hw.sync, by simpa using hw.syncIn, hw.leadIn, fun k l hl => ?_, fun k hk => ?_⟩, ⟨fun e => if e = r.Epoch then logAt r r.Leader ++ [⟨r.Epoch, s.Text⟩] else H e, fun k l hl => ?_, ?_⟩, fun k l hl x hx => ?_⟩, rfl⟩
      · rcases get_set_cases hl with ⟨_, rfl, _⟩ | ⟨_, hl⟩
        · exact hL
        · exact hw.logs k l hl
      · show r.Certain <+: _
        rw [hset k (hw.syncIn k hk).1]
        split
        · rename_i e
          subst e
          exact (hw.cert _ hk).trans (List.prefix_append _ _)
        · exact hw.cert k hk
      · have old : ∀ l, Hist H l → Hist (fun e => if e = r.Epoch then logAt r r.Leader ++ [⟨r.Epoch, s.Text⟩] else H e) l := fun l hl i x hx => by
          have h5 := hl i x hx
          show l.take (i + 1) = (if x.Epoch = r.Epoch then _ else _ : List Entry).take (i + 1)
          split
          · rename_i e
            rw [e, hE] at h5
            have hi := (List.getElem?_eq_some_iff.1 hx).1
            have h6 := congrArg List.length h5
            rw [List.length_take, List.length_take] at h6
            rw [List.take_append_of_le_length (by omega)]
            exact h5
          · exact h5
        rcases get_set_cases hl with ⟨_, rfl, _⟩ | ⟨_, hl⟩
        · refine (old _ (hH _ _ hlat)).snoc ?_
          show (if r.Epoch = r.Epoch then _ else _ : List Entry).take _ = _
          rw [if_pos rfl, List.take_of_length_le (by simp)]
        · exact old l (hH k l hl)
      · show (if r.Epoch = r.Epoch then _ else _ : List Entry) = logAt _ r.Leader
        rw [if_pos rfl, hset _ hw.lead.1, if_pos rfl]
      · rcases get_set_cases hl with ⟨_, rfl, _⟩ | ⟨_, hl⟩
        · rcases List.mem_append.1 hx with hx | hx
          · exact hep _ _ hlat x hx
          · rw [List.mem_singleton.1 hx]; exact Int.le_refl _
        · exact hep k l hl x hx
    · rw [if_neg h2] at hok; cases hok
  rw [if_neg h1] at hok ⊢
  by_cases h2 : s.Text.size ≠ 0 ∨ s.Node < 0 ∨ (r.Logs.length : Int) ≤ s.Node
  · rw [if_pos h2] at hok; cases hok
  rw [if_neg h2] at hok ⊢
  have hk0 : 0 ≤ s.Node := by omega
  have hk1 : s.Node < r.Logs.length := by omega
  by_cases h3 : s.Kind = 2
  · rw [if_pos h3] at hok ⊢
    by_cases h4 : s.Node ≠ r.Leader ∧ downAt r r.Leader = false ∧ downAt r s.Node = false
    · rw [if_pos h4]
      have ho := hw.ok hk0 hk1
      have hlo := hw.ok hw.lead.1 hw.lead.2
      have hkn : s.Node.toNat < r.Logs.length := by omega
      have hf : fetchL (logAt r s.Node) (logAt r r.Leader) = (logAt r r.Leader).take (ffind (logAt r s.Node) (logAt r r.Leader) + 1) := fetchL_take (HIST _ hk0 hk1) (HIST _ hw.lead.1 hw.lead.2) ho.ris hlo.ris
      have hset : ∀ j : Int, 0 ≤ j → logAt (rfetch r s.Node) j = if s.Node = j then fetchL (logAt r s.Node) (logAt r r.Leader) else logAt r j := fun j hj => by
        rw [logAt_set (r := rfetch r s.Node) rfl hkn]
        by_cases e : s.Node = j
        · rw [if_pos (by rw [e]), if_pos e]
        · rw [if_neg (by omega), if_neg e]; rfl
      refine ⟨⟨⟨by simpa [rfetch] using hw.n1, by simpa [rfetch] using hw.n5, by simpa [rfetch] using hw.down, by simpa [rfetch] using hw.lead, hw.epoch, hw.sync, by simpa [rfetch] using hw.syncIn, hw.leadIn, fun k l hl => ?_, fun k hk => ?_⟩, ⟨H, fun k l hl => ?_, ?_⟩, fun k l hl x hx => ?_⟩, rfl⟩
      · rcases get_set_cases hl with ⟨_, rfl, _⟩ | ⟨_, hl⟩
        · rw [hf]; exact hlo.take _
        · exact hw.logs k l hl
      · show r.Certain <+: _
        rw [hset k (hw.syncIn k hk).1]
        split
        · rename_i e
          subst e
          rw [hf]
          have h5 := ffind_ge ho.ris hlo.ris (hw.cert _ hk) (hw.cert _ hw.leadIn)
          rw [List.prefix_iff_eq_take.1 (hw.cert _ hw.leadIn)]
          exact List.take_prefix_take_left (by omega)
        · exact hw.cert k hk
      · rcases get_set_cases hl with ⟨_, rfl, _⟩ | ⟨_, hl⟩
        · rw [hf]; exact (HIST _ hw.lead.1 hw.lead.2).take _
        · exact hH k l hl
      · show H r.Epoch = logAt (rfetch r s.Node) r.Leader
        rw [hset _ hw.lead.1, if_neg h4.1]; exact hE
      · rcases get_set_cases hl with ⟨_, rfl, _⟩ | ⟨_, hl⟩
        · rw [hf] at hx
          exact hep _ _ hlat x (List.mem_of_mem_take hx)
        · exact hep k l hl x hx
    · rw [if_neg h4] at hok; cases hok
  rw [if_neg h3] at hok ⊢
  by_cases h4 : s.Kind = 3
  · rw [if_pos h4] at hok ⊢
    by_cases h5 : hasI r.InSync s.Node = true ∧ s.Node ≠ r.Leader ∧ downAt r r.Leader = false
    · rw [if_pos h5]
      exact ⟨⟨⟨hw.n1, hw.n5, hw.down, hw.lead, hw.epoch, hw.sync.filter _, fun k hk => hw.syncIn k (mem_outI.1 hk).1, mem_outI.2 ⟨hw.leadIn, fun e => h5.2.1 e.symm⟩, hw.logs, fun k hk => hw.cert k (mem_outI.1 hk).1⟩, ⟨H, hH, hE⟩, hep⟩, rfl⟩
    · rw [if_neg h5] at hok; cases hok
  rw [if_neg h4] at hok ⊢
  by_cases h5 : s.Kind = 4
  · rw [if_pos h5] at hok ⊢
    by_cases h6 : hasI r.InSync s.Node = false ∧ downAt r r.Leader = false ∧ sameLog r s.Node = true
    · rw [if_pos h6]
      have hs := sameLog_iff.1 h6.2.2
      refine ⟨⟨⟨hw.n1, hw.n5, hw.down, hw.lead, hw.epoch, insI_sorted hw.sync _, fun k hk => ?_, mem_insI.2 ?_, hw.logs, fun k hk => ?_⟩, ⟨H, hH, hE⟩, hep⟩, rfl⟩
      · rcases mem_insI.1 hk with rfl | h
        · exact ⟨hk0, hk1⟩
        · exact hw.syncIn k h.1
      · by_cases e : r.Leader = s.Node
        · exact .inl e
        · exact .inr ⟨hw.leadIn, e⟩
      · show r.Certain <+: logAt r k
        rcases mem_insI.1 hk with rfl | h
        · rw [hs]; exact hw.cert _ hw.leadIn
        · exact hw.cert k h.1
    · rw [if_neg h6] at hok; cases hok
  rw [if_neg h5] at hok ⊢
  by_cases h6 : s.Kind = 5
  · rw [if_pos h6] at hok ⊢
    by_cases h7 : downAt r s.Node = false
    · rw [if_pos h7]
      exact ⟨⟨⟨hw.n1, hw.n5, by simpa using hw.down, hw.lead, hw.epoch, hw.sync, hw.syncIn, hw.leadIn, hw.logs, hw.cert⟩, ⟨H, hH, hE⟩, hep⟩, rfl⟩
    · rw [if_neg h7] at hok; cases hok
  rw [if_neg h6] at hok ⊢
  by_cases h7 : s.Kind = 6
  · rw [if_pos h7] at hok ⊢
    by_cases h8 : downAt r s.Node = true
    · rw [if_pos h8]
      exact ⟨⟨⟨hw.n1, hw.n5, by simpa using hw.down, hw.lead, hw.epoch, hw.sync, hw.syncIn, hw.leadIn, hw.logs, hw.cert⟩, ⟨H, hH, hE⟩, hep⟩, rfl⟩
    · rw [if_neg h8] at hok; cases hok
  rw [if_neg h7] at hok ⊢
  by_cases h8 : s.Kind = 7
  · rw [if_pos h8] at hok ⊢
    by_cases h9 : hasI r.InSync s.Node = true ∧ downAt r s.Node = false ∧ r.Epoch < 1000
    · rw [if_pos h9]
      refine ⟨⟨⟨hw.n1, hw.n5, hw.down, ⟨hk0, hk1⟩, by have := hw.epoch; have := h9.2.2; show 1 ≤ r.Epoch + 1 ∧ r.Epoch + 1 ≤ 1000; omega, hw.sync, hw.syncIn, hasI_iff.1 h9.1, hw.logs, hw.cert⟩, ⟨fun e => if e = r.Epoch + 1 then logAt r s.Node else H e, fun k l hl i x hx => ?_, ?_⟩, fun k l hl x hx => ?_⟩, rfl⟩
      · have h10 := hep k l hl x (List.mem_of_getElem? hx)
        show l.take (i + 1) = (if x.Epoch = r.Epoch + 1 then _ else _ : List Entry).take (i + 1)
        rw [if_neg (by omega)]
        exact hH k l hl i x hx
      · show (if r.Epoch + 1 = r.Epoch + 1 then _ else _ : List Entry) = logAt r s.Node
        rw [if_pos rfl]
      · have := hep k l hl x hx
        show x.Epoch ≤ r.Epoch + 1
        omega
    · rw [if_neg h9] at hok; cases hok
  rw [if_neg h8] at hok; cases hok
theorem rstep_no {r : Repl} {s : ReplStep} (h : (rstep r s).2 = false) : (rstep r s).1 = r := by
  unfold rstep at *
  split
  · rename_i h1; rw [if_pos h1] at h; cases h
  · rfl
theorem RInv.step {r : Repl} (h : RInv r) (s : ReplStep) : RInv (rstep r s).1 ∧ r.Certain <+: (rstep r s).1.Certain := by
  unfold rstep
  split
  · rename_i hok
    obtain ⟨h1, h2⟩ := h.do_ s hok
    refine ⟨h1.inv, ?_⟩
    have := (rcert_eq h1.rw).2
    rw [h2] at this
    exact this
  · exact ⟨h, List.prefix_refl _⟩
/-- a new state -/
def newRe (n : Nat) : Repl := ⟨List.replicate n [], List.replicate n false, 0, 1, (List.range n).map (fun k : Nat => (k : Int)), []⟩
theorem newRe_inv {n : Nat} (h1 : 1 ≤ n) (h5 : n ≤ 5) : RInv (newRe n) := by
  have hl : ∀ (k : Nat) (l : List Entry), (newRe n).Logs[k]? = some l → l = [] := fun k l hl => by
    have := List.mem_of_getElem? hl
    exact (List.mem_replicate.1 this).2
  have hla : ∀ k, logAt (newRe n) k = [] := fun k => by
    unfold logAt
    rw [List.getD_eq_getElem?_getD]
    cases h : (newRe n).Logs[k.toNat]? with
    | none => rfl
    | some l => rw [hl _ _ h]; rfl
  refine ⟨⟨by simpa [newRe] using h1, by simpa [newRe] using h5, by simp [newRe], by simp [newRe]; omega, by simp [newRe], ?_, fun k hk => ?_, ?_, (fun k l h => by rw [hl k l h]; exact LogOk.nil), fun k hk => List.nil_prefix⟩, ⟨fun _ => [], (fun k l h i x hx => by rw [hl k l h] at hx; simp at hx), by rw [hla]⟩, (fun k l h x hx => by rw [hl k l h] at hx; cases hx), ?_⟩
  · show ((List.range n).map (fun k : Nat => (k : Int))).Pairwise (· < ·)
    rw [List.pairwise_map]
    exact List.pairwise_lt_range.imp (by intro a b h; omega)
  · obtain ⟨j, hj, rfl⟩ := List.mem_map.1 hk
    have := List.mem_range.1 hj
    simp [newRe]; omega
  · exact List.mem_map.2 ⟨0, List.mem_range.2 (by omega), rfl⟩
  · show certain (newRe n) = 0
    have := (certF_le (newRe n) (newRe n).InSync (logAt (newRe n) (newRe n).Leader).length).1
    rw [hla] at this
    unfold certain
    rw [hla]
    simpa using this
def playR (r : Repl) (l : List ReplStep) : Repl × List Bool := l.foldl (fun p s => ((rstep p.1 s).1, p.2 ++ [(rstep p.1 s).2])) (r, [])
theorem playR_nil (r : Repl) : playR r [] = (r, []) := rfl
theorem playR_snoc (r : Repl) (l : List ReplStep) (s : ReplStep) : playR r (l ++ [s]) = ((rstep (playR r l).1 s).1, (playR r l).2 ++ [(rstep (playR r l).1 s).2]) := by
  unfold playR; rw [List.foldl_append]; rfl
theorem playR_inv (r : Repl) (h : RInv r) : ∀ n (l : List ReplStep), l.length = n → RInv (playR r l).1 ∧ (playR r l).2.length = n
  | 0, l, hl => by
    rw [List.length_eq_zero_iff.1 hl]
    exact ⟨h, rfl⟩
  | n + 1, l, hl => by
    rcases List.eq_nil_or_concat l with rfl | ⟨l', s, rfl⟩
    · cases hl
    · rw [List.concat_eq_append] at hl ⊢
      have ih := playR_inv r h n l' (by simpa using hl)
      rw [playR_snoc]
      exact ⟨(ih.1.step s).1, by simp [ih.2]⟩
/-- what was certain still is -/
theorem playR_pre (r : Repl) (h : RInv r) : ∀ m l : List ReplStep, (playR r l).1.Certain <+: (playR r (l ++ m)).1.Certain
  | [], l => by simp
  | s :: m, l => by
    have h1 := playR_pre r h m (l ++ [s])
    rw [List.append_assoc, List.singleton_append] at h1
    refine List.IsPrefix.trans ?_ h1
    rw [playR_snoc]
    exact ((playR_inv r h _ l rfl).1.step s).2
/-- logs have one history -/
theorem RInv.match_ {r : Repl} (h : RInv r) {i k : Nat} {a b : List Entry} (ha : r.Logs[i]? = some a) (hb : r.Logs[k]? = some b) :
    (∀ (j : Nat) (x y : Entry), a[j]? = some x → b[j]? = some y → x.Epoch = y.Epoch → j < part a b) ∧
    ∀ s t, s ∈ starts a → t ∈ starts b → s.Epoch = t.Epoch → s.At = t.At := by
  obtain ⟨H, hH, _⟩ := h.hist
  have h1 := hH i a ha
  have h2 := hH k b hb
  have g1 := (h.rw.logs i a ha).ris
  have g2 := (h.rw.logs k b hb).ris
  refine ⟨fun j x y hx hy he => ?_, fun s t hs ht he => ?_⟩
  · have e1 := (List.getElem?_eq_some_iff.1 hx).1
    have e2 := (List.getElem?_eq_some_iff.1 hy).1
    have := part_ge a b (j + 1) (by omega) (by omega) (hist_same h1 h2 hx hy he)
    omega
  · obtain ⟨p, q1, q2, rfl⟩ := startsTo_mem.1 hs
    obtain ⟨p', q3, q4, rfl⟩ := startsTo_mem.1 ht
    have x1 := List.getElem?_eq_getElem q1
    have x2 := List.getElem?_eq_getElem q3
    have he' : epAt a p = epAt b p' := he
    rw [epAt_of x1, epAt_of x2] at he'
    have := hist_start h1 h2 g1 g2 x1 x2 he' q2 q4
    show (p : Int) = p'
    omega
end Pl
end Go.Proofs.Ytkhchfbpmmiopaa

/-
  Plain functions: entries that are good; rising numbers. No program in sight. No conditions.
-/
namespace Go.Proofs.Ytkhchfbpmmiopaa
namespace Pl
def entsP (l : List Entry) (k : Nat) : Bool := entOk (l.getD k zEn) && (decide (k = 0) || decide (epAt l (k - 1) ≤ epAt l k))
def entsOk (l : List Entry) : Bool := allB l.length (entsP l) && decide (l.length ≤ 40)
theorem entsP_of {l : List Entry} {k : Nat} {x : Entry} (h : l[k]? = some x) : entsP l k = (entOk x && (decide (k = 0) || decide (epAt l (k - 1) ≤ x.Epoch))) := by
  unfold entsP
  rw [epAt_of h, List.getD_eq_getElem?_getD, h]; rfl
theorem entsOk_iff {l : List Entry} : entsOk l = true ↔ LogOk l := by
  unfold entsOk
  rw [Bool.and_eq_true, decide_eq_true_eq, allB_iff]
  constructor
  · rintro ⟨h, h40⟩
    have h1 : ∀ (k : Nat) (x : Entry), l[k]? = some x → entOk x = true ∧ (0 < k → epAt l (k - 1) ≤ x.Epoch) := fun k x hx => by
      have h2 := h k (List.getElem?_eq_some_iff.1 hx).1
      rw [entsP_of hx, Bool.and_eq_true, Bool.or_eq_true, decide_eq_true_eq, decide_eq_true_eq] at h2
      exact ⟨h2.1, fun h0 => h2.2.resolve_left (by omega)⟩
    refine ⟨fun i j x y hx hy hij => ?_, h40, fun i x hx => (h1 i x hx).1⟩
    obtain ⟨d, rfl⟩ : ∃ d, j = i + d := ⟨j - i, by omega⟩
    clear hij
    induction d generalizing y with
    | zero => rw [Nat.add_zero, hx] at hy; injection hy with hy; rw [hy]; exact Int.le_refl _
    | succ d ih =>
      have hj := (List.getElem?_eq_some_iff.1 hy).1
      have hz := List.getElem?_eq_getElem (show i + d < l.length by omega)
      have h3 := ih _ hz
      have h4 := (h1 _ y hy).2 (by omega)
      rw [show i + (d + 1) - 1 = i + d by omega, epAt_of hz] at h4
      omega
  · intro h
    refine ⟨fun k hk => ?_, h.len⟩
    have hx := List.getElem?_eq_getElem hk
    rw [entsP_of hx, Bool.and_eq_true, Bool.or_eq_true, decide_eq_true_eq, decide_eq_true_eq]
    refine ⟨h.ok k _ hx, ?_⟩
    rcases Nat.eq_zero_or_pos k with h0 | h0
    · exact .inl h0
    · have hz := List.getElem?_eq_getElem (show k - 1 < l.length by omega)
      rw [epAt_of hz]
      exact .inr (h.ris _ _ _ _ hz hx (by omega))
/-- rising numbers from 0 on, all below n -/
def risP (n : Int) (l : List Int) (k : Nat) : Bool := isIn (l.getD k 0) 0 (n - 1) && (decide (k = 0) || decide (l.getD (k - 1) 0 < l.getD k 0))
def risI (n : Int) (l : List Int) : Bool := allB l.length (risP n l)
theorem risP_of {n : Int} {l : List Int} {k : Nat} {x : Int} (h : l[k]? = some x) : risP n l k = (isIn x 0 (n - 1) && (decide (k = 0) || decide (l.getD (k - 1) 0 < x))) := by
  have e : l.getD k 0 = x := by rw [List.getD_eq_getElem?_getD, h]; rfl
  unfold risP
  rw [e]
theorem risI_iff {n : Nat} {l : List Int} : risI n l = true ↔ l.Pairwise (· < ·) ∧ ∀ k, k ∈ l → 0 ≤ k ∧ k < n := by
  unfold risI
  rw [allB_iff]
  constructor
  · intro h
    have h1 : ∀ (k : Nat) (x : Int), l[k]? = some x → (0 ≤ x ∧ x < n) ∧ (0 < k → l.getD (k - 1) 0 < x) := fun k x hx => by
      have h2 := h k (List.getElem?_eq_some_iff.1 hx).1
      rw [risP_of hx, Bool.and_eq_true, Bool.or_eq_true, decide_eq_true_eq, decide_eq_true_eq, isIn_iff] at h2
      exact ⟨by omega, fun h0 => h2.2.resolve_left (by omega)⟩
    refine ⟨?_, fun k hk => by
      obtain ⟨i, hi⟩ := List.mem_iff_getElem?.1 hk
      exact (h1 i k hi).1⟩
    rw [List.pairwise_iff_getElem]
    intro i j hi hj hij
    obtain ⟨d, rfl⟩ : ∃ d, j = i + 1 + d := ⟨j - (i + 1), by omega⟩
    clear hij
    induction d with
    | zero =>
      have h4 := (h1 _ _ (List.getElem?_eq_getElem hj)).2 (by omega)
      have e : l.getD (i + 1 + 0 - 1) 0 = l[i] := by rw [List.getD_eq_getElem?_getD, show i + 1 + 0 - 1 = i by omega, List.getElem?_eq_getElem hi]; rfl
      rw [e] at h4
      exact h4
    | succ d ih =>
      have h3 := ih (by omega)
      have h4 := (h1 _ _ (List.getElem?_eq_getElem hj)).2 (by omega)
      have e : l.getD (i + 1 + (d + 1) - 1) 0 = l[i + 1 + d]'(by omega) := by rw [List.getD_eq_getElem?_getD, show i + 1 + (d + 1) - 1 = i + 1 + d by omega, List.getElem?_eq_getElem (by omega)]; rfl
      rw [e] at h4
      omega
  · rintro ⟨h, h2⟩ k hk
    have hx := List.getElem?_eq_getElem hk
    rw [risP_of hx, Bool.and_eq_true, Bool.or_eq_true, decide_eq_true_eq, decide_eq_true_eq, isIn_iff]
    have h3 := h2 _ (List.getElem_mem hk)
    refine ⟨by omega, ?_⟩
    rcases Nat.eq_zero_or_pos k with h0 | h0
    · exact .inl h0
    · right
      have e : l.getD (k - 1) 0 = l[k - 1]'(by omega) := by rw [List.getD_eq_getElem?_getD, List.getElem?_eq_getElem (by omega)]; rfl
      rw [e]
      exact List.pairwise_iff_getElem.1 h (k - 1) k (by omega) hk (by omega)
end Pl
end Go.Proofs.Ytkhchfbpmmiopaa

/-
  Plain functions: replication: what a good state is. No program in sight. No conditions.
-/
namespace Go.Proofs.Ytkhchfbpmmiopaa
namespace Pl
def certP (r : Repl) (k : Int) : Bool := decide (part (logAt r k) r.Certain = r.Certain.length)
def replA (r : Repl) : Bool := isIn r.Logs.length 1 5 && decide (r.Down.length = r.Logs.length) && isIn r.Leader 0 ((r.Logs.length : Int) - 1) && isIn r.Epoch 1 1000
def replOk (r : Repl) : Bool := replA r && risI r.Logs.length r.InSync && hasI r.InSync r.Leader && r.Logs.all entsOk && r.InSync.all (certP r)
theorem replA_iff {r : Repl} : replA r = true ↔ (1 ≤ r.Logs.length ∧ r.Logs.length ≤ 5) ∧ r.Down.length = r.Logs.length ∧ (0 ≤ r.Leader ∧ r.Leader < r.Logs.length) ∧ 1 ≤ r.Epoch ∧ r.Epoch ≤ 1000 := by
  unfold replA
  rw [Bool.and_eq_true, Bool.and_eq_true, Bool.and_eq_true, isIn_iff, isIn_iff, isIn_iff, decide_eq_true_eq]
  omega
theorem replOk_iff {r : Repl} : replOk r = true ↔ RW r := by
  unfold replOk
  rw [Bool.and_eq_true, Bool.and_eq_true, Bool.and_eq_true, Bool.and_eq_true, replA_iff, risI_iff, hasI_iff, List.all_eq_true, List.all_eq_true]
  constructor
  · rintro ⟨⟨⟨⟨h1, h2⟩, h3⟩, h4⟩, h5⟩
    exact ⟨h1.1.1, h1.1.2, h1.2.1, h1.2.2.1, h1.2.2.2, h2.1, h2.2, h3, fun k l hl => entsOk_iff.1 (h4 l (List.mem_of_getElem? hl)), fun k hk => part_full.1 (of_decide_eq_true (h5 k hk))⟩
  · intro h
    refine ⟨⟨⟨⟨⟨⟨h.n1, h.n5⟩, h.down, h.lead, h.epoch⟩, h.sync, h.syncIn⟩, h.leadIn⟩, fun l hl => ?_⟩, fun k hk => decide_eq_true (part_full.2 (h.cert k hk))⟩
    obtain ⟨i, hi⟩ := List.mem_iff_getElem?.1 hl
    exact entsOk_iff.2 (h.logs i l hi)
theorem RW.sync5 {r : Repl} (h : RW r) : r.InSync.length ≤ 5 := by
  have key : ∀ (l : List Int) (a b : Int), l.Pairwise (· < ·) → (∀ x, x ∈ l → a ≤ x ∧ x < b) → a ≤ b → (l.length : Int) ≤ b - a := by
    intro l
    induction l with
    | nil => intro a b _ _ h; simp; omega
    | cons x t ih =>
      intro a b hp hx hab
      have h1 := hx x (by simp)
      have h2 := List.pairwise_cons.1 hp
      have h3 := ih (x + 1) b h2.2 (fun y hy => by have := h2.1 y hy; have := hx y (by simp [hy]); omega) (by omega)
      rw [List.length_cons]
      push_cast
      omega
  have := key r.InSync 0 r.Logs.length h.sync h.syncIn (by omega)
  have := h.n5
  omega
theorem RW.ents {r : Repl} (h : RW r) : entsOk r.Certain = true := entsOk_iff.2 ((h.ok h.lead.1 h.lead.2).pre (h.cert _ h.leadIn))
end Pl
end Go.Proofs.Ytkhchfbpmmiopaa

/-
  Contracts of the functions on logs of entries that only read (chapter 7). No conditions beyond those named.
-/
namespace Go.Proofs.Ytkhchfbpmmiopaa
open Go.RowKit
attribute [local go_sem] und_cell
theorem Pl.eqE_def (x y : Entry) : Pl.eqE x y = (decide (x.Epoch = y.Epoch) && (x.Text.toList == y.Text.toList)) := rfl
theorem Pl.entsOk_bad {l : List Entry} {k : Nat} {x : Entry} (hx : l[k]? = some x) (h : entOk x = false ∨ (0 < k ∧ x.Epoch < epAt l (k - 1))) : entsOk l = false := by
  have hk := (List.getElem?_eq_some_iff.1 hx).1
  unfold entsOk
  rw [allB_no hk, Bool.false_and]
  rw [entsP_of hx]
  rcases h with h | ⟨h0, h⟩
  · rw [h, Bool.false_and]
  · have e1 : decide (k = 0) = false := by simp; omega
    have e2 : decide (epAt l (k - 1) ≤ x.Epoch) = false := by simp; omega
    rw [e1, e2]; simp
theorem Pl.entsOk_end {l : List Entry} {k : Nat} (h : ∀ i, i < k → entsP l i = true) (hk : l.length ≤ k) : entsOk l = decide (l.length ≤ 40) := by
  unfold entsOk
  rw [allB_yes (fun i hi => h i (by omega)), Bool.true_and]
end Go.Proofs.Ytkhchfbpmmiopaa

/-
  Plain functions: a rising list of numbers: a number's place, put in, taken out. No program in sight. No conditions.
-/
namespace Go.Proofs.Ytkhchfbpmmiopaa
namespace Pl
/-- how many are below k -/
def ipos (l : List Int) (k : Int) : Nat := (l.filter (fun x => decide (x < k))).length
theorem ipos_le (l : List Int) (k : Int) : ipos l k ≤ l.length := List.length_filter_le _ _
theorem ipos_split : ∀ (l : List Int) (k : Int), l.Pairwise (· < ·) → l.take (ipos l k) = l.filter (fun x => decide (x < k)) ∧ l.drop (ipos l k) = l.filter (fun x => decide (k ≤ x))
  | [], _, _ => by simp [ipos]
  | x :: t, k, h => by
    have h2 := List.pairwise_cons.1 h
    have ih := ipos_split t k h2.2
    by_cases hx : x < k
    · have e : ipos (x :: t) k = ipos t k + 1 := by unfold ipos; simp [hx]
      rw [e, List.take_succ_cons, List.drop_succ_cons, ih.1, ih.2]
      simp [hx]
    · have e0 : t.filter (fun x => decide (x < k)) = [] := by
        rw [List.filter_eq_nil_iff]
        intro y hy
        have := h2.1 y hy
        simp; omega
      have e : ipos (x :: t) k = 0 := by unfold ipos; simp [hx, e0]
      have e1 : t.filter (fun x => decide (k ≤ x)) = t := by
        rw [List.filter_eq_self]
        intro y hy
        have := h2.1 y hy
        simp; omega
      rw [e]
      refine ⟨?_, ?_⟩
      · rw [List.filter_cons_of_neg (by simpa using hx), e0]; rfl
      · rw [List.filter_cons_of_pos (by simpa using hx), e1]; rfl
theorem ipos_lt {l : List Int} {k : Int} (h : l.Pairwise (· < ·)) {i : Nat} {x : Int} (hx : l[i]? = some x) : i < ipos l k ↔ x < k := by
  obtain ⟨e1, e2⟩ := ipos_split l k h
  constructor
  · intro hi
    have : (l.take (ipos l k))[i]? = some x := by rw [List.getElem?_take, if_pos hi]; exact hx
    rw [e1] at this
    simpa using (List.mem_filter.1 (List.mem_of_getElem? this)).2
  · intro hk
    apply Classical.byContradiction
    intro hn
    have : (l.drop (ipos l k))[i - ipos l k]? = some x := by rw [List.getElem?_drop, show ipos l k + (i - ipos l k) = i by omega]; exact hx
    rw [e2] at this
    have := (List.mem_filter.1 (List.mem_of_getElem? this)).2
    simp at this
    omega
theorem ipos_of {l : List Int} {k : Int} (h : l.Pairwise (· < ·)) {p : Nat} (hp : p ≤ l.length) (h1 : ∀ i x, i < p → l[i]? = some x → x < k) (h2 : ∀ x, l[p]? = some x → k ≤ x) : ipos l k = p := by
  rcases Nat.lt_trichotomy (ipos l k) p with hq | hq | hq
  · have hx := List.getElem?_eq_getElem (show ipos l k < l.length by omega)
    have := (ipos_lt (k := k) h hx).2 (h1 _ _ hq hx)
    omega
  · exact hq
  · have := ipos_le l k
    have hx := List.getElem?_eq_getElem (show p < l.length by omega)
    have h3 := (ipos_lt (k := k) h hx).1 hq
    have := h2 _ hx
    omega
theorem mem_ipos {l : List Int} {k : Int} (h : l.Pairwise (· < ·)) : k ∈ l ↔ l[ipos l k]? = some k := by
  constructor
  · intro hk
    obtain ⟨i, hi⟩ := List.mem_iff_getElem?.1 hk
    have h1 : ¬ i < ipos l k := fun hh => by have := (ipos_lt (k := k) h hi).1 hh; omega
    by_cases e : i = ipos l k
    · rw [← e]; exact hi
    · have hl := (List.getElem?_eq_some_iff.1 hi).1
      have hx := List.getElem?_eq_getElem (show ipos l k < l.length by omega)
      have h2 : ¬ l[ipos l k]'(by omega) < k := fun hh => by have := (ipos_lt (k := k) h hx).2 hh; omega
      have h3 := List.pairwise_iff_getElem.1 h (ipos l k) i (by omega) hl (by omega)
      rw [(List.getElem?_eq_some_iff.1 hi).2] at h3
      omega
  · exact fun hk => List.mem_of_getElem? hk
theorem insI_at {l : List Int} {k : Int} (h : l.Pairwise (· < ·)) (hk : k ∉ l) : l.take (ipos l k) ++ k :: l.drop (ipos l k) = insI l k := by
  obtain ⟨e1, e2⟩ := ipos_split l k h
  rw [e1, e2]
  unfold insI
  congr 2
  apply List.filter_congr
  intro x hx
  have hne : x ≠ k := fun e => hk (e ▸ hx)
  rw [decide_eq_decide]
  omega
theorem outI_at {l : List Int} {k : Int} (h : l.Pairwise (· < ·)) (hk : k ∈ l) : l.eraseIdx (ipos l k) = outI l k := by
  obtain ⟨e1, e2⟩ := ipos_split l k h
  have h3 := (mem_ipos h).1 hk
  have hl := (List.getElem?_eq_some_iff.1 h3).1
  rw [List.eraseIdx_eq_take_drop_succ, e1]
  have e3 : l.drop (ipos l k + 1) = l.filter (fun x => decide (k < x)) := by
    have : l.drop (ipos l k + 1) = (l.filter (fun x => decide (k ≤ x))).drop 1 := by rw [← e2, List.drop_drop]
    rw [this]
    have h4 : l.filter (fun x => decide (k ≤ x)) = k :: (l.filter (fun x => decide (k ≤ x))).drop 1 := by
      have : (l.filter (fun x => decide (k ≤ x)))[0]? = some k := by rw [← e2, List.getElem?_drop]; exact h3
      cases hf : l.filter (fun x => decide (k ≤ x)) with
      | nil => rw [hf] at this; cases this
      | cons a t => rw [hf] at this; simp at this; rw [this]; rfl
    have hp := h.filter (fun x => decide (k ≤ x))
    rw [h4] at hp
    have h5 := (List.pairwise_cons.1 hp).1
    have h6 : (l.filter (fun x => decide (k ≤ x))).filter (fun x => decide (k < x)) = l.filter (fun x => decide (k < x)) := by
      rw [List.filter_filter]
      apply List.filter_congr
      intro x _
      simp; omega
    rw [← h6]
    conv => rhs; rw [h4]
    rw [List.filter_cons_of_neg (by simp)]
    symm
    rw [List.filter_eq_self]
    intro y hy
    have := h5 y hy
    simpa using this
  rw [e3]
  unfold outI
  have key : ∀ m : List Int, m.Pairwise (· < ·) → m.filter (fun x => decide (x < k)) ++ m.filter (fun x => decide (k < x)) = m.filter (fun x => x != k) := by
    intro m
    induction m with
    | nil => intro _; rfl
    | cons a t ih =>
      intro hm
      have hm2 := List.pairwise_cons.1 hm
      have ih' := ih hm2.2
      by_cases h1 : a < k
      · rw [List.filter_cons_of_pos (by simpa using h1), List.filter_cons_of_neg (by simp; omega), List.filter_cons_of_pos (by simp; omega), List.cons_append, ih']
      · have e0 : t.filter (fun x => decide (x < k)) = [] := by
          rw [List.filter_eq_nil_iff]
          intro y hy
          have := hm2.1 y hy
          simp; omega
        rw [List.filter_cons_of_neg (by simpa using h1)]
        rw [e0] at ih' ⊢
        by_cases h2 : a = k
        · subst h2
          rw [List.filter_cons_of_neg (by simp), List.filter_cons_of_neg (by simp)]
          exact ih'
        · rw [List.filter_cons_of_pos (by simp; omega), List.filter_cons_of_pos (by simpa using h2)]
          rw [List.nil_append] at ih' ⊢
          rw [ih']
  exact key l h
end Pl
end Go.Proofs.Ytkhchfbpmmiopaa

/-
  Plain functions on sketches and heavy hitters. No program in sight. No conditions.
-/
namespace Go.Proofs.Ytkhchfbpmmiopaa
namespace Pl
/-- what a sketch must be -/
def rowOk (t : Int) (r : List Int) : Bool := decide (r.length = 11) && allIn 0 100000 r && decide (sum r = t)
def sketchOk (s : Sketch) : Bool := isIn s.Rows.length 1 3 && s.Rows.all (rowOk s.Total)
theorem rowOk_iff {t : Int} {r : List Int} : rowOk t r = true ↔ r.length = 11 ∧ allIn 0 100000 r = true ∧ sum r = t := by
  unfold rowOk; simp [and_assoc]
theorem sum_bd {l : List Int} {a b : Int} (h : allIn a b l = true) (h0 : a ≤ 0) (h1 : 0 ≤ b) : a * l.length ≤ sum l ∧ sum l ≤ b * l.length := sumTo_bd h h0 h1 _
def guessTo (rows : List (List Int)) (name : List UInt8) : Nat → Int
  | 0 => 100000
  | k + 1 => if (rows.getD k []).getD (place k name).toNat 0 < guessTo rows name k then (rows.getD k []).getD (place k name).toNat 0 else guessTo rows name k
def guessOf (s : Sketch) (name : ByteArray) : Int × Bool :=
  if (sketchOk s && word false name.data.toList) = true then (guessTo s.Rows name.data.toList s.Rows.length, true) else (0, false)
theorem ba_nil {x : ByteArray} (h : x.toList = []) : x = ⟨#[]⟩ := by
  rw [Lib.toList_data] at h
  cases x with
  | mk a => simp at h; rw [h]
theorem beq_dec (a b : Int) : (a == b) = decide (a = b) := by
  by_cases h : a = b
  · subst h; simp
  · simp [h]
def strAt (l : List ByteArray) (i : Nat) : ByteArray := l.getD i ByteArray.empty
theorem strAt_of {l : List ByteArray} {i : Nat} {x : ByteArray} (h : l[i]? = some x) : strAt l i = x := by
  unfold strAt; rw [List.getD_eq_getElem?_getD, h]; rfl
theorem getD_of {l : List Int} {i : Nat} {x : Int} (h : l[i]? = some x) : l.getD i 0 = x := by
  rw [List.getD_eq_getElem?_getD, h]; rfl
/-- what is said of one place -/
def slotP (k : Nat) (x : ByteArray) (y : Int) (z : ByteArray) : Bool :=
  if x.toList = [] then decide (y = 0) else word false x.data.toList && isIn y 1 100000 && (decide (k = 0) || (Op.bytesLess z.toList x.toList && !z.toList.isEmpty))
def slotOk (h : Heavy) (i : Nat) : Bool := slotP i (strAt h.Names i) (h.Counts.getD i 0) (strAt h.Names (i - 1))
theorem slotOk_of {h : Heavy} {i : Nat} {x z : ByteArray} {y : Int} (hx : h.Names[i]? = some x) (hy : h.Counts[i]? = some y) (hz : h.Names[i - 1]? = some z) : slotOk h i = slotP i x y z := by
  unfold slotOk; rw [strAt_of hx, strAt_of hz, getD_of hy]
def heavyOk (h : Heavy) : Bool :=
  isIn (h.Names.length : Int) 1 6 && decide (h.Counts.length = h.Names.length) && isIn h.Gone 0 100000 && isIn h.Total 0 1000000 && allB h.Names.length (slotOk h) && decide (sum h.Counts + h.Gone * ((h.Names.length : Int) + 1) = h.Total)
theorem slotP_bd {k : Nat} {x z : ByteArray} {y : Int} (h : slotP k x y z = true) : 0 ≤ y ∧ y ≤ 100000 := by
  unfold slotP at h
  split at h
  · simp at h; omega
  · simp only [Bool.and_eq_true] at h
    have := isIn_iff.1 h.1.2; omega
theorem sumTo_slot {h : Heavy} : ∀ {k : Nat}, (∀ i, i < k → slotOk h i = true) → 0 ≤ sumTo h.Counts k ∧ sumTo h.Counts k ≤ 100000 * k
  | 0, _ => by simp [sumTo]
  | k + 1, hh => by
    have h1 := sumTo_slot (k := k) fun i hi => hh i (by omega)
    have h2 := slotP_bd (hh k (by omega))
    rw [sumTo]
    push_cast
    omega
theorem slots_in {h : Heavy} (hl : h.Counts.length = h.Names.length) (hh : ∀ i, i < h.Names.length → slotOk h i = true) : allIn (-1000000) 1000000 h.Counts = true := List.all_eq_true.2 fun y hy => by
  obtain ⟨i, hi, rfl⟩ := List.mem_iff_getElem.1 hy
  have h2 := slotP_bd (hh i (by omega))
  rw [getD_of (List.getElem?_eq_getElem hi)] at h2
  exact isIn_mk (by omega) (by omega)
theorem heavyOk_iff {h : Heavy} : heavyOk h = true ↔ (1 ≤ (h.Names.length : Int) ∧ (h.Names.length : Int) ≤ 6) ∧ h.Counts.length = h.Names.length ∧ (0 ≤ h.Gone ∧ h.Gone ≤ 100000) ∧ (0 ≤ h.Total ∧ h.Total ≤ 1000000) ∧ (∀ i, i < h.Names.length → slotOk h i = true) ∧ sum h.Counts + h.Gone * ((h.Names.length : Int) + 1) = h.Total := by
  unfold heavyOk; simp only [Bool.and_eq_true, decide_eq_true_eq, isIn_iff, allB_iff, and_assoc]
/-- where a text stands, counted from k -/
def idxFrom (l : List ByteArray) (v : ByteArray) : Nat → Nat → Int
  | 0, _ => -1
  | f + 1, k => if strAt l k = v then (k : Int) else idxFrom l v f (k + 1)
def idx (l : List ByteArray) (v : ByteArray) : Int := idxFrom l v l.length 0
theorem idxFrom_bd {l : List ByteArray} {v : ByteArray} : ∀ (f k : Nat), idxFrom l v f k = -1 ∨ ((k : Int) ≤ idxFrom l v f k ∧ idxFrom l v f k < (k + f : Nat))
  | 0, k => .inl rfl
  | f + 1, k => by
    unfold idxFrom
    split
    · right; omega
    · rcases idxFrom_bd (l := l) (v := v) f (k + 1) with h | h
      · exact .inl h
      · right; omega
theorem idx_bd {l : List ByteArray} {v : ByteArray} : idx l v = -1 ∨ (0 ≤ idx l v ∧ idx l v < l.length) := by
  have := idxFrom_bd (l := l) (v := v) l.length 0
  unfold idx; simp at this; omega
theorem idx_yes {l : List ByteArray} {v : ByteArray} {k n : Nat} (_hn : l.length = n) (h : idx l v = idxFrom l v (n - k) k) (hk : k < n) (he : strAt l k = v) : idx l v = k := by
  rw [h, show n - k = (n - (k + 1)) + 1 by omega, idxFrom, if_pos he]
theorem idx_no {l : List ByteArray} {v : ByteArray} {k n : Nat} (h : idx l v = idxFrom l v (n - k) k) (hk : k < n) (he : strAt l k ≠ v) : idx l v = idxFrom l v (n - (k + 1)) (k + 1) := by
  rw [h, show n - k = (n - (k + 1)) + 1 by omega, idxFrom, if_neg he]
theorem idx_end {l : List ByteArray} {v : ByteArray} {k n : Nat} (h : idx l v = idxFrom l v (n - k) k) (hk : ¬ k < n) : idx l v = -1 := by
  rw [h, show n - k = 0 by omega]; rfl
def leastOf (h : Heavy) (name : ByteArray) : Int × Int × Bool :=
  if (heavyOk h && word false name.data.toList) = true then
    if 0 ≤ idx h.Names name then (h.Counts.getD (idx h.Names name).toNat 0, h.Counts.getD (idx h.Names name).toNat 0 + h.Gone, true) else (0, h.Gone, true)
  else (0, 0, false)
def ret3 (x : Int × Int × Bool) : Ending := .returned (.tuple #[.int .i64 x.1, .int .i64 x.2.1, .bool x.2.2])
theorem rows_bd {s : Sketch} (h : sketchOk s = true) {k : Nat} {r : List Int} (hr : s.Rows[k]? = some r) : r.length = 11 ∧ allIn 0 100000 r = true ∧ sum r = s.Total := by
  unfold sketchOk at h
  rw [Bool.and_eq_true] at h
  exact rowOk_iff.1 (all_at h.2 hr)
theorem guessTo_bd {rows : List (List Int)} {name : List UInt8} (h : ∀ (k : Nat) (r : List Int), rows[k]? = some r → allIn 0 100000 r = true) : ∀ k, 0 ≤ guessTo rows name k ∧ guessTo rows name k ≤ 100000
  | 0 => by simp [guessTo]
  | k + 1 => by
    have h1 := guessTo_bd (name := name) h k
    have h2 : 0 ≤ (rows.getD k []).getD (place k name).toNat 0 := by
      rw [List.getD_eq_getElem?_getD]
      cases hr : (rows.getD k [])[(place k name).toNat]? with
      | none => exact Int.le_refl _
      | some x =>
        rw [List.getD_eq_getElem?_getD] at hr
        cases hk : rows[k]? with
        | none => rw [hk] at hr; simp at hr
        | some r =>
          rw [hk] at hr
          exact (allIn_at (h k r hk) hr).1
    unfold guessTo
    split <;> omega
theorem guessTo_next {rows : List (List Int)} {name : List UInt8} {k : Nat} {r : List Int} {x : Int} (hr : rows[k]? = some r) (hx : r[(place k name).toNat]? = some x) : guessTo rows name (k + 1) = if x < guessTo rows name k then x else guessTo rows name k := by
  rw [guessTo, List.getD_eq_getElem?_getD (l := rows), hr]
  show (if r.getD _ 0 < _ then r.getD _ 0 else _) = _
  rw [getD_of hx]
theorem guess_step {rows : List (List Int)} {name : List UInt8} {k : Nat} {x z : Int} (hz : z = guessTo rows name (max k 1)) (hn : guessTo rows name (k + 1) = if x < guessTo rows name k then x else guessTo rows name k) (hx : x ≤ 100000) :
    (x < z → x = guessTo rows name (max (k + 1) 1)) ∧ (¬ x < z → z = guessTo rows name (max (k + 1) 1)) := by
  rw [show max (k + 1) 1 = k + 1 by omega]
  by_cases hk : k = 0
  · subst hk
    rw [show max 0 1 = 0 + 1 by rfl] at hz
    rw [hz]
    rw [hn]
    show (x < (if x < (100000 : Int) then x else 100000) → x = if x < (100000 : Int) then x else 100000) ∧ _
    refine ⟨fun h => ?_, fun _ => rfl⟩
    split at h <;> omega
  · rw [show max k 1 = k by omega] at hz
    rw [hn, hz]
    exact ⟨fun h => by rw [if_pos h], fun h => by rw [if_neg h]⟩
def bump (r : List Int) (p : Nat) (many : Int) : List Int := r.set p (r.getD p 0 + many)
def addTo (rows : List (List Int)) (name : List UInt8) (many : Int) : Nat → List (List Int)
  | 0 => []
  | k + 1 => addTo rows name many k ++ [bump (rows.getD k []) (place k name).toNat many]
theorem addTo_len (rows : List (List Int)) (name : List UInt8) (many : Int) : ∀ k, (addTo rows name many k).length = k
  | 0 => rfl
  | k + 1 => by rw [addTo, List.length_append, addTo_len rows name many k]; rfl
theorem addTo_next {rows : List (List Int)} {name : List UInt8} {many : Int} {k : Nat} {r : List Int} (hr : rows[k]? = some r) : addTo rows name many (k + 1) = addTo rows name many k ++ [bump r (place k name).toNat many] := by
  rw [addTo, List.getD_eq_getElem?_getD, hr]; rfl
def bumped (s : Sketch) (name : List UInt8) (many : Int) : Sketch := ⟨addTo s.Rows name many s.Rows.length, s.Total + many⟩
def sk0 : Sketch := ⟨[], 0⟩
def addSketch (s : Sketch) (name : ByteArray) (many : Int) : Sketch × Bool :=
  if (sketchOk s && word false name.data.toList && isIn many 1 1000) = true then (if sketchOk (bumped s name.data.toList many) = true then (bumped s name.data.toList many, true) else (sk0, false)) else (sk0, false)
end Pl
end Go.Proofs.Ytkhchfbpmmiopaa
