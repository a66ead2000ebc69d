/-
  Joined texts, in build order: Rg, Ap, Ra, P1, Dt, Pc, Pk, Ph, In. Each part says what it proves; no conditions beyond those that a part names.
-/
import Derived.Test.YtpmeagchkcffoaaZ01
import Derived.BigQuiet
import Derived.Deep.AppendLies
import Derived.WalkKit
import Derived.Lib.Strings
import Derived.Shelf.Spec.SearchS
import Derived.Shelf.Spec.SlicesInsertGrow
import Derived.Lib.AppendZerosOnto
/-
  Regions that draw their order and whose operations hand back new things (a call that makes a slice, an alloc, an append): one walk in the order of the text serves every order. What an operation gives, and which earlier operation's things it takes, is told ahead by a plan. No program in sight. No conditions.
-/
namespace Go.Proofs.Ytpmeagchkcffoaa
open Go.RowKit
namespace Mm

abbrev Sig := Nat → List Thing
/-- what operation i gives: of its operands' values and the things it takes, a value and things -/
abbrev Rel := List Value → List Thing → Value → List Thing → Prop
def sigUpd (takes : Nat → List Nat) (σ : Sig) (i : Nat) (ds : List Thing) : Sig := fun k => bif k == i then ds else bif (takes i).contains k then [] else σ k

section
variable {P : Program} {ops : Array Oper} {md : Region.Mode} {C : Sig → World → Prop} {D : World → Prop} {rel : Nat → Option Rel} {takes : Nat → List Nat}

def ups (P : Program) (C' : Value → World → Prop) : Result Next → Prop
  | .ok (.value u) w' => C' u w'
  | .ok .skip w' => C' undef w'
  | .ok (.enter f args) w' => Calls P f args w' (fun e w'' => ∃ v, e = .returned v ∧ C' v w'')
  | .ok (.row row args) w' => Rows P row args w' fun v w'' => C' v w''
  | _ => False
def valUpon (w : World) (v : Value) : Result Next → Prop
  | .ok (.value u) w' => w' = w ∧ u = v
  | .ok .skip w' => w' = w ∧ undef = v
  | _ => False
def GDet (P : Program) (D : World → Prop) (o : Oper) (a : Act) (v : Value) : Prop := ∀ w, D w → valUpon w v ((execOp a.eval o).run P w)
def GValid (P : Program) (C : Sig → World → Prop) (takes : Nat → List Nat) (i : Nat) (o : Oper) (a : Act) (σ : Sig) (r : Value → List Thing → Prop) : Prop :=
  ∀ σ' w, C σ' w → (∀ k ∈ takes i, σ' k = σ k) → ups P (fun v w' => ∃ ds, r v ds ∧ C (sigUpd takes σ' i ds) w') ((execOp a.eval o).run P w)
abbrev GRelAt (takes : Nat → List Nat) (r : Rel) (i : Nat) (o : Oper) (a : Act) (σ : Sig) : Value → List Thing → Prop := r (o.op.operands.toList.map a.eval) ((takes i).flatMap σ)

/-- what operation i may bring in state (a, σ): its value, and how the things turn -/
def GStatus (P : Program) (ops : Array Oper) (C : Sig → World → Prop) (D : World → Prop) (rel : Nat → Option Rel) (takes : Nat → List Nat) (i : Nat) (o : Oper) (a : Act) (σ : Sig) (O : Value → (Sig → Sig) → Prop) : Prop :=
  (Region.wanted o (yielded ops a.tmps) = false ∧ O = fun u f => u = undef ∧ f = id) ∨
  (Region.wanted o (yielded ops a.tmps) = true ∧ rel i = none ∧ ∃ v, GDet P D o a v ∧ O = fun u f => u = v ∧ f = id) ∨
  (Region.wanted o (yielded ops a.tmps) = true ∧ ∃ r, rel i = some r ∧ GValid P C takes i o a σ (GRelAt takes r i o a σ) ∧ (∃ v ds, GRelAt takes r i o a σ v ds) ∧ O = fun u f => ∃ ds, GRelAt takes r i o a σ u ds ∧ f = fun s => sigUpd takes s i ds)

def gOp (P : Program) (ops : Array Oper) (C : Sig → World → Prop) (D : World → Prop) (rel : Nat → Option Rel) (takes : Nat → List Nat) (i : Nat) (K : Act → Sig → Prop) (a : Act) (σ : Sig) : Prop :=
  match ops[i]? with
  | none => K a σ
  | some o => ∃ O, GStatus P ops C D rel takes i o a σ O ∧ ∀ v f, O v f → K (a.put o.dst v) (f σ)

theorem gOp_mono {i : Nat} {a : Act} {σ : Sig} {K K' : Act → Sig → Prop} (h : ∀ a s, K a s → K' a s) (hh : gOp P ops C D rel takes i K a σ) : gOp P ops C D rel takes i K' a σ := by
  unfold gOp at *
  split
  · exact h _ _ (by simpa [*] using hh)
  · rename_i o ho
    simp only [ho] at hh
    obtain ⟨O, h1, h2⟩ := hh
    exact ⟨O, h1, fun v f hO => h _ _ (h2 v f hO)⟩

theorem GDet.uniq {o : Oper} {a : Act} {v u : Value} {w : World} (hw : D w) (h : GDet P D o a v) (k : GDet P D o a u) : v = u := by
  have h1 := h w hw
  have h2 := k w hw
  generalize (execOp a.eval o).run P w = r at *
  cases r with
  | ok n w' => cases n <;> simp only [valUpon] at h1 h2 <;> first | exact h1.2.symm.trans h2.2 | exact h1.elim
  | halt x w' => exact h1.elim

theorem GStatus.func {i : Nat} {o : Oper} {a : Act} {σ : Sig} {O O' : Value → (Sig → Sig) → Prop} (hD : ∃ w, D w) (h : GStatus P ops C D rel takes i o a σ O) (k : GStatus P ops C D rel takes i o a σ O') : O = O' := by
  obtain ⟨w, hw⟩ := hD
  rcases h with ⟨h1, h2⟩ | ⟨h1, hr, v, h2, h3⟩ | ⟨h1, r, hr, h2, h3, h4⟩ <;> rcases k with ⟨k1, k2⟩ | ⟨k1, kr, u, k2, k3⟩ | ⟨k1, s, kr, k2, k3, k4⟩
  · rw [h2, k2]
  · rw [h1] at k1; cases k1
  · rw [h1] at k1; cases k1
  · rw [h1] at k1; cases k1
  · rw [h3, k3, GDet.uniq hw h2 k2]
  · rw [hr] at kr; cases kr
  · rw [h1] at k1; cases k1
  · rw [hr] at kr; cases kr
  · rw [hr] at kr; injection kr with kr; subst kr; rw [h4, k4]

theorem GStatus.ex {i : Nat} {o : Oper} {a : Act} {σ : Sig} {O : Value → (Sig → Sig) → Prop} (h : GStatus P ops C D rel takes i o a σ O) : ∃ v f, O v f := by
  rcases h with ⟨_, h2⟩ | ⟨_, _, v, _, h3⟩ | ⟨_, r, _, _, ⟨v, ds, h3⟩, h4⟩
  · exact ⟨undef, id, by rw [h2]; exact ⟨rfl, rfl⟩⟩
  · exact ⟨v, id, by rw [h3]; exact ⟨rfl, rfl⟩⟩
  · exact ⟨v, _, by rw [h4]; exact ⟨ds, h3, rfl⟩⟩

/-- the shape of what turns: nothing, or i's own -/
theorem GStatus.turn {i : Nat} {o : Oper} {a : Act} {σ : Sig} {O : Value → (Sig → Sig) → Prop} (h : GStatus P ops C D rel takes i o a σ O) {v : Value} {f : Sig → Sig} (hO : O v f) : f = id ∨ ∃ ds, f = fun s => sigUpd takes s i ds := by
  rcases h with ⟨_, h2⟩ | ⟨_, _, _, _, h3⟩ | ⟨_, r, _, _, _, h4⟩
  · rw [h2] at hO; exact .inl hO.2
  · rw [h3] at hO; exact .inl hO.2
  · rw [h4] at hO; obtain ⟨ds, _, h⟩ := hO; exact .inr ⟨ds, h⟩

def Indep (takes : Nat → List Nat) (i j : Nat) : Prop := i ≠ j ∧ i ∉ takes j ∧ j ∉ takes i ∧ ∀ k, k ∈ takes i → k ∉ takes j
theorem Indep.symm {i j : Nat} (h : Indep takes i j) : Indep takes j i := ⟨Ne.symm h.1, h.2.2.1, h.2.1, fun k hk hi => h.2.2.2 k hi hk⟩

theorem sigUpd_far {σ : Sig} {i j : Nat} {ds : List Thing} (h : Indep takes i j) {k : Nat} (hk : k ∈ takes j) : sigUpd takes σ i ds k = σ k := by
  unfold sigUpd
  have h1 : (k == i) = false := by rw [beq_eq_false_iff_ne]; rintro rfl; exact h.2.1 hk
  have h2 : (takes i).contains k = false := by
    cases hc : (takes i).contains k
    · rfl
    · exact absurd hk (h.2.2.2 k (by simpa using hc))
  rw [h1, h2]; rfl
theorem sigUpd_comm {σ : Sig} {i j : Nat} {ds es : List Thing} (h : Indep takes i j) : sigUpd takes (sigUpd takes σ i ds) j es = sigUpd takes (sigUpd takes σ j es) i ds := by
  funext k
  unfold sigUpd
  by_cases hi : k = i
  · subst hi
    have h1 : (k == j) = false := by rw [beq_eq_false_iff_ne]; exact h.1
    have h2 : (takes j).contains k = false := by
      cases hc : (takes j).contains k
      · rfl
      · exact absurd (by simpa using hc) h.2.1
    rw [h1, h2]; simp
  · have hi' : (k == i) = false := by rw [beq_eq_false_iff_ne]; exact hi
    rw [hi']
    by_cases hj : k = j
    · subst hj
      have h2 : (takes i).contains k = false := by
        cases hc : (takes i).contains k
        · rfl
        · exact absurd (by simpa using hc) h.2.2.1
      rw [h2]; simp
    · have hj' : (k == j) = false := by rw [beq_eq_false_iff_ne]; exact hj
      rw [hj']
      cases (takes i).contains k <;> cases (takes j).contains k <;> rfl

theorem map_eval_put {o oj : Oper} {a : Act} {v : Value} (h : ∀ d, oj.dst = some d → d ∉ o.looksAt ops) : o.op.operands.toList.map (a.put oj.dst v).eval = o.op.operands.toList.map a.eval := by
  refine List.map_congr_left fun x hx => Act.eval_put fun d hd hxd => h d hd ?_
  subst hxd
  exact List.mem_append_left _ (List.mem_filterMap.2 ⟨.tmp d, hx, rfl⟩)

theorem GStatus.keep {i : Nat} {o oj : Oper} {a : Act} {σ σ' : Sig} {O : Value → (Sig → Sig) → Prop} (h : GStatus P ops C D rel takes i o a σ O) (hs : ∀ cs b, o.op ≠ .select cs b) (hl : ∀ d, oj.dst = some d → d ∉ o.looksAt ops) (u : Value)
    (hσ : ∀ k, k ∈ takes i → σ' k = σ k) : GStatus P ops C D rel takes i o (a.put oj.dst u) σ' O := by
  have e1 := execOp_put o hs a oj.dst u hl
  have e2 := wanted_put o a oj.dst u hl
  have e3 := map_eval_put (a := a) (v := u) hl
  have e4 : (takes i).flatMap σ' = (takes i).flatMap σ := by
    rw [List.flatMap_def, List.flatMap_def]; exact congrArg List.flatten (List.map_congr_left hσ)
  have e5 : ∀ r : Rel, GRelAt takes r i o (a.put oj.dst u) σ' = GRelAt takes r i o a σ := fun r => by unfold GRelAt; rw [e3, e4]
  rcases h with ⟨h1, h2⟩ | ⟨h1, hr, v, h2, h3⟩ | ⟨h1, r, hr, h2, h3, h4⟩
  · exact .inl ⟨by rw [e2]; exact h1, h2⟩
  · refine .inr (.inl ⟨by rw [e2]; exact h1, hr, v, ?_, h3⟩)
    unfold GDet at *
    rw [e1]; exact h2
  · refine .inr (.inr ⟨by rw [e2]; exact h1, r, hr, ?_, ?_, ?_⟩)
    · unfold GValid at *
      rw [e1, e5]
      exact fun s w hc hk => h2 s w hc (fun k hk' => (hk k hk').trans (hσ k hk'))
    · rw [e5]; exact h3
    · rw [e5]; exact h4

/-- operations i and j do not meet: what j does ahead of i, it does behind it -/
theorem gOp_put {i j : Nat} {oi oj : Oper} {O : Value → (Sig → Sig) → Prop} (hD : ∃ w, D w) (hj : ops[j]? = some oj) (hap : oi.apart ops oj = true) (hin : Indep takes i j)
    (hsi : ∀ cs b, oi.op ≠ .select cs b) (hsj : ∀ cs b, oj.op ≠ .select cs b) {K : Act → Sig → Prop} {a : Act} {σ : Sig}
    (hy : GStatus P ops C D rel takes i oi a σ O) (h : ∀ v f, O v f → gOp P ops C D rel takes j K (a.put oi.dst v) (f σ)) :
    gOp P ops C D rel takes j (fun a' s => GStatus P ops C D rel takes i oi a' s O ∧ ∀ v f, O v f → K (a'.put oi.dst v) (f s)) a σ := by
  obtain ⟨h1, h2, h3⟩ := Oper.apart_spec hap
  -- j's status in the state ahead of i
  have back : ∀ v f, O v f → ∃ O', GStatus P ops C D rel takes j oj a σ O' ∧ ∀ u g, O' u g → K ((a.put oi.dst v).put oj.dst u) (g (f σ)) := fun v f hO => by
    have := h v f hO
    unfold gOp at this
    simp only [hj] at this
    obtain ⟨O', k1, k2⟩ := this
    refine ⟨O', ?_, k2⟩
    have e1 := execOp_put oj hsj a oi.dst v h1
    have e2 := wanted_put oj a oi.dst v h1
    have e3 := map_eval_put (a := a) (v := v) h1
    have hσ : ∀ k, k ∈ takes j → f σ k = σ k := fun k hk => by
      rcases hy.turn hO with rfl | ⟨ds, rfl⟩
      · rfl
      · exact sigUpd_far hin hk
    have e4 : (takes j).flatMap (f σ) = (takes j).flatMap σ := by
      rw [List.flatMap_def, List.flatMap_def]; exact congrArg List.flatten (List.map_congr_left hσ)
    have e5 : ∀ r : Rel, GRelAt takes r j oj (a.put oi.dst v) (f σ) = GRelAt takes r j oj a σ := fun r => by unfold GRelAt; rw [e3, e4]
    rcases k1 with ⟨q1, q2⟩ | ⟨q1, hr, x, q2, q3⟩ | ⟨q1, r, hr, q2, q3, q4⟩
    · exact .inl ⟨by rw [← e2]; exact q1, q2⟩
    · refine .inr (.inl ⟨by rw [← e2]; exact q1, hr, x, ?_, q3⟩)
      unfold GDet at *
      rw [← e1]; exact q2
    · refine .inr (.inr ⟨by rw [← e2]; exact q1, r, hr, ?_, ?_, ?_⟩)
      · unfold GValid at *
        rw [← e5, ← e1]
        exact fun s w hc hk => q2 s w hc (fun k hk' => (hk k hk').trans (hσ k hk').symm)
      · rw [← e5]; exact q3
      · rw [← e5]; exact q4
  obtain ⟨v0, f0, hO0⟩ := hy.ex
  obtain ⟨O', k1, _⟩ := back v0 f0 hO0
  unfold gOp
  simp only [hj]
  refine ⟨O', k1, fun u g hg => ⟨hy.keep hsi h3 u (fun k hk => ?_), fun v f hO => ?_⟩⟩
  · rcases k1.turn hg with rfl | ⟨ds, rfl⟩
    · rfl
    · exact sigUpd_far hin.symm hk
  · obtain ⟨O2, m1, m2⟩ := back v f hO
    rw [k1.func hD m1] at hg
    have := m2 u g hg
    rw [Act.put_comm a v u h2] at this
    have e : g (f σ) = f (g σ) := by
      rcases hy.turn hO with rfl | ⟨ds, rfl⟩
      · rfl
      · rcases m1.turn hg with rfl | ⟨es, rfl⟩
        · rfl
        · exact sigUpd_comm hin
    rw [e] at this
    exact this

theorem gOp_of {i : Nat} {oi : Oper} {a : Act} {σ : Sig} {O : Value → (Sig → Sig) → Prop} {K : Act → Sig → Prop} (hi : ops[i]? = some oi) (hy : GStatus P ops C D rel takes i oi a σ O) (h : ∀ v f, O v f → K (a.put oi.dst v) (f σ)) : gOp P ops C D rel takes i K a σ := by
  unfold gOp
  simp only [hi]
  exact ⟨O, hy, h⟩

theorem wpOp_of_gOp (hCD : ∀ σ w, C σ w → D w) {i : Nat} {a : Act} {σ : Sig} {K : Act → Sig → Prop} {K' : Act → World → Prop} {Q' : Exit → Act → World → Prop} {w : World} (hC : C σ w) (h : ∀ a s w', C s w' → K a s → K' a w') (hh : gOp P ops C D rel takes i K a σ) : wpOp P ops Q' i K' a w := by
  unfold gOp at hh
  unfold wpOp
  split
  · rename_i ho; simp only [ho] at hh; exact h _ _ _ hC hh
  · rename_i o ho
    simp only [ho] at hh
    obtain ⟨O, k1, k2⟩ := hh
    rcases k1 with ⟨h1, h2⟩ | ⟨h1, _, v, h2, h3⟩ | ⟨h1, r, _, h2, _, h4⟩
    · rw [h1]
      simp only [Bool.false_eq_true, if_false]
      exact h _ _ _ hC (k2 undef id (by rw [h2]; exact ⟨rfl, rfl⟩))
    · rw [h1]
      simp only [if_true]
      refine .inl ?_
      have h5 := h2 w (hCD _ _ hC)
      have h6 : K (a.put o.dst v) σ := k2 v id (by rw [h3]; exact ⟨rfl, rfl⟩)
      unfold Oper.wp
      generalize (execOp a.eval o).run P w = R at *
      cases R with
      | ok n w' =>
        cases n <;> simp only [valUpon] at h5 <;> simp only [Oper.upon]
        · obtain ⟨rfl, rfl⟩ := h5; exact h _ _ _ hC h6
        · obtain ⟨rfl, rfl⟩ := h5; exact h _ _ _ hC h6
      | halt x w' => exact h5.elim
    · rw [h1]
      simp only [if_true]
      refine .inl ?_
      have h5 := h2 σ w hC (fun _ _ => rfl)
      have h6 : ∀ v ds, GRelAt takes r i o a σ v ds → K (a.put o.dst v) (sigUpd takes σ i ds) := fun v ds hd => k2 v (fun s => sigUpd takes s i ds) (by rw [h4]; exact ⟨ds, hd, rfl⟩)
      unfold Oper.wp
      generalize (execOp a.eval o).run P w = R at *
      cases R with
      | ok n w' =>
        cases n <;> simp only [ups] at h5 <;> simp only [Oper.upon]
        · obtain ⟨ds, h7, h8⟩ := h5; exact h _ _ _ h8 (h6 _ _ h7)
        · obtain ⟨ds, h7, h8⟩ := h5; exact h _ _ _ h8 (h6 _ _ h7)
        · exact h5.mono fun e w'' ⟨v, he, ds, h7, h8⟩ => by subst he; exact h _ _ _ h8 (h6 _ _ h7)
        · exact Rows.mono h5 fun v w'' ⟨ds, h7, h8⟩ => h _ _ _ h8 (h6 _ _ h7)
      | halt x w' => exact h5.elim

/-- the walk in the order of the text -/
def wpGive (P : Program) (ops : Array Oper) (C : Sig → World → Prop) (D : World → Prop) (rel : Nat → Option Rel) (takes : Nat → List Nat) (Q : Act → Sig → Prop) : Nat → List Oper → Act → Sig → Prop
  | _, [], a, σ => Q a σ
  | i, o :: rest, a, σ => ∃ O, GStatus P ops C D rel takes i o a σ O ∧ ∀ v f, O v f → wpGive P ops C D rel takes Q (i + 1) rest (a.put o.dst v) (f σ)

/-- for so many rounds, whatever comes up -/
def headG (P : Program) (md : Region.Mode) (ops : Array Oper) (C : Sig → World → Prop) (D : World → Prop) (rel : Nat → Option Rel) (takes : Nat → List Nat) (n : Nat) (L : Array Bool → Act → Sig → Prop) : Nat → Array Bool → Act → Sig → Prop
  | 0, listed, a, σ => L listed a σ
  | f + 1, listed, a, σ => Region.ready md ops listed ≠ [] ∧ ∀ i ∈ Region.ready md ops listed, i < n ∧ gOp P ops C D rel takes i (headG P md ops C D rel takes n L f (listed.setIfInBounds i true)) a σ

theorem headG_any (hCD : ∀ σ w, C σ w → D w) {n g : Nat} {L : Array Bool → Act → Sig → Prop} {Q : Exit → Act → World → Prop} (hL : ∀ listed a s w, C s w → L listed a s → wpAny P md ops Q g listed a w) :
    ∀ (f : Nat) (listed : Array Bool) (a : Act) (s : Sig) (w : World), C s w → headG P md ops C D rel takes n L f listed a s → wpAny P md ops Q (f + g) listed a w
  | 0, listed, a, s, w, hw, h => by rw [Nat.zero_add]; exact hL _ _ _ _ hw h
  | f + 1, listed, a, s, w, hw, h => by
    rw [show f + 1 + g = (f + g) + 1 by omega]
    exact ⟨fun h0 => absurd h0 h.1, fun i hi => wpOp_of_gOp hCD hw (fun a' s' w' hw' h' => headG_any hCD hL f _ a' s' w' hw' h') (h.2 i hi).2⟩

theorem headG_first (hD : ∃ w, D w) {n i : Nat} {oi : Oper} {O : Value → (Sig → Sig) → Prop} {L : Array Bool → Act → Sig → Prop} (hi : ops[i]? = some oi) (hsel : ∀ (j : Nat) (o : Oper) cs b, ops[j]? = some o → o.op ≠ .select cs b)
    (hw : ∀ listed, HeadInv md ops n listed → listed.getD i true = false → ∀ j ∈ Region.ready md ops listed, j < n) (hin : i < n) (hdone : ∀ listed a s, L listed a s → ∀ j ∈ Region.ready md ops listed, n ≤ j) :
    ∀ (f : Nat) (listed : Array Bool) (a : Act) (σ : Sig), HeadInv md ops n listed →
      (∀ j oj, ops[j]? = some oj → j ≠ i → listed.getD j true = false → (∀ e ∈ oj.after, Region.binds md e = true → e.on ≠ i) → oi.apart ops oj = true ∧ Indep takes i j) →
      i ∈ Region.ready md ops listed → GStatus P ops C D rel takes i oi a σ O → (∀ v f', O v f' → headG P md ops C D rel takes n L f (listed.setIfInBounds i true) (a.put oi.dst v) (f' σ)) → headG P md ops C D rel takes n L (f + 1) listed a σ := by
  intro f
  induction f with
  | zero =>
    intro listed a σ inv _ hr hy H
    have hun := (mem_ready.1 hr).1
    obtain ⟨v0, f0, hO0⟩ := hy.ex
    refine ⟨List.ne_nil_of_mem hr, fun j hj => ?_⟩
    have hjn : j < n := hw _ inv hun j hj
    refine ⟨hjn, ?_⟩
    by_cases hji : j = i
    · subst hji; exact gOp_of hi hy H
    · exact absurd (hdone _ _ _ (H v0 f0 hO0) j (ready_mono hj hji)) (by omega)
  | succ f ih =>
    intro listed a σ inv hfree hr hy H
    have hun := (mem_ready.1 hr).1
    refine ⟨List.ne_nil_of_mem hr, fun j hj => ?_⟩
    have hjn : j < n := hw _ inv hun j hj
    refine ⟨hjn, ?_⟩
    by_cases hji : j = i
    · subst hji; exact gOp_of hi hy H
    · obtain ⟨hjun, oj, hoj, hall⟩ := mem_ready.1 hj
      have hnot : ∀ e ∈ oj.after, Region.binds md e = true → e.on ≠ i := fun e he hb heq => by
        have h1 := hall e he hb
        rw [heq, getD_both hun] at h1
        cases h1
      have hfj := hfree j oj hoj hji hjun hnot
      have h2 := gOp_put hD hoj hfj.1 hfj.2 (fun cs b => hsel i oi cs b hi) (fun cs b => hsel j oj cs b hoj) hy (fun v f' hO => ((H v f' hO).2 j (ready_mono hj hji)).2)
      refine gOp_mono (fun a' s' h3 => ih (listed.setIfInBounds j true) a' s' (inv.set hj hjn) (fun k ok hk hki hku hno => hfree k ok hk hki ?_ hno) (ready_mono hr (Ne.symm hji)) h3.1 (fun v f' hO => by rw [Array.setIfInBounds_comm _ _ hji]; exact h3.2 v f' hO)) h2
      by_cases hjk : j = k
      · subst hjk; exact hjun
      · rwa [getD_set_ne true hjk] at hku

/-- the plan's own check: who comes later than k and does not wait for it, does not meet it -/
def planB (takes : Nat → List Nat) (ops : Array Oper) (md : Region.Mode) : Bool :=
  (List.range ops.size).all fun k => (List.range ops.size).all fun j => Nat.ble j k || (match ops[j]? with | some oj => oj.after.any (fun e => Region.binds md e && e.on == k) | none => true) ||
    (!(takes j).contains k && !(takes k).contains j && (takes k).all fun x => !(takes j).contains x)
theorem planB_spec (h : planB takes ops md = true) {k j : Nat} {oj : Oper} (hj : ops[j]? = some oj) (hkj : k < j) (hno : ∀ e ∈ oj.after, Region.binds md e = true → e.on ≠ k) : Indep takes k j := by
  unfold planB at h
  simp only [List.all_eq_true, List.mem_range] at h
  have hjs := (Array.getElem?_eq_some_iff.1 hj).1
  have h1 := h k (by omega) j hjs
  simp only [hj, Bool.or_eq_true] at h1
  rcases h1 with (h1 | h1) | h1
  · have := Nat.le_of_ble_eq_true h1; omega
  · obtain ⟨x, hx, h2⟩ := Array.any_eq_true.1 h1
    simp only [Bool.and_eq_true, beq_iff_eq] at h2
    exact absurd h2.2 (hno _ (Array.getElem_mem hx) h2.1)
  · simp only [Bool.and_eq_true, Bool.not_eq_true', List.all_eq_true] at h1
    refine ⟨by omega, fun hk => ?_, fun hk => ?_, fun x hx hx' => ?_⟩
    · have := h1.1.1; simp [hk] at this
    · have := h1.1.2; simp [hk] at this
    · have := h1.2 x hx; simp [hx'] at this

theorem headG_lex (hD : ∃ w, D w) {n g : Nat} {Lq : Act → Sig → Prop} (hsel : Region.noSelect ops = true) (hw : ∀ i, i < n → ∀ listed, HeadInv md ops n listed → listed.getD i true = false → ∀ j ∈ Region.ready md ops listed, j < n)
    (hpl : planB takes ops md = true) :
    ∀ (l : List Oper) (k : Nat) (listed : Array Bool) (a : Act) (σ : Sig), (∀ j, j < l.length → l[j]? = ops[k + j]?) → k + l.length = n → HeadInv md ops n listed → (∀ j, j < k → listed.getD j true = true) →
    Region.lexHead md ops g l.length k listed = true → wpGive P ops C D rel takes Lq k l a σ → headG P md ops C D rel takes n (fun listed' a' s' => Region.seqB md ops g n listed' = true ∧ Lq a' s') l.length listed a σ
  | [], k, listed, a, σ, _, hk, _, _, hB, h => by
    have : k = n := by simpa using hk
    subst this
    exact ⟨by simpa [Region.lexHead] using hB, h⟩
  | o :: l, k, listed, a, σ, hl, hk, inv, hlo, hB, h => by
    have h0 : ops[k]? = some o := by simpa using (hl 0 (by simp)).symm
    simp only [List.length_cons, Region.lexHead, Bool.and_eq_true] at hB
    obtain ⟨⟨hr, hf⟩, hB'⟩ := hB
    simp only [List.length_cons] at hk
    have hr' : k ∈ Region.ready md ops listed := by simpa using hr
    obtain ⟨O, hy, hK⟩ := h
    refine headG_first hD h0 (Region.noSelect_spec hsel) (hw k (by omega)) (by omega) (fun listed' a' s' hL => seqB_ready hL.1) l.length listed a σ inv (fun j oj hj hjk hun hno => ⟨Region.free_spec h0 hf j oj hj hjk hun hno, planB_spec hpl hj ?_ hno⟩) hr' hy (fun v f hO =>
      headG_lex hD hsel hw hpl l (k + 1) _ _ _ (fun j hj => by have := hl (j + 1) (by simp; omega); simpa [Nat.add_assoc, Nat.add_comm 1 j] using this) (by omega) (inv.set hr' (by omega)) (fun j hj => ?_) hB' (hK v f hO))
    · rcases Nat.lt_or_ge k j with h | h
      · exact h
      · have := hlo j (by omega)
        rw [hun] at this; cases this
    · by_cases hjk : k = j
      · subst hjk
        have hs : k < listed.size := by rw [inv.size]; exact (Array.getElem?_eq_some_iff.1 h0).1
        simp [hs]
      · rw [getD_set_ne true hjk]; exact hlo j (by omega)
end

section
variable {P : Program} {F : List Nat} {rel : Nat → Option Rel} {takes : Nat → List Nat}
/-- the things of all operations (the number N: the things that were there) -/
def sigAll (N : Nat) (σ : Sig) : List Thing := (List.range (N + 1)).flatMap σ
def GC (F : List Nat) (w : World) (N : Nat) (σ : Sig) (X : World) : Prop := SepF F w X (sigAll N σ)

theorem wp_region_give {id : Nat} {Q : Exit → Act → World → Prop} {a : Act} {w : World} {l : List Oper} (n : Nat) (rel : Nat → Option Rel) (takes : Nat → List Nat) {D : World → Prop} (σ : Sig) (hCD : ∀ X us, SepF F w X us → D X)
    (hm : P.follows .mixedOrders = true) (hB : Region.lexTailB .any l.toArray n = true) (hP : planB takes l.toArray .any = true) (hS : SepF F w w.drew (sigAll l.length σ))
    (h : wpGive P l.toArray (GC F w l.length) D rel takes (fun a' σ' => ∀ X, SepF F w X (sigAll l.length σ') → wpList P l.toArray Q (l.drop n) a' X) 0 (l.take n) a σ) : (Code.region id l.toArray true).wp P Q a w := by
  simp only [Region.lexTailB, Bool.and_eq_true, decide_eq_true_eq] at hB
  obtain ⟨⟨⟨⟨hsel, hn⟩, hs⟩, hc⟩, hlex⟩ := hB
  have hn' : n < l.length := by simpa using hn
  have htl : (l.take n).length = n := by simp; omega
  have hdl : (l.drop n).length = l.toArray.size - n := by simp
  have inv0 : HeadInv .any l.toArray n (Array.replicate l.toArray.size false) :=
    ⟨by simp, fun j oj _ hl => (by rw [getD_replicate_false] at hl; cases hl), fun t _ ht => getD_in (by simpa using ht) (getD_replicate_false _ _)⟩
  have hD : ∃ w, D w := ⟨_, hCD _ _ hS⟩
  have H := headG_lex (md := .any) (g := l.toArray.size - n) hD hsel (fun i hi listed inv hun j hj => Nat.lt_of_not_le fun h => tail_waits hs hc hn inv _ i rfl hi hun j h hj) hP (l.take n) 0 _ a σ (fun j hj => by
    have hj' : j < n := by rw [htl] at hj; exact hj
    simp [hj']) (by simpa using htl) inv0 (fun j hj => by omega) (by rw [htl]; exact hlex) h
  refine wp_region_any hm ?_
  have := headG_any (Q := Q) (C := GC F w l.length) (D := D) (g := l.toArray.size - n) (fun s X hX => hCD X _ hX) (fun listed a' s' w' hw' hL => by
    have := wpAny_of_seq (md := .any) (Q' := Q) (l.drop n) n listed a' w' (fun j => by simp [List.getElem?_drop]) (by rw [hdl]; exact hL.1) (hL.2 w' hw')
    rwa [hdl] at this) _ _ _ _ _ hS H
  rw [htl, show n + (l.toArray.size - n) = l.toArray.size by omega] at this
  exact this

theorem lexHead_of_from (md : Region.Mode) (ops : Array Oper) : ∀ (fuel k : Nat) (listed : Array Bool), Region.lexFrom md ops fuel k listed = true → Region.lexHead md ops 0 fuel k listed = true
  | 0, k, listed, h => by simpa [Region.lexHead, Region.lexFrom, Region.seqB] using h
  | f + 1, k, listed, h => by
    simp only [Region.lexFrom, Region.lexHead, Bool.and_eq_true] at h ⊢
    exact ⟨h.1, lexHead_of_from md ops f _ _ h.2⟩
/-- the same, all of the region in the walk -/
theorem wp_region_give_all {id : Nat} {Q : Exit → Act → World → Prop} {a : Act} {w : World} {l : List Oper} (rel : Nat → Option Rel) (takes : Nat → List Nat) {D : World → Prop} (σ : Sig) (hCD : ∀ X us, SepF F w X us → D X)
    (hm : P.follows .mixedOrders = true) (hB : Region.lexB .any l.toArray = true) (hP : planB takes l.toArray .any = true) (hS : SepF F w w.drew (sigAll l.length σ))
    (h : wpGive P l.toArray (GC F w l.length) D rel takes (fun a' σ' => ∀ X, SepF F w X (sigAll l.length σ') → Q .normal a' X) 0 l a σ) : (Code.region id l.toArray true).wp P Q a w := by
  simp only [Region.lexB, Bool.and_eq_true] at hB
  have inv0 : HeadInv .any l.toArray l.length (Array.replicate l.toArray.size false) :=
    ⟨by simp, fun j oj _ hl => (by rw [getD_replicate_false] at hl; cases hl), fun t h1 ht => by simp at ht; omega⟩
  have hD : ∃ w, D w := ⟨_, hCD _ _ hS⟩
  have H := headG_lex (md := .any) (n := l.length) (g := 0) (Lq := fun a' σ' => ∀ X, SepF F w X (sigAll l.length σ') → Q .normal a' X) hD hB.1 (fun i hi listed inv hun j hj => by
    obtain ⟨_, o, ho, _⟩ := mem_ready.1 hj
    simpa using (Array.getElem?_eq_some_iff.1 ho).1) hP l 0 _ a σ (fun j hj => by simp) (by simp) inv0 (fun j hj => by omega) (lexHead_of_from _ _ _ _ _ (by simpa using hB.2)) h
  refine wp_region_any hm ?_
  have := headG_any (Q := Q) (C := GC F w l.length) (D := D) (g := 0) (fun s X hX => hCD X _ hX) (fun listed a' s' w' hw' hL => ⟨by simpa [Region.seqB] using hL.1, hL.2 w' hw'⟩) _ _ _ _ _ hS H
  simpa using this

/-- nothing that was there has turned -/
theorem sep_und {w X : World} {us : List Thing} (h : SepF [] w X us) : ∃ x : Und w, X = und w x := ⟨⟨X, h.bel0⟩, rfl⟩
end

section
variable {P : Program} {ops : Array Oper} {C : Sig → World → Prop} {D : World → Prop} {rel : Nat → Option Rel} {takes : Nat → List Nat} {Q : Act → Sig → Prop} {i : Nat} {o : Oper} {rest : List Oper} {a : Act} {σ : Sig}
theorem give_nil (h : Q a σ) : wpGive P ops C D rel takes Q i [] a σ := h
theorem give_skip (hw : Region.wanted o (yielded ops a.tmps) = false) (h : wpGive P ops C D rel takes Q (i + 1) rest (a.put o.dst undef) σ) : wpGive P ops C D rel takes Q i (o :: rest) a σ :=
  ⟨_, .inl ⟨hw, rfl⟩, fun v f ⟨h1, h2⟩ => by subst h1; subst h2; exact h⟩
def Op.enters : Op → Bool
  | .move _ | .assign _ | .pick .. | .nilCheck .. | .load .. | .fieldAddr .. | .field .. | .indexAddr .. | .index .. | .build .. | .binOp .. | .unOp .. | .convert .. | .slice .. | .extract .. => false
  | .call c => match c.callee with
    | .builtin .len | .builtin .cap | .builtin .max | .builtin .min => false
    | _ => true
  | _ => true
theorem noE {s : Sem Value} {P : Program} {w w' : World} {f : FuncId} {args : Array Value} : (do pure (Next.value (← s)) : Sem Next).run P w ≠ .ok (.enter f args) w' := by
  intro e
  simp only [Sem.run_bind, Sem.run_pure] at e
  cases h : s.run P w <;> rw [h] at e <;> simp [Result.andThen] at e
theorem noP {P : Program} {w w' : World} {n : Next} : (runtimePanic .nilDeref : Sem Next).run P w ≠ .ok n w' := by
  simp [runtimePanic, go_sem]
theorem no_enter {o : Oper} (h : Op.enters o.op = false) (ρ : Operand → Value) (P : Program) (w w' : World) (f : FuncId) (args : Array Value) : (execOp ρ o).run P w ≠ .ok (.enter f args) w' := by
  unfold execOp
  cases ho : o.op <;> rw [ho] at h <;> simp only [Op.enters, reduceCtorEq] at h <;> try exact noE
  · simp
  · simp
  · intro e
    simp only [Sem.run_bind, Sem.run_pure] at e
    revert e
    generalize (asBool _).run P w = r
    cases r <;> simp [Result.andThen]
  · rename_i x
    dsimp only
    split
    · exact noP
    · exact noP
    · exact noP
    · split
      · exact noP
      · intro e
        simp only [Sem.run_bind] at e
        generalize Sem.run P program w = r1 at e
        cases r1 with
        | halt h1 w1 => simp [Result.andThen] at e
        | ok a1 w1 =>
          simp only [Result.andThen_ok] at e
          generalize Sem.run P _ w1 = r2 at e
          cases r2 with
          | halt h1 w2 => simp [Result.andThen] at e
          | ok a2 w2 =>
            simp only [Result.andThen_ok] at e
            split at e
            · simp only [Sem.run_bind, Sem.run_pure] at e
              generalize Sem.run P (unsupported _) w2 = r3 at e
              cases r3 <;> simp [Result.andThen] at e
            · simp at e
      · simp
    · simp
  · rename_i c
    cases hc : c.callee <;> rw [hc] at h <;> try cases h
    rename_i b
    cases b <;> (try cases h) <;> (simp only [resolve, hc, invoke, builtin, Sem.run_bind, Sem.run_pure, Result.andThen_ok]; intro e; revert e; generalize Sem.run P _ w = r; cases r <;> simp [Result.andThen])
theorem det_of_quiet {v : Value} (h : Op.enters o.op = false) (hq : ∀ w, D w → o.quietAt P a D w v) : GDet P D o a v := fun w hw => by
  have h1 := hq w hw
  unfold Oper.quietAt at h1
  have h2 := no_enter h a.eval P w
  generalize (execOp a.eval o).run P w = R at *
  cases R with
  | ok n w' =>
    cases n <;> simp only [Oper.quietUpon] at h1
    · exact h1
    · exact ⟨h1.1, h1.2.symm⟩
    · exact absurd rfl (h2 _ _ _)
  | halt x w' => exact h1.elim
theorem give_det (hw : Region.wanted o (yielded ops a.tmps) = true) (hr : rel i = none) (hc : Op.enters o.op = false) (h : ∀ K : Act → Prop, (∀ a, wpGive P ops C D rel takes Q (i + 1) rest a σ → K a) → o.quiet P a D K) : wpGive P ops C D rel takes Q i (o :: rest) a σ := by
  obtain ⟨v, h1, h2⟩ := h _ fun _ h => h
  exact ⟨_, .inr (.inl ⟨hw, hr, v, det_of_quiet hc h1, rfl⟩), fun u f ⟨h3, h4⟩ => by subst h3; subst h4; exact h2⟩
theorem give_rel {r : Rel} (hw : Region.wanted o (yielded ops a.tmps) = true) (hr : rel i = some r) (hv : GValid P C takes i o a σ (GRelAt takes r i o a σ)) (hin : ∃ v ds, GRelAt takes r i o a σ v ds)
    (h : ∀ v ds, GRelAt takes r i o a σ v ds → wpGive P ops C D rel takes Q (i + 1) rest (a.put o.dst v) (sigUpd takes σ i ds)) : wpGive P ops C D rel takes Q i (o :: rest) a σ :=
  ⟨_, .inr (.inr ⟨hw, r, hr, hv, hin, rfl⟩), fun v f ⟨ds, h3, h4⟩ => by subst h4; exact h v ds h3⟩
end

/-- what one operation that gives must bring: its value in slot d, and the things, in the place of those that it takes -/
def GvQ (F : List Nat) (w : World) (r : Value → List Thing → Prop) (d : Nat) (df : List Deferred) (rest : List Thing) (x : Exit) (a' : Act) (w' : World) : Prop :=
  x = .normal ∧ a'.defers = df ∧ ∃ ds, r (a'.tmps.getD d undef) ds ∧ SepF F w w' (ds ++ rest)

theorem flatMap_filter_not {β : Type} (p : β → Bool) (f : β → List Thing) : ∀ l : List β, l.flatMap (fun k => bif p k then [] else f k) = (l.filter fun k => !p k).flatMap f
  | [] => rfl
  | x :: l => by
    rw [List.flatMap_cons, flatMap_filter_not p f l, List.filter_cons]
    cases p x <;> simp
theorem flatMap_subN {l m : List Thing} (h : l.Sublist m) : (l.flatMap (·.fp)).Sublist (m.flatMap (·.fp)) := by
  induction h with
  | slnil => exact List.Sublist.refl _
  | cons x h ih => rw [List.flatMap_cons]; exact ih.trans (List.sublist_append_right _ _)
  | cons_cons x h ih => rw [List.flatMap_cons, List.flatMap_cons]; exact List.Sublist.append_left ih _
theorem flatMap_sub {β : Type} (f : β → List Thing) {l m : List β} (h : l.Sublist m) : (l.flatMap f).Sublist (m.flatMap f) := by
  induction h with
  | slnil => exact List.Sublist.refl _
  | cons x h ih => rw [List.flatMap_cons]; exact ih.trans (List.sublist_append_right _ _)
  | cons_cons x h ih => rw [List.flatMap_cons, List.flatMap_cons]; exact List.Sublist.append_left ih _
section
variable {takes : Nat → List Nat} {σ : Sig} {i N : Nat} {ds : List Thing}
theorem sigAll_upd (hi : i ≤ N) : (sigAll N (sigUpd takes σ i ds)).Perm (ds ++ sigAll N (sigUpd takes σ i [])) := by
  unfold sigAll
  have hnd : (List.range (N + 1)).Nodup := List.nodup_range
  have hm : i ∈ List.range (N + 1) := by rw [List.mem_range]; omega
  obtain ⟨s, t, hst⟩ := List.append_of_mem hm
  rw [hst] at hnd ⊢
  have hs : i ∉ s := fun h => (List.nodup_append.1 hnd).2.2 i h i (by simp) rfl
  have ht : i ∉ t := by
    have := (List.nodup_append.1 hnd).2.1
    rw [List.nodup_cons] at this
    exact this.1
  have e : ∀ l : List Nat, i ∉ l → l.flatMap (sigUpd takes σ i ds) = l.flatMap (sigUpd takes σ i []) := fun l hl => by
    rw [List.flatMap_def, List.flatMap_def]
    refine congrArg List.flatten (List.map_congr_left fun k hk => ?_)
    have : (k == i) = false := by rw [beq_eq_false_iff_ne]; rintro rfl; exact hl hk
    unfold sigUpd
    rw [this]; rfl
  have ei : ∀ es, sigUpd takes σ i es i = es := fun es => by unfold sigUpd; simp
  rw [List.flatMap_append, List.flatMap_cons, List.flatMap_append, List.flatMap_cons, e s hs, e t ht, ei, ei, List.nil_append]
  exact List.perm_append_comm_assoc _ _ _
theorem sigAll_take (hn : (takes i).Nodup) (hk : ∀ k ∈ takes i, k ≤ N) : ∃ l', l'.Perm (sigAll N σ) ∧ ((takes i).flatMap σ ++ sigAll N (sigUpd takes σ i [])).Sublist l' := by
  refine ⟨(takes i).flatMap σ ++ ((List.range (N + 1)).filter fun k => !(takes i).contains k).flatMap σ, ?_, ?_⟩
  · rw [← List.flatMap_append]
    refine List.Perm.flatMap_right _ ?_
    rw [List.perm_ext_iff_of_nodup ?_ List.nodup_range]
    · intro k
      rw [List.mem_append, List.mem_filter, List.mem_range]
      by_cases h : k ∈ takes i
      · have := hk k h
        simp [h]; omega
      · simp [h]
    · rw [List.nodup_append]
      refine ⟨hn, List.nodup_range.sublist List.filter_sublist, fun a ha b hb e => ?_⟩
      subst e
      rw [List.mem_filter] at hb
      simp [ha] at hb
  · refine List.Sublist.append_left ?_ _
    unfold sigAll
    have e : sigUpd takes σ i [] = fun k => bif (k == i || (takes i).contains k) then [] else σ k := by
      funext k
      unfold sigUpd
      cases (k == i) <;> cases (takes i).contains k <;> rfl
    rw [e, flatMap_filter_not]
    refine flatMap_sub _ ?_
    rw [show (fun k : Nat => !(k == i || (takes i).contains k)) = fun k => (!(k == i)) && (!(takes i).contains k) by funext k; rw [Bool.not_or], ← List.filter_filter]
    exact List.filter_sublist
end
theorem SepF.subE {F : List Nat} {w0 wr : World} {ts us : List Thing} (h : SepF F w0 wr ts) (hs : us.Sublist ts) : SepF F w0 wr us :=
  ⟨h.chg, h.nd.sublist (flatMap_subN hs), fun b hb => h.new b ((flatMap_subN hs).subset hb), fun t ht => h.hold t (hs.subset ht)⟩
theorem SepF.permE {F : List Nat} {w0 wr : World} {ts us : List Thing} (h : SepF F w0 wr ts) (hp : us.Perm ts) : SepF F w0 wr us :=
  h.conv (List.Perm.flatMap_right _ hp) fun u hu => h.hold u (hp.mem_iff.1 hu)
theorem SepF.sigTake {F : List Nat} {w X : World} {takes : Nat → List Nat} {σ : Sig} {i N : Nat} (h : SepF F w X (sigAll N σ)) (hn : (takes i).Nodup) (hk : ∀ k ∈ takes i, k ≤ N) : SepF F w X ((takes i).flatMap σ ++ sigAll N (sigUpd takes σ i [])) := by
  obtain ⟨l', h1, h2⟩ := sigAll_take (σ := σ) hn hk
  exact (h.permE h1).subE h2
section
variable {P : Program} {F : List Nat} {w : World} {N : Nat} {ops : Array Oper} {D : World → Prop} {rel : Nat → Option Rel} {takes : Nat → List Nat} {Q : Act → Sig → Prop} {i : Nat} {o : Oper} {rest : List Oper} {a : Act} {σ : Sig}
theorem put_get {a : Act} {d : Nat} (hs : d < a.tmps.size) (v : Value) : (a.put (some d) v).tmps.getD d undef = v := by
  simp [Act.put, hs]
theorem gvalid_of {r : Value → List Thing → Prop} (d : Nat) (hd : o.dst = some d) (hs : d < a.tmps.size) (hw : Region.wanted o (yielded ops a.tmps) = true) (hi : i ≤ N) (hn : (takes i).Nodup) (hk : ∀ k ∈ takes i, k ≤ N)
    (h : ∀ others X, SepF F w X ((takes i).flatMap σ ++ others) → wpList P ops (GvQ F w r d a.defers others) [o] a X) : GValid P (GC F w N) takes i o a σ r := by
  intro σ' X hC hag
  have e4 : (takes i).flatMap σ' = (takes i).flatMap σ := by
    rw [List.flatMap_def, List.flatMap_def]; exact congrArg List.flatten (List.map_congr_left hag)
  have h0 : SepF F w X (sigAll N σ') := hC
  have h1 := h0.sigTake hn hk
  rw [e4] at h1
  have h2 := h _ X h1
  have fin : ∀ u w', GvQ F w r d a.defers (sigAll N (sigUpd takes σ' i [])) .normal (a.put o.dst u) w' → ∃ ds, r u ds ∧ GC F w N (sigUpd takes σ' i ds) w' := fun u w' ⟨_, _, ds, h3, h4⟩ => by
    rw [hd, put_get hs] at h3
    exact ⟨ds, h3, h4.permE (sigAll_upd hi)⟩
  unfold wpList at h2
  rw [if_pos hw] at h2
  have h3 : o.wp P a X (fun a' w' => GvQ F w r d a.defers (sigAll N (sigUpd takes σ' i [])) .normal a' w') (GvQ F w r d a.defers (sigAll N (sigUpd takes σ' i []))) := by
    first
      | exact h2
      | exact h2.elim id fun h => by obtain ⟨_, a', w', h, _⟩ := h; cases h
  unfold Oper.wp at h3
  generalize (execOp a.eval o).run P X = R at *
  cases R with
  | ok n w' =>
    cases n <;> simp only [Oper.upon] at h3 <;> simp only [ups] <;> first | exact fin _ _ h3 | skip
    · refine h3.mono fun e w'' he => ?_
      cases e with
      | returned v => exact ⟨v, rfl, fin _ _ he⟩
      | panicked c => exact absurd he.1 (by simp)
      | outgrown => obtain ⟨a', w', h, _⟩ := he; cases h
    · have := h3.2.1
      rw [hd] at this
      exact absurd this (by simp [Act.put])
    · exact Rows.mono h3 fun v w'' he => fin _ _ he
  | halt x w' => cases x <;> simp only [Oper.upon] at h3; exact absurd h3.1 (by simp)

theorem give_op {R : Rel} (d : Nat) (hw : Region.wanted o (yielded ops a.tmps) = true) (hr : rel i = some R) (hd : o.dst = some d) (hs : d < a.tmps.size) (hi : i ≤ N) (hn : (takes i).Nodup) (hk : ∀ k ∈ takes i, k ≤ N)
    (hin : ∃ v ds, R (o.op.operands.toList.map a.eval) ((takes i).flatMap σ) v ds)
    (h : ∀ others X, SepF F w X ((takes i).flatMap σ ++ others) → wpList P ops (GvQ F w (R (o.op.operands.toList.map a.eval) ((takes i).flatMap σ)) d a.defers others) [o] a X)
    (hnext : ∀ v ds, R (o.op.operands.toList.map a.eval) ((takes i).flatMap σ) v ds → wpGive P ops (GC F w N) D rel takes Q (i + 1) rest (a.put (some d) v) (sigUpd takes σ i ds)) : wpGive P ops (GC F w N) D rel takes Q i (o :: rest) a σ :=
  give_rel hw hr (gvalid_of d hd hs hw hi hn hk h) hin (fun v ds hv => by rw [hd]; exact hnext v ds hv)
end

section
variable {P : Program} {F : List Nat} {w : World} {N : Nat} {ops : Array Oper} {D : World → Prop} {rel : Nat → Option Rel} {takes : Nat → List Nat} {Q : Act → Sig → Prop} {i : Nat} {o : Oper} {rest : List Oper} {a : Act} {σ : Sig}
/-- an operation that takes nothing -/
theorem give_op0 {R : Rel} (d : Nat) (hw : Region.wanted o (yielded ops a.tmps) = true) (hr : rel i = some R) (hd : o.dst = some d) (hs : Nat.blt d a.tmps.size = true) (hi : Nat.ble i N = true) (ht : takes i = [])
    (hin : ∃ v ds, R (o.op.operands.toList.map a.eval) [] v ds)
    (h : ∀ others X, SepF F w X others → wpList P ops (GvQ F w (R (o.op.operands.toList.map a.eval) []) d a.defers others) [o] a X)
    (hnext : ∀ v ds, R (o.op.operands.toList.map a.eval) [] v ds → wpGive P ops (GC F w N) D rel takes Q (i + 1) rest (a.put (some d) v) (sigUpd takes σ i ds)) : wpGive P ops (GC F w N) D rel takes Q i (o :: rest) a σ := by
  have e : (takes i).flatMap σ = [] := by rw [ht]; rfl
  refine give_op d hw hr hd (by simpa [Nat.blt_eq] using hs) (Nat.le_of_ble_eq_true hi) (by rw [ht]; exact List.nodup_nil) (by rw [ht]; intro k hk; cases hk) ?_ ?_ ?_
  · rw [e]; exact hin
  · rw [e]; exact h
  · rw [e]; exact hnext
/-- an operation that takes what operation k gave -/
theorem give_op1 {R : Rel} (d k : Nat) (hw : Region.wanted o (yielded ops a.tmps) = true) (hr : rel i = some R) (hd : o.dst = some d) (hs : Nat.blt d a.tmps.size = true) (hi : Nat.ble i N = true) (ht : takes i = [k]) (hk : Nat.ble k N = true)
    (tk : List Thing) (htk : σ k = tk)
    (hin : ∃ v ds, R (o.op.operands.toList.map a.eval) tk v ds)
    (h : ∀ others X, SepF F w X (tk ++ others) → wpList P ops (GvQ F w (R (o.op.operands.toList.map a.eval) tk) d a.defers others) [o] a X)
    (hnext : ∀ v ds, R (o.op.operands.toList.map a.eval) tk v ds → wpGive P ops (GC F w N) D rel takes Q (i + 1) rest (a.put (some d) v) (sigUpd takes σ i ds)) : wpGive P ops (GC F w N) D rel takes Q i (o :: rest) a σ := by
  have e : (takes i).flatMap σ = tk := by rw [ht, ← htk]; simp
  refine give_op d hw hr hd (by simpa [Nat.blt_eq] using hs) (Nat.le_of_ble_eq_true hi) (by rw [ht]; simp) (by rw [ht]; intro x hx; rw [List.mem_singleton.1 hx]; exact Nat.le_of_ble_eq_true hk) ?_ ?_ ?_
  · rw [e]; exact hin
  · rw [e]; exact h
  · rw [e]; exact hnext
end
theorem sep_eq {F : List Nat} {w0 wr : World} {ts us : List Thing} (h : SepF F w0 wr ts) (e : ts = us) : SepF F w0 wr us := e ▸ h
theorem SepF.startDrew (w : World) : SepF [] w w.drew [] := ⟨Chg.of_below (Below.refl _ _).drew, by simp, by simp, by simp⟩
/-- things of a call behind the things that were there -/
theorem SepF.join {F : List Nat} {w0 wr W : World} {ts us : List Thing} (h : SepF F w0 wr ts) (hS : SepF [] wr W us) : SepF F w0 W (us ++ ts) := by
  have h1 := h.step hS.bel0
  refine ⟨h1.chg, ?_, fun b hb => ?_, fun u hu => ?_⟩
  · rw [List.flatMap_append, List.nodup_append]
    refine ⟨hS.nd, h.nd, fun x hx y hy e => ?_⟩
    subst e
    have h2 := h.lt x hy
    rcases hS.new x hx with h3 | h3
    · cases h3
    · omega
  · rw [List.flatMap_append] at hb
    rcases List.mem_append.1 hb with hb | hb
    · rcases hS.new b hb with h3 | h3
      · cases h3
      · have := h.chg.size; exact .inr (by omega)
    · exact h.new b hb
  · rcases List.mem_append.1 hu with hu | hu
    · exact hS.hold u hu
    · exact h1.hold u hu
/-- what operations give -/
def gSl {α : Type} (E : Rep α) (e : TypeId) (xs : List α) : Rel := fun _ _ v ds => ∃ A n c fp, v = .slice A n c ∧ ds = [tsl E e xs (.slice A n c) fp] ∧ Hid (n = xs.length)
def gPtr (T : TypeId) (cs : List Value) : Rel := fun _ _ v ds => ∃ g, v = .pointer (some ⟨g, 0, none⟩) ∧ ds = [tblk g T cs]
def gEmp (e : TypeId) : Rel := fun _ _ v ds => ∃ g, v = .slice (some ⟨g, 0, none⟩) 0 0 ∧ ds = [tblk g e []]
def gVal (x : Value) : Rel := fun _ _ v ds => v = x ∧ ds = []
theorem gSl_in {α : Type} {E : Rep α} {e : TypeId} {xs : List α} {vals : List Value} {tk : List Thing} : ∃ v ds, gSl E e xs vals tk v ds := ⟨_, _, none, xs.length, 0, [], rfl, rfl, rfl⟩
theorem gPtr_in {T : TypeId} {cs vals : List Value} {tk : List Thing} : ∃ v ds, gPtr T cs vals tk v ds := ⟨_, _, 0, rfl, rfl⟩
theorem gEmp_in {e : TypeId} {vals : List Value} {tk : List Thing} : ∃ v ds, gEmp e vals tk v ds := ⟨_, _, 0, rfl, rfl⟩
theorem gVal_in {x : Value} {vals : List Value} {tk : List Thing} : ∃ v ds, gVal x vals tk v ds := ⟨_, _, rfl, rfl⟩
section
variable {F : List Nat} {w X W : World} {others : List Thing} {vals : List Value} {tk : List Thing} {d : Nat} {df : List Deferred} {a' : Act}
theorem gvq_sl {α : Type} {E : Rep α} {e : TypeId} {xs : List α} {A : Option Addr} {n c : Nat} {fp : List Nat} (h : SepF F w X others) (hb : Below X.heap.size X W) (hs : SlOwn E e W xs (.slice A n c) fp) (hnd : fp.Nodup) (hnew : ∀ b, b ∈ fp → X.heap.size ≤ b)
    (hv : a'.tmps.getD d undef = .slice A n c) (hdf : a'.defers = df) : GvQ F w (gSl E e xs vals tk) d df others .normal a' W := by
  obtain ⟨A', n', c', h1, h2, _⟩ := hs.form
  injection h1 with e1 e2 e3
  exact ⟨rfl, hdf, _, ⟨A, n, c, fp, hv, rfl, e2.trans h2⟩, h.add hb (t := tsl E e xs (.slice A n c) fp) hs hnd hnew⟩
theorem gvq_ptr {T : TypeId} {cs : List Value} {g : Nat} (h : SepF F w X others) (hg : X.heap.size = g) (hv : a'.tmps.getD d undef = .pointer (some ⟨g, 0, none⟩)) (hdf : a'.defers = df) : GvQ F w (gPtr T cs vals tk) d df others .normal a' (X.alloc (.cells cs.toArray T)) :=
  ⟨rfl, hdf, _, ⟨_, hv, rfl⟩, h.alloc' hg T cs⟩
theorem gvq_emp {e : TypeId} {g : Nat} (h : SepF F w X others) (hg : X.heap.size = g) (hv : a'.tmps.getD d undef = .slice (some ⟨g, 0, none⟩) 0 0) (hdf : a'.defers = df) : GvQ F w (gEmp e vals tk) d df others .normal a' (X.alloc (.cells #[] e)) :=
  ⟨rfl, hdf, _, ⟨_, hv, rfl⟩, h.alloc' hg e []⟩
theorem gvq_val {x : Value} (h : SepF F w X others) (hb : Below X.heap.size X W) (hv : a'.tmps.getD d undef = x) (hdf : a'.defers = df) : GvQ F w (gVal x vals tk) d df others .normal a' W :=
  ⟨rfl, hdf, [], ⟨hv, rfl⟩, h.step hb⟩
end
end Mm
end Go.Proofs.Ytpmeagchkcffoaa

/-
  An owned slice whose element k is itself owned: the element is replaced by one that leads elsewhere; an element that is a slice grows by append. No program in sight. No conditions.
-/
namespace Go.Proofs.Ytpmeagchkcffoaa
open Go.RowKit
namespace Mm
section
variable {α : Type} {E : Rep α} {e : TypeId} {w : World} {xs : List α} {fp : List Nat}
theorem SlOwn.repl {g n c : Nat} (h : SlOwn E e w xs (.slice (some ⟨g, 0, none⟩) n c) fp) (hnd : fp.Nodup) (hE : E.size = 1) {i : Nat} {x : α} (hi : xs[i]? = some x) :
    ∃ cs fx, E.own w x cs fx ∧ fx.Nodup ∧ (∀ b, b ∈ fx → b ∈ fp ∧ b ≠ g) ∧ (∀ j u, cs[j]? = some u → w.cell? ⟨g, i + j, none⟩ = some u) ∧
      ∀ W x' u' fx', Chg fx w W → E.own (W.setCell ⟨g, i, none⟩ u') x' [u'] fx' → fx'.Nodup → (∀ b, b ∈ fx' → b ∈ fx ∨ w.heap.size ≤ b) →
        ∃ fp', SlOwn E e (W.setCell ⟨g, i, none⟩ u') (xs.set i x') (.slice (some ⟨g, 0, none⟩) n c) fp' ∧ fp'.Nodup ∧ ∀ b, b ∈ fp' → b ∈ fp ∨ w.heap.size ≤ b := by
  obtain ⟨es, he, ho, rfl⟩ := h
  have hn : n = xs.length := by
    rcases ho.2 with ⟨h, _⟩ | ⟨g', cap, cur, h, _⟩
    · cases h
    · injection h
  subst hn
  have hil : i < xs.length := (List.getElem?_eq_some_iff.1 hi).1
  have hie : i < es.length := by rw [he.1]; exact hil
  have hy := List.getElem?_eq_getElem hie
  have hown := he.2 i x _ hi hy
  simp only [Value.ownBlock, Option.toList_some, List.singleton_append, List.nodup_cons] at hnd
  have hgn : ∀ y ∈ es, g ∉ y.2 := fun y hy hg => hnd.1 (List.mem_flatMap.2 ⟨y, hy, hg⟩)
  have e1 : es = es.take i ++ es[i] :: es.drop (i + 1) := by rw [← List.drop_eq_getElem_cons hie, List.take_append_drop]
  have hd := hnd.2
  rw [e1] at hd
  simp only [List.flatMap_append, List.flatMap_cons, List.nodup_append] at hd
  have hmem : ∀ b, b ∈ es[i].2 → b ∈ es.flatMap (·.2) := fun b hb => List.mem_flatMap.2 ⟨_, List.getElem_mem hie, hb⟩
  have hlt : g < w.heap.size := (ho.lt g (by simp [Value.ownBlock])).2
  have holt : ∀ b, b ∈ es.flatMap (·.2) → b < w.heap.size := fun b hb => by
    obtain ⟨y, hy, hb⟩ := List.mem_flatMap.1 hb
    obtain ⟨k, hk, rfl⟩ := List.mem_iff_getElem.1 hy
    exact E.olt (he.2 k _ _ (List.getElem?_eq_getElem (show k < xs.length by rw [← he.1]; exact hk)) (List.getElem?_eq_getElem hk)) b hb
  refine ⟨es[i].1, es[i].2, hown, hd.2.1.1, fun b hb => ⟨List.mem_append_right _ (hmem b hb), fun e => hgn _ (List.getElem_mem hie) (e ▸ hb)⟩, fun j u hu => ?_, fun W x' u' fx' hc hx' hxn hxs => ?_⟩
  · have := ho.cells (g := g) rfl (i * E.size + j) u (flatMap_get (·.1) E.size es he.len i _ j u hy hu)
    rw [add0, hE, Nat.mul_one] at this
    exact this
  · have m1 : ∀ y, y ∈ es.take i → ∀ b, b ∈ y.2 → b ∉ es[i].2 := fun y hy b hb hm => hd.2.2 b (List.mem_flatMap.2 ⟨y, hy, hb⟩) b (List.mem_append_left _ hm) rfl
    have m2 : ∀ y, y ∈ es.drop (i + 1) → ∀ b, b ∈ y.2 → b ∉ es[i].2 := fun y hy b hb hm => hd.2.1.2.2 b hm b (List.mem_flatMap.2 ⟨y, hy, hb⟩) rfl
    have e2 : es.set i ([u'], fx') = es.take i ++ ([u'], fx') :: es.drop (i + 1) := List.set_eq_take_append_cons_drop.trans (by rw [if_pos hie])
    have hsub : ∀ b, b ∈ (es.set i ([u'], fx')).flatMap (·.2) → b ∈ es.flatMap (·.2) ∨ w.heap.size ≤ b := by
      intro b hb
      obtain ⟨y, hy, hb⟩ := List.mem_flatMap.1 hb
      rcases List.mem_or_eq_of_mem_set hy with h | rfl
      · exact .inl (List.mem_flatMap.2 ⟨y, h, hb⟩)
      · rcases hxs b hb with h | h
        · exact .inl (hmem b h)
        · exact .inr h
    have hoW : W.ownsRow 0 e E.size (.slice (some ⟨g, 0, none⟩) xs.length c) xs.length (es.flatMap (·.1)) := by
      refine ⟨ho.1, ?_⟩
      rcases ho.2 with h | ⟨g', cap, cur, hv, h1, h2, h3⟩
      · exact .inl h
      · injection hv with hA _ hcap
        subst hcap
        injection hA with hA
        injection hA with hA
        subst hA
        exact .inr ⟨g, _, cur, rfl, h1, (hc.block g hlt (hgn _ (List.getElem_mem hie))).trans h2, h3⟩
    refine ⟨_, ⟨es.set i ([u'], fx'), ⟨by rw [List.length_set, List.length_set, he.1], fun k y z hy hz => ?_⟩, ?_, rfl⟩, ?_, ?_⟩
    · by_cases hki : i = k
      · subst hki
        rw [List.getElem?_set_self hie] at hz
        rw [List.getElem?_set_self hil] at hy
        injection hy with hy; injection hz with hz
        subst hy; subst hz
        exact hx'
      · rw [List.getElem?_set_ne hki] at hz hy
        have hk := he.2 k y z hy hz
        refine E.okeep hk fun b hb => (Below.heap_setCell _ _ _ _ (show b ≠ g from fun e => hgn z (List.mem_of_getElem? hz) (e ▸ hb))).trans (hc.block b (E.olt hk b hb) ?_)
        have hkl : k < es.length := (List.getElem?_eq_some_iff.1 hz).1
        rcases Nat.lt_or_gt_of_ne hki with h | h
        · refine m2 z (List.mem_of_getElem? (i := k - (i + 1)) ?_) b hb
          rw [List.getElem?_drop, show i + 1 + (k - (i + 1)) = k by omega]
          exact hz
        · refine m1 z (List.mem_of_getElem? (i := k) ?_) b hb
          rw [List.getElem?_take, if_pos h]
          exact hz
    · rw [List.length_set]
      have h1 := (hoW.stored i u').1
      have hll := setList_elems E.size es i [u'] fx' he.len (by rw [hE]; rfl) hie
      have h2 : setList (es.flatMap (·.1)) (i * E.size) [u'] = (es.flatMap (·.1)).set i u' := by rw [hE, Nat.mul_one]; rfl
      rw [← hll, h2]
      rw [hE] at h1 ⊢
      exact h1
    · simp only [Value.ownBlock, Option.toList_some, List.singleton_append, List.nodup_cons]
      refine ⟨fun hg => ?_, ?_⟩
      · rcases hsub g hg with h | h
        · exact hnd.1 h
        · omega
      rw [e2]
      simp only [List.flatMap_append, List.flatMap_cons, List.nodup_append]
      refine ⟨hd.1, ⟨hxn, hd.2.1.2.1, fun a ha b hb hab => ?_⟩, fun a ha b hb hab => ?_⟩
      · rcases hxs a ha with h | h
        · exact hd.2.1.2.2 a h b hb hab
        · subst hab
          have := holt a (by rw [e1]; simp only [List.flatMap_append, List.flatMap_cons]; exact List.mem_append_right _ (List.mem_append_right _ hb))
          omega
      · subst hab
        rcases List.mem_append.1 hb with hb | hb
        · rcases hxs a hb with h | h
          · exact hd.2.2 a ha a (List.mem_append_left _ h) rfl
          · have := holt a (by rw [e1]; simp only [List.flatMap_append]; exact List.mem_append_left _ ha)
            omega
        · exact hd.2.2 a ha a (List.mem_append_right _ hb) rfl
    · intro b hb
      rcases List.mem_append.1 hb with h | h
      · exact .inl (List.mem_append_left _ h)
      · rcases hsub b h with h | h
        · exact .inl (List.mem_append_right _ h)
        · exact .inr h
end
theorem cell_heq {w w' : World} {g : Nat} (h : w'.heap[g]? = w.heap[g]?) (i : Nat) : w'.cell? ⟨g, i, none⟩ = w.cell? ⟨g, i, none⟩ := by simp [World.cell?, h]
theorem frz_heq {w w' : World} {g : Nat} (h : w'.heap[g]? = w.heap[g]?) (i : Nat) : w'.frozen? ⟨g, i, none⟩ = w.frozen? ⟨g, i, none⟩ := by simp [World.frozen?, h]
/-- the inner slice of element k, alone: when it has become another, its header is stored in its place -/
theorem SepF.openIn {β : Type} {E1 : Rep β} {e1 e2 : TypeId} {F : List Nat} {w0 wr : World} {ts : List Thing} {xss : List (List β)} {ys : List β} {fp : List Nat} {g n c k : Nat}
    (h : SepF F w0 wr ts) (i : Nat) (hi : ts[i]? = some (tsl (slice E1 e1) e2 xss (.slice (some ⟨g, 0, none⟩) n c) fp)) (hk : xss[k]? = some ys) :
    ∃ A m d fx, wr.cell? ⟨g, k, none⟩ = some (.slice A m d) ∧ m = ys.length ∧ SlOwn E1 e1 wr ys (.slice A m d) fx ∧ fx.Nodup ∧ g ∉ fx ∧ (∀ (j : Nat) u, j ≠ i → ts[j]? = some u → ∀ b, b ∈ u.fp → b ∉ fx) ∧ (∀ b, b ∈ fx → b ∈ fp) ∧
      ∀ W ys' A' m' d' fx', SepF fx wr W [tsl E1 e1 ys' (.slice A' m' d') fx'] →
        W.cell? ⟨g, k, none⟩ = some (.slice A m d) ∧ W.frozen? ⟨g, k, none⟩ = false ∧ (∀ (j : Nat) u, j ≠ i → ts[j]? = some u → u.holds W) ∧
        ∃ fp', SepF F w0 (W.setCell ⟨g, k, none⟩ (.slice A' m' d')) (ts.set i (tsl (slice E1 e1) e2 (xss.set k ys') (.slice (some ⟨g, 0, none⟩) n c) fp')) := by
  have ho : SlOwn (slice E1 e1) e2 wr xss (.slice (some ⟨g, 0, none⟩) n c) fp := h.at_ i hi
  have hg2 : g ∈ fp := ho.mem_block
  have hglt : g < wr.heap.size := ho.olt g hg2
  obtain ⟨cs, fx, k1, k2, k3, k4, k5⟩ := ho.repl (h.ndat hi) rfl hk
  obtain ⟨v, rfl, hv⟩ := k1
  obtain ⟨A, m, d, rfl, hm, hmc, _⟩ := hv.form
  have hc := k4 0 _ rfl
  have hgx : g ∉ fx := fun hh => (k3 g hh).2 rfl
  refine ⟨A, m, d, fx, hc, hm, hv, k2, hgx, fun j u hji hj b hb hm => h.apart hj hi hji b hb (k3 b hm).1, fun b hb => (k3 b hb).1, fun W ys' A' m' d' fx' hS => ?_⟩
  have hchg : Chg fx wr W := hS.chg
  have m1 : SlOwn E1 e1 W ys' (.slice A' m' d') fx' := hS.sl 0 rfl
  have hgq : ∀ b, b ∈ fx' → b ∈ fx ∨ wr.heap.size ≤ b := fun b hb => hS.new b (by simpa [tsl] using hb)
  have hgnq : g ∉ fx' := fun hh => by
    rcases hgq g hh with h | h
    · exact hgx h
    · omega
  have hown : (slice E1 e1).own (W.setCell ⟨g, k, none⟩ (.slice A' m' d')) ys' [.slice A' m' d'] fx' :=
    ⟨_, rfl, m1.okeep fun b hb => Below.heap_setCell _ _ _ _ (show b ≠ g from fun e => hgnq (e ▸ hb))⟩
  obtain ⟨fp', q1, q2, q3⟩ := k5 W ys' _ fx' hchg hown (by simpa [tsl] using hS.nd) hgq
  refine ⟨?_, ?_, fun j u hji hj => ?_, fp', ?_⟩
  · rw [cell_heq (hchg.block g hglt hgx)]
    exact hc
  · rw [frz_heq (hchg.block g hglt hgx)]
    exact ho.frozen k
  · exact u.keep (h.at_ j hj) fun b hb => hchg.block b (u.lt (h.at_ j hj) b hb) (fun hm => h.apart hj hi hji b hb (k3 b hm).1)
  · exact h.upd hi ((hchg.more fun b hb => (k3 b hb).1).setCell hg2 _) q1 q2 q3
end Mm
end Go.Proofs.Ytpmeagchkcffoaa

/-
  Regions that draw their order and append to a slice that is owned: the plan's law on append, and the class of the worlds in which only certain blocks have turned. No program in sight. No conditions.
-/
namespace Go.Proofs.Ytpmeagchkcffoaa
open Go.RowKit
/-- a world in which only blocks of F have turned -/
structure Cha (F : List Nat) (w : World) where
  X : World
  h : Mm.Chg F w X
def cha (F : List Nat) (w : World) (x : Cha F w) : World := x.X
instance (F : List Nat) (w : World) : Nonempty (Cha F w) := ⟨⟨w, Mm.Chg.refl _ _⟩⟩
theorem cha_cell {F : List Nat} {w : World} (x : Cha F w) (a : Addr) (hn : a.block ∉ F) (h : (w.cell? a).isSome = true) : (cha F w x).cell? a = w.cell? a := by
  obtain ⟨u, hu⟩ := Option.isSome_iff_exists.1 h
  exact World.cell?_of_block (x.h.block a.block (World.block_lt_of_cell? w a hu) hn)
namespace Mm
theorem SepF.atW {F : List Nat} {w0 wr W : World} {ts : List Thing} (h : SepF F w0 wr ts) (e : wr = W) : SepF F w0 W ts := e ▸ h
theorem SepF.rot3 {F : List Nat} {w0 wr : World} {ts : List Thing} {a b c : Thing} (h : SepF F w0 wr (a :: b :: c :: ts)) : SepF F w0 wr (ts ++ [a, b, c]) := h.permE (List.perm_append_comm (l₁ := ts) (l₂ := [a, b, c]))
theorem sep_cha {F : List Nat} {w X : World} {us : List Thing} (h : SepF F w X us) : ∃ x : Cha F w, X = cha F w x := ⟨⟨X, h.chg⟩, rfl⟩
section
variable {P : Program} {F : List Nat} {w X : World} {ops : Array Oper} {o : Oper} {a : Act} {others tk : List Thing} {vals : List Value}
/-- append of one element to a slice that is owned -/
theorem app_gvq {α : Type} {E : Rep α} {e : TypeId} {xs : List α} {x : α} {cx : List Value} {v : Value} {fp : List Nat} {gb : Nat} (hgd : o.guard = none) (s y : Operand) (t : TypeId)
    (ho : o.op = .call { callee := .builtin .append, args := #[s, y], argTypes := #[t, t] }) (d : Nat) (hd : o.dst = some d) (hs : Nat.blt d a.tmps.size = true) (i : TypeInfo) (z : Value) (bytes : Nat)
    (ht : P.underlying t = some (.slice e)) (hi : P.info? e = some i) (hz : i.zero = some z) (hsize : i.size = E.size) (hby : i.bytes = bytes) (hzs : z.cells.size = E.size) (h0 : 0 < E.size)
    (hsv : a.eval s = v) (hyv : a.eval y = .slice (some ⟨gb, 0, none⟩) 1 1) (hx : ∀ W, E.own W x cx []) (h63 : xs.length + 1 ≤ maxLen) (hbytes : (xs.length + 1) * bytes ≤ 140737488355328)
    (hS : SepF F w X ([tblk gb e cx, tsl E e xs v fp] ++ others)) : wpList P ops (GvQ F w (gSl E e (xs ++ [x]) vals tk) d a.defers others) [o] a X := by
  obtain ⟨l0, ho1, hnext⟩ := hS.push0 1 rfl (Below.refl _ _) (x := x) (hx _)
  have hb : Blk X gb e cx := hS.at_ 0 rfl
  unfold wpList
  rw [if_pos (by simp [Region.wanted, hgd])]
  refine .inl (wp_append_lies _ s y t ho 0 e i z E.size bytes ht hi hz hsize hby hzs h0 v xs.length l0 hsv ho1 ⟨gb, 0, none⟩ 1 1 cx hyv (by rw [Nat.one_mul]; exact E.olen (hx X)) ?_ (E.one (hx X)) (by omega) h63 hbytes (Nat.zero_le _) _ rfl ?_)
  · have h1 := World.news_of_block hb
    simpa using h1
  · intro gg cap w4 hown1 hgrow hat hlt
    obtain ⟨fp', hs4⟩ := hnext gg cap w4 hown1 hgrow hat
    have e1 : ((a.put o.dst (.slice (some ⟨gg, 0, none⟩) (xs.length + 1) cap)).tmps.getD d undef) = .slice (some ⟨gg, 0, none⟩) (xs.length + 1) cap := by
      rw [hd]; exact put_get (by simpa [Nat.blt_eq] using hs) _
    exact ⟨rfl, by rw [hd]; rfl, _, ⟨some ⟨gg, 0, none⟩, xs.length + 1, cap, fp', e1, rfl, by show _ = _; simp⟩, hs4.tail⟩
/-- the block of the elements that are to be appended -/
def gBs (e : TypeId) (cx : List Value) : Rel := fun _ _ v ds => ∃ g, v = .slice (some ⟨g, 0, none⟩) 1 1 ∧ ds = [tblk g e cx]
theorem gBs_in {e : TypeId} {cx : List Value} {vals : List Value} {tk : List Thing} : ∃ v ds, gBs e cx vals tk v ds := ⟨_, _, 0, rfl, rfl⟩
theorem gvq_bs {e : TypeId} {cx : List Value} {g d : Nat} {df : List Deferred} {a' : Act} (h : SepF F w X others) (hg : X.heap.size = g) (hv : a'.tmps.getD d undef = .slice (some ⟨g, 0, none⟩) 1 1) (hdf : a'.defers = df) : GvQ F w (gBs e cx vals tk) d df others .normal a' (X.alloc (.cells cx.toArray e)) :=
  ⟨rfl, hdf, _, ⟨_, hv, rfl⟩, h.alloc' hg e cx⟩
end
section
variable {P : Program} {F : List Nat} {w : World} {N : Nat} {ops : Array Oper} {D : World → Prop} {rel : Nat → Option Rel} {takes : Nat → List Nat} {Q : Act → Sig → Prop} {i : Nat} {o : Oper} {rest : List Oper} {a : Act} {σ : Sig}
/-- an operation that takes what operations j and k gave -/
theorem give_op2 {R : Rel} (d j k : Nat) (hw : Region.wanted o (yielded ops a.tmps) = true) (hr : rel i = some R) (hd : o.dst = some d) (hs : Nat.blt d a.tmps.size = true) (hi : Nat.ble i N = true) (ht : takes i = [j, k]) (hjk : (j == k) = false) (hj : Nat.ble j N = true) (hk : Nat.ble k N = true)
    (tj tk : List Thing) (htj : σ j = tj) (htk : σ k = tk)
    (hin : ∃ v ds, R (o.op.operands.toList.map a.eval) (tj ++ tk) v ds)
    (h : ∀ others X, SepF F w X ((tj ++ tk) ++ others) → wpList P ops (GvQ F w (R (o.op.operands.toList.map a.eval) (tj ++ tk)) d a.defers others) [o] a X)
    (hnext : ∀ v ds, R (o.op.operands.toList.map a.eval) (tj ++ tk) v ds → wpGive P ops (GC F w N) D rel takes Q (i + 1) rest (a.put (some d) v) (sigUpd takes σ i ds)) : wpGive P ops (GC F w N) D rel takes Q i (o :: rest) a σ := by
  have e : (takes i).flatMap σ = tj ++ tk := by rw [ht, ← htj, ← htk]; simp
  refine give_op d hw hr hd (by simpa [Nat.blt_eq] using hs) (Nat.le_of_ble_eq_true hi) (by rw [ht]; exact List.nodup_cons.2 ⟨fun h => by rw [List.mem_singleton.1 h] at hjk; simp at hjk, by simp⟩) (by
      rw [ht]; intro x hx
      rcases List.mem_cons.1 hx with rfl | hx
      · exact Nat.le_of_ble_eq_true hj
      · rw [List.mem_singleton.1 hx]; exact Nat.le_of_ble_eq_true hk) ?_ ?_ ?_
  · rw [e]; exact hin
  · rw [e]; exact h
  · rw [e]; exact hnext
end
/-- append of one element, its block just laid, in a region in the order of the text -/
theorem app_list {P : Program} {F : List Nat} {w0 wr : World} {ts : List Thing} {ops : Array Oper} {rest : List Oper} {o : Oper} {a : Act} {Q : Exit → Act → World → Prop} {α : Type} {E : Rep α} {e : TypeId} {xs : List α} {x : α} {cx : List Value} {v : Value} {fp : List Nat} {m : Nat}
    (hS : SepF F w0 wr ts) (k : Nat) (hk : ts[k]? = some (tsl E e xs v fp)) (hgd : o.guard = none) (s y : Operand) (t : TypeId)
    (ho : o.op = .call { callee := .builtin .append, args := #[s, y], argTypes := #[t, t] }) (i : TypeInfo) (z : Value) (bytes : Nat)
    (ht : P.underlying t = some (.slice e)) (hi : P.info? e = some i) (hz : i.zero = some z) (hsize : i.size = E.size) (hby : i.bytes = bytes) (hzs : z.cells.size = E.size) (h0 : 0 < E.size)
    (hsv : a.eval s = v) (hyv : a.eval y = .slice (some ⟨wr.heap.size, 0, none⟩) 1 1) (hx : ∀ W, E.own W x cx []) (hm : xs.length = m) (h63 : m + 1 ≤ maxLen) (hbytes : (m + 1) * bytes ≤ 140737488355328)
    (h : ∀ g cap w' fp', SepF F w0 w' (ts.set k (tsl E e (xs ++ [x]) (.slice (some ⟨g, 0, none⟩) (m + 1) cap) fp')) → wpList P ops Q rest (a.put o.dst (.slice (some ⟨g, 0, none⟩) (m + 1) cap)) w') :
    wpList P ops Q (o :: rest) a (wr.alloc (.cells cx.toArray e)) := by
  subst hm
  obtain ⟨l0, ho1, hnext⟩ := hS.push0 k hk (W2 := wr.alloc (.cells cx.toArray e)) (below_new (Below.refl _ _) _) (x := x) (hx _)
  have hb : Blk (wr.alloc (.cells cx.toArray e)) wr.heap.size e cx := Blk.new _ _ _
  refine wpList_append_lies _ hgd s y t ho 0 e i z E.size bytes ht hi hz hsize hby hzs h0 v xs.length l0 hsv ho1 ⟨wr.heap.size, 0, none⟩ 1 1 cx hyv (by rw [Nat.one_mul]; exact E.olen (hx wr)) ?_ (E.one (hx wr)) (by omega) h63 hbytes (Nat.zero_le _) _ rfl ?_
  · have h1 := World.news_of_block hb
    simpa using h1
  · intro gg cap w4 hown1 hgrow hat hlt
    obtain ⟨fp', hs4⟩ := hnext gg cap w4 hown1 hgrow hat
    exact h gg cap w4 fp' hs4
end Mm
end Go.Proofs.Ytpmeagchkcffoaa

/-
  Plain functions on lists of bytes: a word, a hash, a column. No program in sight. No conditions.
-/
namespace Go.Proofs.Ytpmeagchkcffoaa
namespace Pl

/-- a byte that may stand in a word -/
def wbyte (d : Bool) (c : UInt8) : Bool := (decide (97 ≤ (c.toNat : Int)) && decide ((c.toNat : Int) ≤ 122)) || (d && (decide (48 ≤ (c.toNat : Int)) && decide ((c.toNat : Int) ≤ 57)))
def word (d : Bool) (l : List UInt8) : Bool := l.all (wbyte d) && (decide (1 ≤ (l.length : Int)) && decide ((l.length : Int) ≤ 8))
def isIn (n a b : Int) : Bool := decide (a ≤ n) && decide (n ≤ b)
def hash (l : List UInt8) : Int := l.foldl (fun h c => (31 * h + (c.toNat : Int)) % 1009) 7
def place0 (r : Int) (l : List UInt8) : Int := l.foldl (fun h c => ((2 * r + 29) * h + (c.toNat : Int)) % 10007) (r + 3)
def place (r : Int) (l : List UInt8) : Int := place0 r l % 11

theorem take_snoc (l : List UInt8) (k : Nat) (h : k < l.length) : l.take (k + 1) = l.take k ++ [l[k]] := by
  rw [List.take_succ_eq_append_getElem h]
theorem hash_bd (l : List UInt8) : 0 ≤ hash l ∧ hash l < 1009 := by
  unfold hash
  rw [← List.reverse_reverse l, List.foldl_reverse]
  cases l.reverse with
  | nil => simp
  | cons c t => simp only [List.foldr_cons]; omega
theorem hash_snoc (l : List UInt8) (c : UInt8) : hash (l ++ [c]) = (31 * hash l + (c.toNat : Int)) % 1009 := by
  unfold hash; rw [List.foldl_append]; rfl
theorem place0_bd (r : Int) (l : List UInt8) (h0 : 0 ≤ r) (h1 : r ≤ 2) : 0 ≤ place0 r l ∧ place0 r l < 10007 := by
  unfold place0
  rw [← List.reverse_reverse l, List.foldl_reverse]
  cases l.reverse with
  | nil => simp; omega
  | cons c t => simp only [List.foldr_cons]; omega
theorem place0_snoc (r : Int) (l : List UInt8) (c : UInt8) : place0 r (l ++ [c]) = ((2 * r + 29) * place0 r l + (c.toNat : Int)) % 10007 := by
  unfold place0; rw [List.foldl_append]; rfl
theorem place_mul (r h : Int) (h0 : 0 ≤ r) (h1 : r ≤ 2) (a : 0 ≤ h) (b : h < 10007) : 0 ≤ (2 * r + 29) * h ∧ (2 * r + 29) * h ≤ 350000 := by
  obtain rfl | rfl | rfl : r = 0 ∨ r = 1 ∨ r = 2 := by omega
  all_goals omega
theorem place_bd (r : Int) (l : List UInt8) : 0 ≤ place r l ∧ place r l < 11 := by
  unfold place; omega
theorem word_of_all (d : Bool) (l : List UInt8) (h : ∀ c ∈ l, wbyte d c = true) : word d l = isIn (l.length : Int) 1 8 := by
  unfold word isIn; rw [List.all_eq_true.2 h]; rfl
theorem word_of_bad (d : Bool) (l : List UInt8) (k : Nat) (hk : k < l.length) (h : wbyte d l[k] = false) : word d l = false := by
  unfold word
  rw [List.all_eq_false.2 ⟨l[k], List.getElem_mem hk, by rw [h]; simp⟩]; rfl
theorem word_bad {d : Bool} {s : ByteArray} {k : Nat} (hk : k < s.size) (h : wbyte d s[k] = false) : word d s.data.toList = false :=
  word_of_bad d s.data.toList k (by simpa using hk) h
theorem all_snoc {d : Bool} {l m : List UInt8} {c : UInt8} (he : m = l ++ [c]) (h : ∀ x ∈ l, wbyte d x = true) (hc : wbyte d c = true) : ∀ x ∈ m, wbyte d x = true := by
  subst he
  intro x hx
  rcases List.mem_append.1 hx with h1 | h1
  · exact h x h1
  · rw [List.mem_singleton.1 h1]; exact hc
theorem wb_no {d : Bool} {c : UInt8} (h : ¬ (97 ≤ (c.toNat : Int) ∧ (c.toNat : Int) ≤ 122)) (h2 : d = false ∨ ¬ (48 ≤ (c.toNat : Int) ∧ (c.toNat : Int) ≤ 57)) : wbyte d c = false := by
  unfold wbyte
  rcases h2 with rfl | h2
  · simp; omega
  · cases d <;> simp <;> omega
theorem wb_letter {d : Bool} {c : UInt8} (h : 97 ≤ (c.toNat : Int) ∧ (c.toNat : Int) ≤ 122) : wbyte d c = true := by
  unfold wbyte
  simp; omega
theorem wb_digit {c : UInt8} (h : 48 ≤ (c.toNat : Int) ∧ (c.toNat : Int) ≤ 57) : wbyte true c = true := by
  unfold wbyte
  simp; omega
theorem word_end {d : Bool} {l : List UInt8} {k : Nat} (hk : l.length ≤ k) (h : ∀ c ∈ l.take k, wbyte d c = true) : word d l = isIn (l.length : Int) 1 8 :=
  word_of_all d l (by rwa [List.take_of_length_le hk] at h)
theorem word_len {d : Bool} {l : List UInt8} (h : word d l = true) : 1 ≤ l.length ∧ l.length ≤ 8 := by
  unfold word at h; simp at h; omega
end Pl
end Go.Proofs.Ytpmeagchkcffoaa

/-
  The program's types as plain structures; what a marking makes of them. No program in sight. No conditions.
-/
namespace Go.Proofs.Ytpmeagchkcffoaa
structure Sample where
  At : Int
  Value : Int
structure Window where
  From : Int
  First : Int
  Last : Int
  Count : Int
  Rise : Int
structure Told where
  Who : Int
  No : Int
  Text : ByteArray
structure Note where
  Back : Bool
  What : Told
structure TellStep where
  Kind : Int
  K : Int
  Text : ByteArray
structure SnapStep where
  Kind : Int
  From : Int
  To : Int
  Many : Int
structure Say where
  Name : ByteArray
  At : Int
  Value : Int
structure Label where
  Name : ByteArray
  Value : ByteArray
structure Entry where
  Epoch : Int
  Text : ByteArray
structure Start where
  Epoch : Int
  At : Int
structure Letter where
  From : Int
  To : Int
  Term : Int
  Ask : Bool
  Age : Int
structure VoteStep where
  Kind : Int
  K : Int
structure ReplStep where
  Kind : Int
  Node : Int
  Text : ByteArray
structure HouseStep where
  Kind : Int
  Part : Int
  What : Say
structure Token where
  At : Int
  Owner : Int
structure Row where
  Name : ByteArray
  Samples : (List Sample)
structure Head where
  Rows : (List Row)
  Offset : Int
structure Item where
  Labels : (List Label)
  Value : Int
structure Total where
  Labels : (List Label)
  Sum : Int
  Count : Int
  Least : Int
  Most : Int
structure Sketch where
  Rows : (List (List Int))
  Total : Int
structure Heavy where
  Names : (List ByteArray)
  Counts : (List Int)
  Gone : Int
  Total : Int
structure Piece where
  From : Int
  Bytes : ByteArray
  Index : (List Int)
structure Log where
  Pieces : (List Piece)
  Begin : Int
structure House where
  Logs : (List Log)
  Heads : (List Head)
  Kept : (List Head)
structure Tell where
  Texts : (List (List ByteArray))
  Heard : (List Int)
  Line : (List Note)
  Log : (List Told)
  Next : (List Int)
structure Bank where
  Coins : (List Int)
  Ways : (List (List Int))
  Kept : (List Int)
  Heard : (List (List Bool))
  Found : (List (List Int))
structure Node where
  Term : Int
  Voted : Int
  Age : Int
  Heard : (List Int)
  Role : Int
structure Poll where
  Nodes : (List Node)
  Letters : (List Letter)
  Leaders : (List (List Int))
structure Repl where
  Logs : (List (List Entry))
  Down : (List Bool)
  Leader : Int
  Epoch : Int
  InSync : (List Int)
  Certain : (List Entry)
namespace Pl
/-- the digits of k, ahead of acc -/
def digs : Nat → Nat → List UInt8 → List UInt8
  | 0, _, acc => acc
  | f + 1, k, acc => if k = 0 then acc else digs f (k / 10) (UInt8.ofNat (48 + k % 10) :: acc)
end Pl
namespace Pl
def sz0 {α : Type} (_ : α) : Int := 0
def szStr (s : ByteArray) : Int := (s.size : Int)
def sumI {α : Type} (f : α → Int) : List α → Int
  | [] => 0
  | x :: t => f x + sumI f t
def szl {α : Type} (f : α → Int) (l : List α) : Int := (l.length : Int) + sumI f l
theorem sumI_nn {α : Type} {f : α → Int} (h : ∀ x, 0 ≤ f x) : ∀ l : List α, 0 ≤ sumI f l
  | [] => by simp [sumI]
  | x :: t => by have := sumI_nn h t; have := h x; show 0 ≤ f x + sumI f t; omega
theorem sumI_app {α : Type} {f : α → Int} : ∀ l m : List α, sumI f (l ++ m) = sumI f l + sumI f m
  | [], m => by simp [sumI]
  | x :: t, m => by show f x + sumI f (t ++ m) = f x + sumI f t + sumI f m; rw [sumI_app t m]; omega
theorem sumI_succ {α : Type} {f : α → Int} {l : List α} {i : Nat} {x : α} (h : l[i]? = some x) : sumI f (l.take (i + 1)) = sumI f (l.take i) + f x := by
  have hi : i < l.length := (List.getElem?_eq_some_iff.1 h).1
  rw [List.getElem?_eq_getElem hi] at h
  injection h with h
  rw [List.take_succ_eq_append_getElem hi, sumI_app, h]
  simp [sumI]
theorem sumI_take {α : Type} {f : α → Int} (h : ∀ x, 0 ≤ f x) (l : List α) (i : Nat) : sumI f (l.take i) ≤ sumI f l := by
  have e : sumI f l = sumI f (l.take i) + sumI f (l.drop i) := by rw [← sumI_app, List.take_append_drop]
  have := sumI_nn h (l.drop i)
  omega
theorem sumI_zero {α : Type} : ∀ l : List α, sumI (fun x => sz0 x) l = 0
  | [] => rfl
  | x :: t => by show 0 + _ = _; rw [show sumI (fun x => sz0 x) t = 0 from sumI_zero t]; rfl
theorem szl_zero {α : Type} (l : List α) : szl (sz0 : α → Int) l = (l.length : Int) := by unfold szl; rw [show sumI (sz0 : α → Int) l = 0 from sumI_zero l]; omega
theorem sz0_nn {α : Type} (x : α) : 0 ≤ sz0 x := Int.le_refl _
theorem szStr_nn (s : ByteArray) : 0 ≤ szStr s := by unfold szStr; omega
theorem szl_nn {α : Type} {f : α → Int} (h : ∀ x, 0 ≤ f x) (l : List α) : 0 ≤ szl f l := by have := sumI_nn h l; unfold szl; omega
theorem szl_len {α : Type} {f : α → Int} (h : ∀ x, 0 ≤ f x) (l : List α) : (l.length : Int) ≤ szl f l := by have := sumI_nn h l; unfold szl; omega
theorem sumI_mem {α : Type} {f : α → Int} (h : ∀ x, 0 ≤ f x) : ∀ {l : List α} {x : α}, x ∈ l → f x ≤ sumI f l
  | [], _, hx => by cases hx
  | y :: t, x, hx => by
    show _ ≤ f y + sumI f t
    have h1 := h y
    have h2 := sumI_nn h t
    rcases List.mem_cons.1 hx with rfl | hx
    · omega
    · have := sumI_mem h hx; omega
theorem szl_mem {α : Type} {f : α → Int} (h : ∀ x, 0 ≤ f x) {l : List α} {x : α} (hx : x ∈ l) : f x ≤ szl f l := by have := sumI_mem h hx; unfold szl; omega
def szRet (left k : Int) : Int := if left - k < 0 then -1 else left - k
theorem szRet_lt {left k : Int} (h : left - k < 0) : szRet left k = -1 := if_pos h
theorem szRet_ge {left k : Int} (h : ¬ left - k < 0) : szRet left k = left - k := if_neg h
def szTold (x : Told) : Int := Pl.szStr x.Text
theorem szTold_nn (x : Told) : 0 ≤ szTold x := by
  have h0 := szStr_nn x.Text
  unfold szTold; omega
def szNote (x : Note) : Int := Pl.szTold x.What
theorem szNote_nn (x : Note) : 0 ≤ szNote x := by
  have h0 := szTold_nn x.What
  unfold szNote; omega
def szTellStep (x : TellStep) : Int := Pl.szStr x.Text
theorem szTellStep_nn (x : TellStep) : 0 ≤ szTellStep x := by
  have h0 := szStr_nn x.Text
  unfold szTellStep; omega
def szSay (x : Say) : Int := Pl.szStr x.Name
theorem szSay_nn (x : Say) : 0 ≤ szSay x := by
  have h0 := szStr_nn x.Name
  unfold szSay; omega
def szLabel (x : Label) : Int := Pl.szStr x.Name + Pl.szStr x.Value
theorem szLabel_nn (x : Label) : 0 ≤ szLabel x := by
  have h0 := szStr_nn x.Name
  have h1 := szStr_nn x.Value
  unfold szLabel; omega
def szEntry (x : Entry) : Int := Pl.szStr x.Text
theorem szEntry_nn (x : Entry) : 0 ≤ szEntry x := by
  have h0 := szStr_nn x.Text
  unfold szEntry; omega
def szReplStep (x : ReplStep) : Int := Pl.szStr x.Text
theorem szReplStep_nn (x : ReplStep) : 0 ≤ szReplStep x := by
  have h0 := szStr_nn x.Text
  unfold szReplStep; omega
def szHouseStep (x : HouseStep) : Int := Pl.szSay x.What
theorem szHouseStep_nn (x : HouseStep) : 0 ≤ szHouseStep x := by
  have h0 := szSay_nn x.What
  unfold szHouseStep; omega
def szRow (x : Row) : Int := Pl.szStr x.Name + (Pl.szl Pl.sz0) x.Samples
theorem szRow_nn (x : Row) : 0 ≤ szRow x := by
  have h0 := szStr_nn x.Name
  have h1 := szl_nn (f := sz0) (sz0_nn) x.Samples
  unfold szRow; omega
def szHead (x : Head) : Int := (Pl.szl Pl.szRow) x.Rows
theorem szHead_nn (x : Head) : 0 ≤ szHead x := by
  have h0 := szl_nn (f := szRow) (szRow_nn) x.Rows
  unfold szHead; omega
def szItem (x : Item) : Int := (Pl.szl Pl.szLabel) x.Labels
theorem szItem_nn (x : Item) : 0 ≤ szItem x := by
  have h0 := szl_nn (f := szLabel) (szLabel_nn) x.Labels
  unfold szItem; omega
def szTotal (x : Total) : Int := (Pl.szl Pl.szLabel) x.Labels
theorem szTotal_nn (x : Total) : 0 ≤ szTotal x := by
  have h0 := szl_nn (f := szLabel) (szLabel_nn) x.Labels
  unfold szTotal; omega
def szSketch (x : Sketch) : Int := (Pl.szl (Pl.szl Pl.sz0)) x.Rows
theorem szSketch_nn (x : Sketch) : 0 ≤ szSketch x := by
  have h0 := szl_nn (f := (szl sz0)) (szl_nn (f := sz0) (sz0_nn)) x.Rows
  unfold szSketch; omega
def szHeavy (x : Heavy) : Int := (Pl.szl Pl.szStr) x.Names + (Pl.szl Pl.sz0) x.Counts
theorem szHeavy_nn (x : Heavy) : 0 ≤ szHeavy x := by
  have h0 := szl_nn (f := szStr) (szStr_nn) x.Names
  have h1 := szl_nn (f := sz0) (sz0_nn) x.Counts
  unfold szHeavy; omega
def szPiece (x : Piece) : Int := Pl.szStr x.Bytes + (Pl.szl Pl.sz0) x.Index
theorem szPiece_nn (x : Piece) : 0 ≤ szPiece x := by
  have h0 := szStr_nn x.Bytes
  have h1 := szl_nn (f := sz0) (sz0_nn) x.Index
  unfold szPiece; omega
def szLog (x : Log) : Int := (Pl.szl Pl.szPiece) x.Pieces
theorem szLog_nn (x : Log) : 0 ≤ szLog x := by
  have h0 := szl_nn (f := szPiece) (szPiece_nn) x.Pieces
  unfold szLog; omega
def szHouse (x : House) : Int := (Pl.szl Pl.szLog) x.Logs + (Pl.szl Pl.szHead) x.Heads + (Pl.szl Pl.szHead) x.Kept
theorem szHouse_nn (x : House) : 0 ≤ szHouse x := by
  have h0 := szl_nn (f := szLog) (szLog_nn) x.Logs
  have h1 := szl_nn (f := szHead) (szHead_nn) x.Heads
  have h2 := szl_nn (f := szHead) (szHead_nn) x.Kept
  unfold szHouse; omega
def szTell (x : Tell) : Int := (Pl.szl (Pl.szl Pl.szStr)) x.Texts + (Pl.szl Pl.sz0) x.Heard + (Pl.szl Pl.szNote) x.Line + (Pl.szl Pl.szTold) x.Log + (Pl.szl Pl.sz0) x.Next
theorem szTell_nn (x : Tell) : 0 ≤ szTell x := by
  have h0 := szl_nn (f := (szl szStr)) (szl_nn (f := szStr) (szStr_nn)) x.Texts
  have h1 := szl_nn (f := sz0) (sz0_nn) x.Heard
  have h2 := szl_nn (f := szNote) (szNote_nn) x.Line
  have h3 := szl_nn (f := szTold) (szTold_nn) x.Log
  have h4 := szl_nn (f := sz0) (sz0_nn) x.Next
  unfold szTell; omega
def szBank (x : Bank) : Int := (Pl.szl Pl.sz0) x.Coins + (Pl.szl (Pl.szl Pl.sz0)) x.Ways + (Pl.szl Pl.sz0) x.Kept + (Pl.szl (Pl.szl Pl.sz0)) x.Heard + (Pl.szl (Pl.szl Pl.sz0)) x.Found
theorem szBank_nn (x : Bank) : 0 ≤ szBank x := by
  have h0 := szl_nn (f := sz0) (sz0_nn) x.Coins
  have h1 := szl_nn (f := (szl sz0)) (szl_nn (f := sz0) (sz0_nn)) x.Ways
  have h2 := szl_nn (f := sz0) (sz0_nn) x.Kept
  have h3 := szl_nn (f := (szl sz0)) (szl_nn (f := sz0) (sz0_nn)) x.Heard
  have h4 := szl_nn (f := (szl sz0)) (szl_nn (f := sz0) (sz0_nn)) x.Found
  unfold szBank; omega
def szNode (x : Node) : Int := (Pl.szl Pl.sz0) x.Heard
theorem szNode_nn (x : Node) : 0 ≤ szNode x := by
  have h0 := szl_nn (f := sz0) (sz0_nn) x.Heard
  unfold szNode; omega
def szPoll (x : Poll) : Int := (Pl.szl Pl.szNode) x.Nodes + (Pl.szl Pl.sz0) x.Letters + (Pl.szl (Pl.szl Pl.sz0)) x.Leaders
theorem szPoll_nn (x : Poll) : 0 ≤ szPoll x := by
  have h0 := szl_nn (f := szNode) (szNode_nn) x.Nodes
  have h1 := szl_nn (f := sz0) (sz0_nn) x.Letters
  have h2 := szl_nn (f := (szl sz0)) (szl_nn (f := sz0) (sz0_nn)) x.Leaders
  unfold szPoll; omega
def szRepl (x : Repl) : Int := (Pl.szl (Pl.szl Pl.szEntry)) x.Logs + (Pl.szl Pl.sz0) x.Down + (Pl.szl Pl.sz0) x.InSync + (Pl.szl Pl.szEntry) x.Certain
theorem szRepl_nn (x : Repl) : 0 ≤ szRepl x := by
  have h0 := szl_nn (f := (szl szEntry)) (szl_nn (f := szEntry) (szEntry_nn)) x.Logs
  have h1 := szl_nn (f := sz0) (sz0_nn) x.Down
  have h2 := szl_nn (f := sz0) (sz0_nn) x.InSync
  have h3 := szl_nn (f := szEntry) (szEntry_nn) x.Certain
  unfold szRepl; omega
end Pl
end Go.Proofs.Ytpmeagchkcffoaa

/-
  Plain functions on lists: a test of all elements, sums. No program in sight. No conditions.
-/
namespace Go.Proofs.Ytpmeagchkcffoaa
namespace Pl
/-- every number below n is good -/
def allB (n : Nat) (g : Nat → Bool) : Bool := (List.range n).all g
theorem allB_iff {n : Nat} {g : Nat → Bool} : allB n g = true ↔ ∀ i, i < n → g i = true := by
  unfold allB; simp
theorem allB_no {n k : Nat} {g : Nat → Bool} (hk : k < n) (h : g k = false) : allB n g = false := by
  cases hb : allB n g with
  | false => rfl
  | true => rw [allB_iff.1 hb k hk] at h; cases h
theorem allB_yes {n : Nat} {g : Nat → Bool} (h : ∀ i, i < n → g i = true) : allB n g = true := allB_iff.2 h

theorem snocB {k : Nat} {p : Nat → Prop} (h : ∀ i, i < k → p i) (hk : p k) : ∀ i, i < k + 1 → p i := fun i hi => by
  rcases Nat.lt_succ_iff_lt_or_eq.1 hi with h1 | rfl
  · exact h i h1
  · exact hk
section
variable {α : Type} {p : α → Bool} {l : List α} {k : Nat} {x : α}
def upTo (p : α → Bool) (l : List α) (k : Nat) : Prop := ∀ i x, i < k → l[i]? = some x → p x = true
theorem upTo0 : upTo p l 0 := fun i _ h => absurd h (Nat.not_lt_zero i)
theorem upTo1 (h : upTo p l k) (hx : l[k]? = some x) (hp : p x = true) : upTo p l (k + 1) := fun i y hi hy => by
  by_cases e : i = k
  · subst e; rw [hx] at hy; injection hy with hy; rw [← hy]; exact hp
  · exact h i y (by omega) hy
theorem upToE (h : upTo p l k) (hk : l.length ≤ k) : l.all p = true := List.all_eq_true.2 fun y hy => by
  obtain ⟨i, hi, rfl⟩ := List.mem_iff_getElem.1 hy
  exact h i _ (by omega) (List.getElem?_eq_getElem hi)
theorem upToB (hx : l[k]? = some x) (hp : p x = false) : l.all p = false := List.all_eq_false.2 ⟨x, List.mem_of_getElem? hx, by rw [hp]; simp⟩
theorem all_at {p : α → Bool} {l : List α} (h : l.all p = true) {k : Nat} {x : α} (hx : l[k]? = some x) : p x = true := List.all_eq_true.1 h x (List.mem_of_getElem? hx)
end
def allIn (a b : Int) (l : List Int) : Bool := l.all fun x => isIn x a b
theorem isIn_iff {n a b : Int} : isIn n a b = true ↔ a ≤ n ∧ n ≤ b := by unfold isIn; simp
theorem isIn_no {n a b : Int} : isIn n a b = false ↔ ¬ (a ≤ n ∧ n ≤ b) := by
  unfold isIn; rw [← Bool.not_eq_true]; simp
theorem isIn_mk {n a b : Int} (h1 : a ≤ n) (h2 : n ≤ b) : isIn n a b = true := isIn_iff.2 ⟨h1, h2⟩
theorem allIn_at {a b : Int} {l : List Int} (h : allIn a b l = true) {k : Nat} {x : Int} (hx : l[k]? = some x) : a ≤ x ∧ x ≤ b := isIn_iff.1 (all_at h hx)
def sumTo (l : List Int) : Nat → Int
  | 0 => 0
  | k + 1 => sumTo l k + l.getD k 0
def sum (l : List Int) : Int := sumTo l l.length
theorem sumTo_next {l : List Int} {k : Nat} {x : Int} (hx : l[k]? = some x) : sumTo l (k + 1) = sumTo l k + x := by
  rw [sumTo, List.getD_eq_getElem?_getD, hx]; rfl
theorem getD_bd {l : List Int} {a b : Int} (h : allIn a b l = true) (h0 : a ≤ 0) (h1 : 0 ≤ b) (k : Nat) : a ≤ l.getD k 0 ∧ l.getD k 0 ≤ b := by
  rw [List.getD_eq_getElem?_getD]
  cases hx : l[k]? with
  | none => exact ⟨h0, h1⟩
  | some x => exact allIn_at h hx
theorem sumTo_bd {l : List Int} {a b : Int} (h : allIn a b l = true) (h0 : a ≤ 0) (h1 : 0 ≤ b) : ∀ k : Nat, a * k ≤ sumTo l k ∧ sumTo l k ≤ b * k
  | 0 => by simp [sumTo]
  | k + 1 => by
    have h2 := sumTo_bd h h0 h1 k
    have h3 := getD_bd h h0 h1 k
    rw [sumTo]
    push_cast
    rw [Int.mul_add, Int.mul_add, Int.mul_one, Int.mul_one]
    omega
theorem getD_upTo {l : List Int} {a b : Int} {k : Nat} (h : upTo (fun x => isIn x a b) l k) (h0 : a ≤ 0) (h1 : 0 ≤ b) {i : Nat} (hi : i < k) : a ≤ l.getD i 0 ∧ l.getD i 0 ≤ b := by
  rw [List.getD_eq_getElem?_getD]
  cases hx : l[i]? with
  | none => exact ⟨h0, h1⟩
  | some x => exact isIn_iff.1 (h i x hi hx)
theorem sumTo_bd' {l : List Int} {a b : Int} {k : Nat} (h : upTo (fun x => isIn x a b) l k) (h0 : a ≤ 0) (h1 : 0 ≤ b) : ∀ j : Nat, j ≤ k → a * j ≤ sumTo l j ∧ sumTo l j ≤ b * j
  | 0, _ => by simp [sumTo]
  | j + 1, hj => by
    have h2 := sumTo_bd' h h0 h1 j (by omega)
    have h3 := getD_upTo h h0 h1 (show j < k by omega)
    rw [sumTo]
    push_cast
    rw [Int.mul_add, Int.mul_add, Int.mul_one, Int.mul_one]
    omega
end Pl
end Go.Proofs.Ytpmeagchkcffoaa

/-
  Plain functions on sketches and heavy hitters. No program in sight. No conditions.
-/
namespace Go.Proofs.Ytpmeagchkcffoaa
namespace Pl
/-- what a sketch must be -/
def rowOk (t : Int) (r : List Int) : Bool := decide (r.length = 11) && allIn 0 100000 r && decide (sum r = t)
def sketchOk (s : Sketch) : Bool := isIn s.Rows.length 1 3 && s.Rows.all (rowOk s.Total)
theorem rowOk_iff {t : Int} {r : List Int} : rowOk t r = true ↔ r.length = 11 ∧ allIn 0 100000 r = true ∧ sum r = t := by
  unfold rowOk; simp [and_assoc]
theorem sum_bd {l : List Int} {a b : Int} (h : allIn a b l = true) (h0 : a ≤ 0) (h1 : 0 ≤ b) : a * l.length ≤ sum l ∧ sum l ≤ b * l.length := sumTo_bd h h0 h1 _
def guessTo (rows : List (List Int)) (name : List UInt8) : Nat → Int
  | 0 => 100000
  | k + 1 => if (rows.getD k []).getD (place k name).toNat 0 < guessTo rows name k then (rows.getD k []).getD (place k name).toNat 0 else guessTo rows name k
def guessOf (s : Sketch) (name : ByteArray) : Int × Bool :=
  if (sketchOk s && word false name.data.toList) = true then (guessTo s.Rows name.data.toList s.Rows.length, true) else (0, false)
theorem ba_nil {x : ByteArray} (h : x.toList = []) : x = ⟨#[]⟩ := by
  rw [Lib.toList_data] at h
  cases x with
  | mk a => simp at h; rw [h]
theorem beq_dec (a b : Int) : (a == b) = decide (a = b) := by
  by_cases h : a = b
  · subst h; simp
  · simp [h]
def strAt (l : List ByteArray) (i : Nat) : ByteArray := l.getD i ByteArray.empty
theorem strAt_of {l : List ByteArray} {i : Nat} {x : ByteArray} (h : l[i]? = some x) : strAt l i = x := by
  unfold strAt; rw [List.getD_eq_getElem?_getD, h]; rfl
theorem getD_of {l : List Int} {i : Nat} {x : Int} (h : l[i]? = some x) : l.getD i 0 = x := by
  rw [List.getD_eq_getElem?_getD, h]; rfl
/-- what is said of one place -/
def slotP (k : Nat) (x : ByteArray) (y : Int) (z : ByteArray) : Bool :=
  if x.toList = [] then decide (y = 0) else word false x.data.toList && isIn y 1 100000 && (decide (k = 0) || (Op.bytesLess z.toList x.toList && !z.toList.isEmpty))
def slotOk (h : Heavy) (i : Nat) : Bool := slotP i (strAt h.Names i) (h.Counts.getD i 0) (strAt h.Names (i - 1))
theorem slotOk_of {h : Heavy} {i : Nat} {x z : ByteArray} {y : Int} (hx : h.Names[i]? = some x) (hy : h.Counts[i]? = some y) (hz : h.Names[i - 1]? = some z) : slotOk h i = slotP i x y z := by
  unfold slotOk; rw [strAt_of hx, strAt_of hz, getD_of hy]
def heavyOk (h : Heavy) : Bool :=
  isIn (h.Names.length : Int) 1 6 && decide (h.Counts.length = h.Names.length) && isIn h.Gone 0 100000 && isIn h.Total 0 1000000 && allB h.Names.length (slotOk h) && decide (sum h.Counts + h.Gone * ((h.Names.length : Int) + 1) = h.Total)
theorem slotP_bd {k : Nat} {x z : ByteArray} {y : Int} (h : slotP k x y z = true) : 0 ≤ y ∧ y ≤ 100000 := by
  unfold slotP at h
  split at h
  · simp at h; omega
  · simp only [Bool.and_eq_true] at h
    have := isIn_iff.1 h.1.2; omega
theorem sumTo_slot {h : Heavy} : ∀ {k : Nat}, (∀ i, i < k → slotOk h i = true) → 0 ≤ sumTo h.Counts k ∧ sumTo h.Counts k ≤ 100000 * k
  | 0, _ => by simp [sumTo]
  | k + 1, hh => by
    have h1 := sumTo_slot (k := k) fun i hi => hh i (by omega)
    have h2 := slotP_bd (hh k (by omega))
    rw [sumTo]
    push_cast
    omega
theorem slots_in {h : Heavy} (hl : h.Counts.length = h.Names.length) (hh : ∀ i, i < h.Names.length → slotOk h i = true) : allIn (-1000000) 1000000 h.Counts = true := List.all_eq_true.2 fun y hy => by
  obtain ⟨i, hi, rfl⟩ := List.mem_iff_getElem.1 hy
  have h2 := slotP_bd (hh i (by omega))
  rw [getD_of (List.getElem?_eq_getElem hi)] at h2
  exact isIn_mk (by omega) (by omega)
theorem heavyOk_iff {h : Heavy} : heavyOk h = true ↔ (1 ≤ (h.Names.length : Int) ∧ (h.Names.length : Int) ≤ 6) ∧ h.Counts.length = h.Names.length ∧ (0 ≤ h.Gone ∧ h.Gone ≤ 100000) ∧ (0 ≤ h.Total ∧ h.Total ≤ 1000000) ∧ (∀ i, i < h.Names.length → slotOk h i = true) ∧ sum h.Counts + h.Gone * ((h.Names.length : Int) + 1) = h.Total := by
  unfold heavyOk; simp only [Bool.and_eq_true, decide_eq_true_eq, isIn_iff, allB_iff, and_assoc]
/-- where a text stands, counted from k -/
def idxFrom (l : List ByteArray) (v : ByteArray) : Nat → Nat → Int
  | 0, _ => -1
  | f + 1, k => if strAt l k = v then (k : Int) else idxFrom l v f (k + 1)
def idx (l : List ByteArray) (v : ByteArray) : Int := idxFrom l v l.length 0
theorem idxFrom_bd {l : List ByteArray} {v : ByteArray} : ∀ (f k : Nat), idxFrom l v f k = -1 ∨ ((k : Int) ≤ idxFrom l v f k ∧ idxFrom l v f k < (k + f : Nat))
  | 0, k => .inl rfl
  | f + 1, k => by
    unfold idxFrom
    split
    · right; omega
    · rcases idxFrom_bd (l := l) (v := v) f (k + 1) with h | h
      · exact .inl h
      · right; omega
theorem idx_bd {l : List ByteArray} {v : ByteArray} : idx l v = -1 ∨ (0 ≤ idx l v ∧ idx l v < l.length) := by
  have := idxFrom_bd (l := l) (v := v) l.length 0
  unfold idx; simp at this; omega
theorem idx_yes {l : List ByteArray} {v : ByteArray} {k n : Nat} (_hn : l.length = n) (h : idx l v = idxFrom l v (n - k) k) (hk : k < n) (he : strAt l k = v) : idx l v = k := by
  rw [h, show n - k = (n - (k + 1)) + 1 by omega, idxFrom, if_pos he]
theorem idx_no {l : List ByteArray} {v : ByteArray} {k n : Nat} (h : idx l v = idxFrom l v (n - k) k) (hk : k < n) (he : strAt l k ≠ v) : idx l v = idxFrom l v (n - (k + 1)) (k + 1) := by
  rw [h, show n - k = (n - (k + 1)) + 1 by omega, idxFrom, if_neg he]
theorem idx_end {l : List ByteArray} {v : ByteArray} {k n : Nat} (h : idx l v = idxFrom l v (n - k) k) (hk : ¬ k < n) : idx l v = -1 := by
  rw [h, show n - k = 0 by omega]; rfl
def leastOf (h : Heavy) (name : ByteArray) : Int × Int × Bool :=
  if (heavyOk h && word false name.data.toList) = true then
    if 0 ≤ idx h.Names name then (h.Counts.getD (idx h.Names name).toNat 0, h.Counts.getD (idx h.Names name).toNat 0 + h.Gone, true) else (0, h.Gone, true)
  else (0, 0, false)
def ret3 (x : Int × Int × Bool) : Ending := .returned (.tuple #[.int .i64 x.1, .int .i64 x.2.1, .bool x.2.2])
theorem rows_bd {s : Sketch} (h : sketchOk s = true) {k : Nat} {r : List Int} (hr : s.Rows[k]? = some r) : r.length = 11 ∧ allIn 0 100000 r = true ∧ sum r = s.Total := by
  unfold sketchOk at h
  rw [Bool.and_eq_true] at h
  exact rowOk_iff.1 (all_at h.2 hr)
theorem guessTo_bd {rows : List (List Int)} {name : List UInt8} (h : ∀ (k : Nat) (r : List Int), rows[k]? = some r → allIn 0 100000 r = true) : ∀ k, 0 ≤ guessTo rows name k ∧ guessTo rows name k ≤ 100000
  | 0 => by simp [guessTo]
  | k + 1 => by
    have h1 := guessTo_bd (name := name) h k
    have h2 : 0 ≤ (rows.getD k []).getD (place k name).toNat 0 := by
      rw [List.getD_eq_getElem?_getD]
      cases hr : (rows.getD k [])[(place k name).toNat]? with
      | none => exact Int.le_refl _
      | some x =>
        rw [List.getD_eq_getElem?_getD] at hr
        cases hk : rows[k]? with
        | none => rw [hk] at hr; simp at hr
        | some r =>
          rw [hk] at hr
          exact (allIn_at (h k r hk) hr).1
    unfold guessTo
    split <;> omega
theorem guessTo_next {rows : List (List Int)} {name : List UInt8} {k : Nat} {r : List Int} {x : Int} (hr : rows[k]? = some r) (hx : r[(place k name).toNat]? = some x) : guessTo rows name (k + 1) = if x < guessTo rows name k then x else guessTo rows name k := by
  rw [guessTo, List.getD_eq_getElem?_getD (l := rows), hr]
  show (if r.getD _ 0 < _ then r.getD _ 0 else _) = _
  rw [getD_of hx]
theorem guess_step {rows : List (List Int)} {name : List UInt8} {k : Nat} {x z : Int} (hz : z = guessTo rows name (max k 1)) (hn : guessTo rows name (k + 1) = if x < guessTo rows name k then x else guessTo rows name k) (hx : x ≤ 100000) :
    (x < z → x = guessTo rows name (max (k + 1) 1)) ∧ (¬ x < z → z = guessTo rows name (max (k + 1) 1)) := by
  rw [show max (k + 1) 1 = k + 1 by omega]
  by_cases hk : k = 0
  · subst hk
    rw [show max 0 1 = 0 + 1 by rfl] at hz
    rw [hz]
    rw [hn]
    show (x < (if x < (100000 : Int) then x else 100000) → x = if x < (100000 : Int) then x else 100000) ∧ _
    refine ⟨fun h => ?_, fun _ => rfl⟩
    split at h <;> omega
  · rw [show max k 1 = k by omega] at hz
    rw [hn, hz]
    exact ⟨fun h => by rw [if_pos h], fun h => by rw [if_neg h]⟩
def bump (r : List Int) (p : Nat) (many : Int) : List Int := r.set p (r.getD p 0 + many)
def addTo (rows : List (List Int)) (name : List UInt8) (many : Int) : Nat → List (List Int)
  | 0 => []
  | k + 1 => addTo rows name many k ++ [bump (rows.getD k []) (place k name).toNat many]
theorem addTo_len (rows : List (List Int)) (name : List UInt8) (many : Int) : ∀ k, (addTo rows name many k).length = k
  | 0 => rfl
  | k + 1 => by rw [addTo, List.length_append, addTo_len rows name many k]; rfl
theorem addTo_next {rows : List (List Int)} {name : List UInt8} {many : Int} {k : Nat} {r : List Int} (hr : rows[k]? = some r) : addTo rows name many (k + 1) = addTo rows name many k ++ [bump r (place k name).toNat many] := by
  rw [addTo, List.getD_eq_getElem?_getD, hr]; rfl
def bumped (s : Sketch) (name : List UInt8) (many : Int) : Sketch := ⟨addTo s.Rows name many s.Rows.length, s.Total + many⟩
def sk0 : Sketch := ⟨[], 0⟩
def addSketch (s : Sketch) (name : ByteArray) (many : Int) : Sketch × Bool :=
  if (sketchOk s && word false name.data.toList && isIn many 1 1000) = true then (if sketchOk (bumped s name.data.toList many) = true then (bumped s name.data.toList many, true) else (sk0, false)) else (sk0, false)
end Pl
end Go.Proofs.Ytpmeagchkcffoaa

/-
  Plain functions on heavy hitters: a name added. No program in sight. No conditions.
-/
namespace Go.Proofs.Ytpmeagchkcffoaa
namespace Pl
def lessB (x y : ByteArray) : Bool := Op.bytesLess x.toList y.toList
theorem bless_irrefl : ∀ x : List UInt8, Op.bytesLess x x = false
  | [] => rfl
  | a :: t => by rw [Op.bytesLess, bless_irrefl t]; simp
theorem bless_trans : ∀ {x y z : List UInt8}, Op.bytesLess x y = true → Op.bytesLess y z = true → Op.bytesLess x z = true
  | _, [], _, h, _ => by simp [Op.bytesLess] at h
  | _, _ :: _, [], _, h => by simp [Op.bytesLess] at h
  | [], _ :: _, _ :: _, _, _ => rfl
  | a :: x, b :: y, c :: z, h, k => by
    rw [Op.bytesLess] at h k ⊢
    simp only [Bool.or_eq_true, decide_eq_true_eq, Bool.and_eq_true, beq_iff_eq] at h k ⊢
    rcases h with h | ⟨rfl, h⟩
    · rcases k with k | ⟨rfl, k⟩
      · exact .inl (UInt8.lt_trans h k)
      · exact .inl h
    · rcases k with k | ⟨rfl, k⟩
      · exact .inl k
      · exact .inr ⟨rfl, bless_trans h k⟩
theorem bless_total : ∀ {x y : List UInt8}, x ≠ y → Op.bytesLess x y = true ∨ Op.bytesLess y x = true
  | [], [], h => absurd rfl h
  | [], _ :: _, _ => .inl rfl
  | _ :: _, [], _ => .inr rfl
  | a :: x, b :: y, h => by
    rw [Op.bytesLess, Op.bytesLess]
    simp only [Bool.or_eq_true, decide_eq_true_eq, Bool.and_eq_true, beq_iff_eq]
    by_cases hab : a = b
    · subst hab
      have : x ≠ y := fun e => h (by rw [e])
      rcases bless_total this with h1 | h1
      · exact .inl (.inr ⟨rfl, h1⟩)
      · exact .inr (.inr ⟨rfl, h1⟩)
    · rcases Nat.lt_or_gt_of_ne (fun e => hab (UInt8.toNat_inj.1 e)) with h1 | h1
      · exact .inl (.inl h1)
      · exact .inr (.inl h1)
theorem ba_inj {x v : ByteArray} (e : x.toList = v.toList) : x = v := by
  rw [Lib.toList_data, Lib.toList_data] at e
  cases x
  cases v
  exact congrArg ByteArray.mk (Array.toList_inj.1 e)
/-- names in order, then places that are free -/
structure HSort (l : List ByteArray) (m : Nat) : Prop where
  le : m ≤ l.length
  used : ∀ (i : Nat) x, i < m → l[i]? = some x → x.toList ≠ []
  free : ∀ (i : Nat) x, m ≤ i → l[i]? = some x → x.toList = []
  sort : ∀ (i j : Nat) x y, i < j → j < m → l[i]? = some x → l[j]? = some y → lessB x y = true
/-- how many of the names in order are less -/
def posF (l : List ByteArray) (x : ByteArray) : Nat → Nat → Nat
  | 0, k => k
  | f + 1, k => if (strAt l k).toList ≠ [] ∧ lessB (strAt l k) x = true then posF l x f (k + 1) else k
def posN (l : List ByteArray) (x : ByteArray) : Nat := posF l x l.length 0
theorem posF_spec (l : List ByteArray) (x : ByteArray) : ∀ (f k : Nat), k ≤ posF l x f k ∧ posF l x f k ≤ k + f ∧ (∀ t, k ≤ t → t < posF l x f k → (strAt l t).toList ≠ [] ∧ lessB (strAt l t) x = true) ∧ (posF l x f k < k + f → ¬ ((strAt l (posF l x f k)).toList ≠ [] ∧ lessB (strAt l (posF l x f k)) x = true))
  | 0, k => ⟨Nat.le_refl _, Nat.le_refl _, fun t h1 h2 => by simp only [posF] at h2; omega, fun h => by simp only [posF] at h; omega⟩
  | f + 1, k => by
    by_cases hc : (strAt l k).toList ≠ [] ∧ lessB (strAt l k) x = true
    · obtain ⟨h1, h2, h3, h4⟩ := posF_spec l x f (k + 1)
      rw [posF, if_pos hc]
      refine ⟨by omega, by omega, fun t a b => ?_, fun h => h4 (by omega)⟩
      by_cases hk : t = k
      · subst hk; exact hc
      · exact h3 t (by omega) b
    · rw [posF, if_neg hc]
      exact ⟨Nat.le_refl _, by omega, fun t a b => by omega, fun _ => hc⟩
theorem prefix_ex (P : Nat → Prop) : ∀ n, ∃ m, m ≤ n ∧ (∀ i, i < m → P i) ∧ (m = n ∨ ¬ P m)
  | 0 => ⟨0, Nat.le_refl _, fun i h => by omega, .inl rfl⟩
  | n + 1 => by
    obtain ⟨m, h1, h2, h3⟩ := prefix_ex P n
    rcases h3 with rfl | h3
    · by_cases hp : P m
      · exact ⟨m + 1, Nat.le_refl _, fun i hi => by
          by_cases h : i = m
          · subst h; exact hp
          · exact h2 i (by omega), .inl rfl⟩
      · exact ⟨m, by omega, h2, .inr hp⟩
    · exact ⟨m, by omega, h2, .inr h3⟩
def insAt {α : Type} (l : List α) (k : Nat) (x : α) : List α := (l.take k ++ x :: l.drop k).dropLast
/-- what stays when one is taken from each count -/
def lessTo (names : List ByteArray) (counts : List Int) : Nat → List (ByteArray × Int)
  | 0 => []
  | k + 1 => lessTo names counts k ++ if 1 < counts.getD k 0 then [(strAt names k, counts.getD k 0 - 1)] else []
theorem lessTo_len (names : List ByteArray) (counts : List Int) : ∀ k, (lessTo names counts k).length ≤ k
  | 0 => by simp [lessTo]
  | k + 1 => by
    have := lessTo_len names counts k
    rw [lessTo, List.length_append]
    split <;> simp <;> omega
def hless (h : Heavy) : Heavy :=
  ⟨(lessTo h.Names h.Counts h.Names.length).map (·.1) ++ List.replicate (h.Names.length - (lessTo h.Names h.Counts h.Names.length).length) ⟨#[]⟩,
   (lessTo h.Names h.Counts h.Names.length).map (·.2) ++ List.replicate (h.Names.length - (lessTo h.Names h.Counts h.Names.length).length) 0, h.Gone + 1, h.Total + 1⟩
def hadd (h : Heavy) (x : ByteArray) : Heavy :=
  if 0 ≤ idx h.Names x then ⟨h.Names, h.Counts.set (idx h.Names x).toNat (h.Counts.getD (idx h.Names x).toNat 0 + 1), h.Gone, h.Total + 1⟩
  else if (strAt h.Names (h.Names.length - 1)).toList ≠ [] then hless h
  else ⟨insAt h.Names (posN h.Names x) x, insAt h.Counts (posN h.Names x) 1, h.Gone, h.Total + 1⟩
section
variable {l : List ByteArray} {m : Nat} {x : ByteArray}
theorem HSort.of_ok {h : Heavy} (hk : heavyOk h = true) : ∃ m, HSort h.Names m := by
  obtain ⟨⟨_, _⟩, hcl, _, _, hs, _⟩ := heavyOk_iff.1 hk
  -- a name that is not free has one that is not free, and less, ahead of it
  have hstep : ∀ (i : Nat) (x : ByteArray), h.Names[i + 1]? = some x → x.toList ≠ [] → ∃ z, h.Names[i]? = some z ∧ z.toList ≠ [] ∧ lessB z x = true := fun i x hx hn => by
    have hi := (List.getElem?_eq_some_iff.1 hx).1
    have hz := List.getElem?_eq_getElem (show i < h.Names.length by omega)
    have hy := List.getElem?_eq_getElem (show i + 1 < h.Counts.length by omega)
    have h1 := hs (i + 1) hi
    rw [slotOk_of hx hy (by rw [Nat.add_sub_cancel]; exact hz)] at h1
    unfold slotP at h1
    rw [if_neg hn] at h1
    simp only [Bool.and_eq_true, Bool.or_eq_true, decide_eq_true_eq] at h1
    rcases h1.2 with h2 | h2
    · omega
    · exact ⟨_, hz, by simpa using h2.2, h2.1⟩
  have hdown : ∀ (d i : Nat) (x : ByteArray), h.Names[i + d]? = some x → x.toList ≠ [] → ∃ z, h.Names[i]? = some z ∧ z.toList ≠ [] ∧ (0 < d → lessB z x = true) := by
    intro d
    induction d with
    | zero => intro i x hx hn; exact ⟨x, hx, hn, fun h => by omega⟩
    | succ d ih =>
      intro i x hx hn
      obtain ⟨y, hy, hyn, hyx⟩ := hstep (i + d) x (by rw [← hx]; rfl) hn
      obtain ⟨z, hz, hzn, hzy⟩ := ih i y hy hyn
      refine ⟨z, hz, hzn, fun _ => ?_⟩
      rcases Nat.eq_zero_or_pos d with hd | hd
      · subst hd
        rw [Nat.add_zero, hz] at hy
        injection hy with hy
        subst hy
        exact hyx
      · exact bless_trans (hzy hd) hyx
  obtain ⟨m, h1, h2, h3⟩ := prefix_ex (fun i => ∀ x, h.Names[i]? = some x → x.toList ≠ []) h.Names.length
  refine ⟨m, h1, fun i x hi hx => h2 i hi x hx, fun i x hi hx => ?_, fun i j x y hij hj hx hy => ?_⟩
  · apply Classical.byContradiction
    intro hn
    have hil := (List.getElem?_eq_some_iff.1 hx).1
    rcases h3 with rfl | h3
    · omega
    · apply h3
      intro z hz
      obtain ⟨z', hz', hzn, _⟩ := hdown (i - m) m x (by rw [show m + (i - m) = i by omega]; exact hx) hn
      rw [hz] at hz'
      injection hz' with hz'
      rw [hz']; exact hzn
  · obtain ⟨z, hz, _, hzy⟩ := hdown (j - i) i y (by rw [show i + (j - i) = j by omega]; exact hy) (h2 j hj y hy)
    rw [hx] at hz
    injection hz with hz
    rw [hz]; exact hzy (by omega)
theorem HSort.at_ (h : HSort l m) {i : Nat} (hi : i < m) : ∃ y, l[i]? = some y ∧ strAt l i = y ∧ y.toList ≠ [] := by
  have hy := List.getElem?_eq_getElem (show i < l.length by have := h.le; omega)
  exact ⟨_, hy, strAt_of hy, h.used i _ hi hy⟩
/-- where the name belongs, among the used places -/
theorem HSort.pos (h : HSort l m) (x : ByteArray) : posN l x ≤ m ∧ (∀ t, t < posN l x → lessB (strAt l t) x = true) ∧ (∀ t, posN l x ≤ t → t < m → lessB (strAt l t) x = false) := by
  obtain ⟨_, h2, h3, h4⟩ := posF_spec l x l.length 0
  have hle : posN l x ≤ m := by
    rcases Nat.lt_or_ge m (posN l x) with hlt | hge
    · have hc := h3 m (Nat.zero_le _) hlt
      have hm : m < l.length := by unfold posN at hlt; omega
      exact absurd (h.free m _ (Nat.le_refl _) (List.getElem?_eq_getElem hm)) (by rw [← strAt_of (List.getElem?_eq_getElem hm)]; exact hc.1)
    · exact hge
  refine ⟨hle, fun t ht => (h3 t (Nat.zero_le _) ht).2, fun t ht htm => ?_⟩
  have hlen := h.le
  have hp : posN l x < m := by omega
  obtain ⟨y, hy, hys, hyn⟩ := h.at_ hp
  have hnp : lessB (strAt l (posN l x)) x = false := by
    have := h4 (by show posN l x < 0 + l.length; omega)
    change ¬ ((strAt l (posN l x)).toList ≠ [] ∧ lessB (strAt l (posN l x)) x = true) at this
    cases hb : lessB (strAt l (posN l x)) x
    · rfl
    · exact absurd ⟨by rw [hys]; exact hyn, hb⟩ this
  rcases Nat.eq_or_lt_of_le ht with rfl | hlt
  · exact hnp
  · obtain ⟨z, hz, hzs, _⟩ := h.at_ htm
    have hs := h.sort _ t y z hlt htm hy hz
    cases hb : lessB (strAt l t) x
    · rfl
    · rw [hzs] at hb
      rw [hys] at hnp
      have := bless_trans hs hb
      unfold lessB at hnp
      rw [hnp] at this
      cases this
theorem idxFrom_eq {v : ByteArray} {i : Nat} (hi : strAt l i = v) : ∀ (f k : Nat), k ≤ i → i < k + f → (∀ t, k ≤ t → t < i → strAt l t ≠ v) → idxFrom l v f k = i
  | 0, k, h1, h2, _ => by omega
  | f + 1, k, h1, h2, h3 => by
    rw [idxFrom]
    by_cases hk : strAt l k = v
    · rw [if_pos hk]
      by_cases hki : k = i
      · rw [hki]
      · exact absurd hk (h3 k (Nat.le_refl _) (by omega))
    · rw [if_neg hk]
      have : k ≠ i := fun e => hk (e ▸ hi)
      exact idxFrom_eq hi f (k + 1) (by omega) (by omega) fun t a b => h3 t (by omega) b
theorem idxFrom_none {v : ByteArray} : ∀ (f k : Nat), (∀ t, k ≤ t → t < k + f → strAt l t ≠ v) → idxFrom l v f k = -1
  | 0, _, _ => rfl
  | f + 1, k, h => by
    rw [idxFrom, if_neg (h k (Nat.le_refl _) (by omega))]
    exact idxFrom_none f (k + 1) fun t a b => h t (by omega) (by omega)
/-- what binary search finds -/
theorem HSort.found (h : HSort l m) {x : ByteArray} (hx : x.toList ≠ []) : (posN l x < m ∧ strAt l (posN l x) = x ∧ idx l x = posN l x) ∨ ((posN l x < m → strAt l (posN l x) ≠ x) ∧ idx l x = -1) := by
  obtain ⟨hp, hlt, hge⟩ := h.pos x
  have hlen := h.le
  have hne : ∀ {y : ByteArray}, lessB y x = true → y ≠ x := fun hy e => by
    subst e
    unfold lessB at hy
    rw [bless_irrefl] at hy
    cases hy
  by_cases hA : ∃ i, i < m ∧ strAt l i = x
  · obtain ⟨i, him, hix⟩ := hA
    have h1 : posN l x ≤ i := by
      rcases Nat.lt_or_ge i (posN l x) with h1 | h1
      · exact absurd hix (hne (hlt i h1))
      · exact h1
    have h2 : posN l x = i := by
      rcases Nat.eq_or_lt_of_le h1 with h2 | h2
      · exact h2
      · exfalso
        obtain ⟨y, hy, hys, _⟩ := h.at_ (show posN l x < m by omega)
        obtain ⟨z, hz, hzs, _⟩ := h.at_ him
        have h3 := h.sort _ i y z h2 him hy hz
        have h4 := hge (posN l x) (Nat.le_refl _) (by omega)
        rw [hys] at h4
        rw [← hzs, hix] at h3
        rw [h3] at h4
        cases h4
    refine .inl ⟨by omega, by rw [h2]; exact hix, ?_⟩
    rw [h2]
    exact idxFrom_eq hix _ 0 (Nat.zero_le _) (by omega) fun t _ b => hne (hlt t (by omega))
  · refine .inr ⟨fun h1 e => hA ⟨_, h1, e⟩, idxFrom_none _ 0 fun t _ b e => ?_⟩
    rcases Nat.lt_or_ge t m with h1 | h1
    · exact hA ⟨t, h1, e⟩
    · apply hx
      have hy := List.getElem?_eq_getElem (show t < l.length by omega)
      rw [← e, strAt_of hy]
      exact h.free t _ h1 hy
theorem HSort.full (h : HSort l m) (h0 : 0 < l.length) : (strAt l (l.length - 1)).toList ≠ [] ↔ m = l.length := by
  have hy := List.getElem?_eq_getElem (show l.length - 1 < l.length by omega)
  have hlen := h.le
  rw [strAt_of hy]
  constructor
  · intro hn
    apply Classical.byContradiction
    intro hm
    exact hn (h.free _ _ (by omega) hy)
  · intro hm
    exact h.used _ _ (by omega) hy
/-- where the first free place is -/
theorem HSort.idx_free (h : HSort l m) : idx l ⟨#[]⟩ = if m < l.length then (m : Int) else -1 := by
  have hne : ∀ t, t < m → strAt l t ≠ ⟨#[]⟩ := fun t ht e => by
    obtain ⟨y, _, hys, hyn⟩ := h.at_ ht
    rw [hys] at e
    subst e
    exact hyn (by rw [Lib.toList_data])
  split
  · rename_i hm
    have hy := List.getElem?_eq_getElem hm
    have he : strAt l m = ⟨#[]⟩ := by
      rw [strAt_of hy]
      exact ba_inj (by rw [h.free m _ (Nat.le_refl _) hy, Lib.toList_data])
    exact idxFrom_eq he _ 0 (Nat.zero_le _) (by omega) fun t _ b => hne t b
  · rename_i hm
    have hlen := h.le
    exact idxFrom_none _ 0 fun t _ b => hne t (by omega)
theorem insAt_len {β : Type} (l : List β) (k : Nat) (x : β) (hk : k ≤ l.length) : (insAt l k x).length = l.length := by
  unfold insAt
  rw [List.length_dropLast, List.length_append, List.length_cons, List.length_take, List.length_drop]
  omega
theorem insAt_get {β : Type} (l : List β) (k : Nat) (x : β) (hk : k ≤ l.length) (j : Nat) : (insAt l k x)[j]? = if l.length ≤ j then none else if j < k then l[j]? else if j = k then some x else l[j - 1]? := by
  unfold insAt
  rw [List.getElem?_dropLast]
  have hl : (l.take k ++ x :: l.drop k).length - 1 = l.length := by
    rw [List.length_append, List.length_cons, List.length_take, List.length_drop]; omega
  rw [hl]
  by_cases h1 : l.length ≤ j
  · rw [if_pos h1, if_neg (by omega)]
  · rw [if_neg h1, if_pos (by omega)]
    by_cases h2 : j < k
    · rw [if_pos h2, List.getElem?_append_left (by rw [List.length_take]; omega), List.getElem?_take, if_pos h2]
    · rw [if_neg h2, List.getElem?_append_right (by rw [List.length_take]; omega), List.length_take]
      by_cases h3 : j = k
      · rw [if_pos h3, h3, show k - min k l.length = 0 by omega]; rfl
      · rw [if_neg h3, show j - min k l.length = (j - 1 - k) + 1 by omega, List.getElem?_cons_succ, List.getElem?_drop]
        congr 1; omega
theorem insAt_map {β γ : Type} (f : β → γ) (l : List β) (k : Nat) (x : β) : (insAt l k x).map f = insAt (l.map f) k (f x) := by
  unfold insAt
  rw [List.map_dropLast, List.map_append, List.map_cons, List.map_take, List.map_drop]
theorem insAt_mem {β : Type} {l : List β} {k : Nat} {x y : β} (h : y ∈ insAt l k x) : y ∈ l ∨ y = x := by
  unfold insAt at h
  have h := List.dropLast_subset _ h
  rcases List.mem_append.1 h with h | h
  · exact .inl (List.mem_of_mem_take h)
  · rcases List.mem_cons.1 h with h | h
    · exact .inr h
    · exact .inl (List.mem_of_mem_drop h)
/-- all behind place i moved on by one -/
def shf {β : Type} (l : List β) (i : Nat) : List β := l.take (i + 1) ++ (l.drop i).dropLast
theorem shf_get {β : Type} (l : List β) (i : Nat) (hi : i < l.length) (j : Nat) : (shf l i)[j]? = if l.length ≤ j then none else if j ≤ i then l[j]? else l[j - 1]? := by
  unfold shf
  by_cases h1 : j ≤ i
  · rw [if_neg (by omega), if_pos h1, List.getElem?_append_left (by rw [List.length_take]; omega), List.getElem?_take, if_pos (by omega)]
  · rw [List.getElem?_append_right (by rw [List.length_take]; omega), List.length_take, List.getElem?_dropLast, List.length_drop]
    by_cases h2 : l.length ≤ j
    · rw [if_pos h2, if_neg (by omega)]
    · rw [if_neg h2, if_neg h1, if_pos (by omega), List.getElem?_drop]
      congr 1; omega
theorem shf_len {β : Type} (l : List β) (i : Nat) (hi : i < l.length) : (shf l i).length = l.length := by
  unfold shf
  rw [List.length_append, List.length_dropLast, List.length_take, List.length_drop]; omega
theorem shf_start {β : Type} (l : List β) (h0 : 0 < l.length) : shf l (l.length - 1) = l := by
  apply List.ext_getElem?
  intro j
  rw [shf_get _ _ (by omega)]
  by_cases h1 : l.length ≤ j
  · rw [if_pos h1, List.getElem?_eq_none h1]
  · rw [if_neg h1, if_pos (by omega)]
theorem shf_prev {β : Type} {l : List β} {i : Nat} (hi : i < l.length) (h0 : 0 < i) : (shf l i)[i - 1]? = l[i - 1]? := by
  rw [shf_get _ _ hi, if_neg (by omega), if_pos (by omega)]
theorem shf_next {β : Type} {l : List β} {i : Nat} {y : β} (hi : i < l.length) (h0 : 0 < i) (hy : l[i - 1]? = some y) : (shf l i).set i y = shf l (i - 1) := by
  apply List.ext_getElem?
  intro j
  by_cases hj : i = j
  · subst hj
    rw [List.getElem?_set_self (by rw [shf_len _ _ hi]; exact hi), shf_get _ _ (by omega), if_neg (by omega), if_neg (by omega), hy]
  · rw [List.getElem?_set_ne hj, shf_get _ _ hi, shf_get _ _ (by omega)]
    by_cases h1 : l.length ≤ j
    · rw [if_pos h1, if_pos h1]
    · rw [if_neg h1, if_neg h1]
      by_cases h2 : j ≤ i - 1
      · rw [if_pos h2, if_pos (by omega)]
      · rw [if_neg h2, if_neg (by omega)]
theorem shf_done {β : Type} {l : List β} {k : Nat} {x : β} (hk : k < l.length) : (shf l k).set k x = insAt l k x := by
  apply List.ext_getElem?
  intro j
  rw [insAt_get _ _ _ (by omega)]
  by_cases hj : k = j
  · subst hj
    rw [List.getElem?_set_self (by rw [shf_len _ _ hk]; exact hk), if_neg (by omega), if_neg (by omega), if_pos rfl]
  · rw [List.getElem?_set_ne hj, shf_get _ _ hk]
    by_cases h1 : l.length ≤ j
    · rw [if_pos h1, if_pos h1]
    · rw [if_neg h1, if_neg h1]
      by_cases h2 : j < k
      · rw [if_pos h2, if_pos (by omega)]
      · rw [if_neg h2, if_neg (by omega), if_neg (by omega)]
/-- what holds of a summary while it is fed -/
structure HIn (h : Heavy) (b : Int) : Prop where
  pl : 1 ≤ h.Names.length ∧ h.Names.length ≤ 6
  cl : h.Counts.length = h.Names.length
  so : ∃ m, HSort h.Names m
  cb : ∀ (i : Nat) y, h.Counts[i]? = some y → 0 ≤ y ∧ y ≤ b
  gb : 0 ≤ h.Gone ∧ h.Gone ≤ b
  tb : 0 ≤ h.Total ∧ h.Total ≤ b
theorem HIn.of_ok {h : Heavy} (hk : heavyOk h = true) : HIn h 1000000 := by
  have hs := HSort.of_ok hk
  obtain ⟨h1, h2, h3, h4, h5, _⟩ := heavyOk_iff.1 hk
  refine ⟨by omega, h2, hs, fun i y hy => ?_, by omega, by omega⟩
  have hi := (List.getElem?_eq_some_iff.1 hy).1
  have := slotP_bd (h5 i (by omega))
  rw [getD_of hy] at this
  omega
theorem HSort.ins {l : List ByteArray} {m : Nat} {x : ByteArray} (h : HSort l m) (hm : m < l.length) (hx : x.toList ≠ []) (hn : posN l x < m → strAt l (posN l x) ≠ x) : HSort (insAt l (posN l x) x) (m + 1) := by
  obtain ⟨hp, hlt, hge⟩ := h.pos x
  have hg := insAt_get l (posN l x) x (by omega)
  refine ⟨by rw [insAt_len _ _ _ (by omega)]; omega, fun i y hi hy => ?_, fun i y hi hy => ?_, fun i j y z hij hj hy hz => ?_⟩
  · rw [hg] at hy
    split at hy
    · cases hy
    · split at hy
      · exact h.used i y (by omega) hy
      · split at hy
        · injection hy with hy; subst hy; exact hx
        · exact h.used (i - 1) y (by omega) hy
  · rw [hg] at hy
    split at hy
    · cases hy
    · rw [if_neg (by omega), if_neg (by omega)] at hy
      exact h.free (i - 1) y (by omega) hy
  · rw [hg] at hy hz
    rw [if_neg (by omega)] at hy hz
    by_cases h1 : j < posN l x
    · rw [if_pos (by omega)] at hy
      rw [if_pos h1] at hz
      exact h.sort i j y z hij (by omega) hy hz
    · rw [if_neg h1] at hz
      by_cases h2 : j = posN l x
      · rw [if_pos h2] at hz
        injection hz with hz
        rw [if_pos (by omega)] at hy
        have := hlt i (by omega)
        rw [strAt_of hy] at this
        rw [← hz]; exact this
      · rw [if_neg h2] at hz
        by_cases h3 : i < posN l x
        · rw [if_pos h3] at hy
          exact h.sort i (j - 1) y z (by omega) (by omega) hy hz
        · rw [if_neg h3] at hy
          by_cases h4 : i = posN l x
          · rw [if_pos h4] at hy
            injection hy with hy
            subst hy
            have h5 := hge (j - 1) (by omega) (by omega)
            rw [strAt_of hz] at h5
            have h6 : z ≠ x := fun e => by
              rcases Nat.eq_or_lt_of_le (show posN l x ≤ j - 1 by omega) with h7 | h7
              · exact hn (by omega) (by rw [h7, strAt_of hz]; exact e)
              · obtain ⟨u, hu, hus, _⟩ := h.at_ (show posN l x < m by omega)
                have h8 := h.sort _ (j - 1) u z h7 (by omega) hu hz
                have h9 := hge (posN l x) (Nat.le_refl _) (by omega)
                rw [hus] at h9
                rw [e, h9] at h8
                cases h8
            rcases bless_total (fun e => h6 (ba_inj e)) with h7 | h7
            · unfold lessB at h5; rw [h7] at h5; cases h5
            · exact h7
          · rw [if_neg h4] at hy
            exact h.sort (i - 1) (j - 1) y z (by omega) (by omega) hy hz
theorem lessTo_sub (names : List ByteArray) (counts : List Int) : ∀ k, k ≤ names.length → ((lessTo names counts k).map (·.1)).Sublist (names.take k)
  | 0, _ => by simp [lessTo]
  | k + 1, hk => by
    have ih := lessTo_sub names counts k (by omega)
    rw [lessTo, List.map_append, List.take_succ_eq_append_getElem (by omega)]
    refine ih.append ?_
    split
    · rw [List.map_cons, List.map_nil, strAt_of (List.getElem?_eq_getElem (show k < names.length by omega))]
      exact List.Sublist.refl _
    · exact List.nil_sublist _
theorem lessTo_bd {names : List ByteArray} {counts : List Int} {b : Int} (hb : ∀ (i : Nat) y, counts[i]? = some y → 0 ≤ y ∧ y ≤ b) : ∀ k, ∀ p, p ∈ lessTo names counts k → 0 ≤ p.2 ∧ p.2 ≤ b
  | 0, p, hp => by simp [lessTo] at hp
  | k + 1, p, hp => by
    rw [lessTo] at hp
    rcases List.mem_append.1 hp with hp | hp
    · exact lessTo_bd hb k p hp
    · split at hp
      · rename_i h1
        rw [List.mem_singleton.1 hp]
        show 0 ≤ counts.getD k 0 - 1 ∧ counts.getD k 0 - 1 ≤ b
        cases hc : counts[k]? with
        | none => rw [List.getD_eq_getElem?_getD, hc] at h1; simp at h1
        | some y => rw [getD_of hc] at h1 ⊢; have := hb k y hc; omega
      · cases hp
theorem hless_len (h : Heavy) : (hless h).Names.length = h.Names.length ∧ (hless h).Counts.length = h.Names.length := by
  have := lessTo_len h.Names h.Counts h.Names.length
  unfold hless
  simp only [List.length_append, List.length_map, List.length_replicate]
  omega
theorem hless_in {h : Heavy} {b : Int} (hi : HIn h b) (hf : HSort h.Names h.Names.length) : HIn (hless h) (b + 1) := by
  have hl := lessTo_len h.Names h.Counts h.Names.length
  have hlen := hless_len h
  have h1 := hi.pl; have h2 := hi.gb; have h3 := hi.tb
  refine ⟨by rw [hlen.1]; exact hi.pl, by rw [hlen.1]; exact hlen.2, ⟨(lessTo h.Names h.Counts h.Names.length).length, ?_⟩, fun i y hy => ?_, ?_, ?_⟩
  · have hsub := lessTo_sub h.Names h.Counts h.Names.length (Nat.le_refl _)
    rw [List.take_length] at hsub
    have hpw : h.Names.Pairwise (fun x y => lessB x y = true) := by
      rw [List.pairwise_iff_getElem]
      intro i j hi' hj hij
      exact hf.sort i j _ _ hij hj (List.getElem?_eq_getElem hi') (List.getElem?_eq_getElem hj)
    have hpl := hpw.sublist hsub
    have hne : ∀ y ∈ (lessTo h.Names h.Counts h.Names.length).map (·.1), y.toList ≠ [] := fun y hy => by
      have hy := hsub.subset hy
      obtain ⟨i, hi', rfl⟩ := List.mem_iff_getElem.1 hy
      exact hf.used i _ hi' (List.getElem?_eq_getElem hi')
    have hml : ((lessTo h.Names h.Counts h.Names.length).map (·.1)).length = (lessTo h.Names h.Counts h.Names.length).length := by simp
    refine ⟨by rw [hlen.1]; exact hl, fun i y hi' hy => ?_, fun i y hi' hy => ?_, fun i j y z hij hj hy hz => ?_⟩
    · unfold hless at hy
      dsimp only at hy
      rw [List.getElem?_append_left (by rw [hml]; exact hi')] at hy
      exact hne y (List.mem_of_getElem? hy)
    · unfold hless at hy
      dsimp only at hy
      rw [List.getElem?_append_right (by rw [hml]; exact hi'), List.getElem?_replicate] at hy
      split at hy
      · injection hy with hy
        rw [← hy, Lib.toList_data]
      · cases hy
    · unfold hless at hy hz
      dsimp only at hy hz
      rw [List.getElem?_append_left (by rw [hml]; omega)] at hy hz
      obtain ⟨a1, a2⟩ := List.getElem?_eq_some_iff.1 hy
      obtain ⟨b1, b2⟩ := List.getElem?_eq_some_iff.1 hz
      rw [← a2, ← b2]
      exact List.pairwise_iff_getElem.1 hpl i j a1 b1 hij
  · unfold hless at hy
    dsimp only at hy
    have hm := List.mem_of_getElem? hy
    rcases List.mem_append.1 hm with hm | hm
    · obtain ⟨p, hp, rfl⟩ := List.mem_map.1 hm
      have := lessTo_bd hi.cb _ p hp
      omega
    · rw [(List.mem_replicate.1 hm).2]; omega
  · show 0 ≤ h.Gone + 1 ∧ h.Gone + 1 ≤ b + 1; omega
  · show 0 ≤ h.Total + 1 ∧ h.Total + 1 ≤ b + 1; omega
theorem hadd_in {h : Heavy} {b : Int} {x : ByteArray} (hi : HIn h b) (hx : x.toList ≠ []) : HIn (hadd h x) (b + 1) := by
  obtain ⟨m, hs⟩ := hi.so
  have h1 := hi.pl; have h2 := hi.gb; have h3 := hi.tb
  have hlen := hs.le
  unfold hadd
  by_cases hf : 0 ≤ idx h.Names x
  · rw [if_pos hf]
    refine ⟨hi.pl, by rw [List.length_set]; exact hi.cl, ⟨m, hs⟩, fun i y hy => ?_, by show 0 ≤ h.Gone ∧ h.Gone ≤ b + 1; omega, by show 0 ≤ h.Total + 1 ∧ h.Total + 1 ≤ b + 1; omega⟩
    dsimp only at hy
    have hbd := idx_bd (l := h.Names) (v := x)
    by_cases he : (idx h.Names x).toNat = i
    · subst he
      rw [List.getElem?_set_self (by rw [hi.cl]; omega)] at hy
      injection hy with hy
      obtain ⟨z, hz⟩ : ∃ z, h.Counts[(idx h.Names x).toNat]? = some z := ⟨_, List.getElem?_eq_getElem (by rw [hi.cl]; omega)⟩
      rw [getD_of hz] at hy
      have := hi.cb _ z hz
      omega
    · rw [List.getElem?_set_ne he] at hy
      have := hi.cb _ y hy
      omega
  · rw [if_neg hf]
    by_cases hu : (strAt h.Names (h.Names.length - 1)).toList ≠ []
    · rw [if_pos hu]
      have hm := (hs.full (by omega)).1 hu
      subst hm
      exact hless_in hi hs
    · rw [if_neg hu]
      have hm : m < h.Names.length := by
        rcases Nat.lt_or_ge m h.Names.length with h4 | h4
        · exact h4
        · exact absurd ((hs.full (by omega)).2 (by omega)) hu
      have hp := (hs.pos x).1
      have hn : posN h.Names x < m → strAt h.Names (posN h.Names x) ≠ x := by
        rcases hs.found hx with h4 | h4
        · exact absurd (by rw [h4.2.2]; omega) hf
        · exact h4.1
      refine ⟨by show 1 ≤ (insAt _ _ _).length ∧ _; rw [insAt_len _ _ _ (by omega)]; exact hi.pl, by show (insAt _ _ _).length = (insAt _ _ _).length; rw [insAt_len _ _ _ (by rw [hi.cl]; omega), insAt_len _ _ _ (by omega)]; exact hi.cl, ⟨m + 1, hs.ins hm hx hn⟩, fun i y hy => ?_, by show 0 ≤ h.Gone ∧ h.Gone ≤ b + 1; omega, by show 0 ≤ h.Total + 1 ∧ h.Total + 1 ≤ b + 1; omega⟩
      rcases insAt_mem (List.mem_of_getElem? hy) with h4 | h4
      · obtain ⟨j, hj⟩ := List.mem_iff_getElem?.1 h4
        have := hi.cb j y hj
        omega
      · omega
def addHeavy (h : Heavy) (x : ByteArray) : Heavy × Bool :=
  if (heavyOk h && word false x.data.toList) = true then (if heavyOk (hadd h x) = true then (hadd h x, true) else (⟨[], [], 0, 0⟩, false)) else (⟨[], [], 0, 0⟩, false)
/-- names fed one after the other; false where one is none -/
def feedFrom : Heavy → List ByteArray → Heavy × Bool
  | h, [] => (h, true)
  | h, x :: l => if word false x.data.toList = true then feedFrom (hadd h x) l else (⟨[], [], 0, 0⟩, false)
def hv0 (n : Nat) : Heavy := ⟨List.replicate n ⟨#[]⟩, List.replicate n 0, 0, 0⟩
def feedHeavy (n : Int) (l : List ByteArray) : Heavy × Bool :=
  if isIn n 1 6 = true ∧ l.length ≤ 200 then feedFrom (hv0 n.toNat) l else (⟨[], [], 0, 0⟩, false)
theorem hv0_in {n : Nat} (h1 : 1 ≤ n) (h6 : n ≤ 6) : HIn (hv0 n) 0 := by
  refine ⟨by unfold hv0; simp; omega, by unfold hv0; simp, ⟨0, ⟨Nat.zero_le _, fun i x h => by omega, fun i x _ hx => ?_, fun i j x y _ h => by omega⟩⟩, fun i y hy => ?_, by unfold hv0; simp, by unfold hv0; simp⟩
  · unfold hv0 at hx
    dsimp only at hx
    rw [List.getElem?_replicate] at hx
    split at hx
    · injection hx with hx; rw [← hx, Lib.toList_data]
    · cases hx
  · unfold hv0 at hy
    dsimp only at hy
    rw [List.getElem?_replicate] at hy
    split at hy
    · injection hy with hy; omega
    · cases hy
end
end Pl
end Go.Proofs.Ytpmeagchkcffoaa

/-
  slices.Insert with one element, and append of zero values, on slices that the call owns and whose elements are one cell each and lead nowhere. No program in sight. No conditions.
-/
namespace Go.Proofs.Ytpmeagchkcffoaa
open Go.RowKit
namespace Mm
theorem flat_sub {β γ : Type} (f : β → List γ) {us ts : List β} (h : us.Sublist ts) : (us.flatMap f).Sublist (ts.flatMap f) := by
  induction h with
  | slnil => exact List.Sublist.refl _
  | cons a _ ih => rw [List.flatMap_cons]; exact ih.trans (List.sublist_append_right _ _)
  | cons_cons a _ ih => rw [List.flatMap_cons, List.flatMap_cons]; exact (List.Sublist.refl _).append ih
/-- fewer things -/
theorem SepF.sub {F : List Nat} {w0 wr : World} {ts us : List Thing} (h : SepF F w0 wr ts) (hs : us.Sublist ts) : SepF F w0 wr us :=
  ⟨h.chg, h.nd.sublist (flat_sub (·.fp) hs), fun b hb => h.new b ((flat_sub (·.fp) hs).subset hb), fun u hu => h.hold u (hs.subset hu)⟩
/-- elements of one cell that lead nowhere -/
structure Flat1 {α : Type} (E : Rep α) (val : α → Value) : Prop where
  size : E.size = 1
  one : ∀ x, (val x).oneCell' = true
  inv : ∀ {w x cs fx}, E.own w x cs fx → cs = [val x] ∧ fx = [] ∧ ∀ w', E.own w' x [val x] []
theorem flat1_int : Flat1 int (fun x => .int .i64 x) := ⟨rfl, fun _ => rfl, fun h => ⟨h.1, h.2.2, fun _ => ⟨rfl, h.2.1, rfl⟩⟩⟩
theorem flat1_str : Flat1 str (fun x => .string x) := ⟨rfl, fun _ => rfl, fun h => ⟨h.1, h.2.2, fun _ => ⟨rfl, h.2.1, rfl⟩⟩⟩
theorem fm_val {α : Type} (val : α → Value) : ∀ xs : List α, xs.flatMap (fun x => [val x]) = xs.map val
  | [] => rfl
  | a :: t => by rw [List.flatMap_cons, fm_val val t]; rfl
theorem shape_blk {w : World} {g : Nat} {t : TypeId} {cs : List Value} (h : Blk w g t cs) : w.shape? g = some (t, cs.length) := by
  unfold Blk at h
  unfold World.shape?
  rw [h]
  simp
section
variable {α : Type} {E : Rep α} {val : α → Value} {e : TypeId} {w w' : World} {xs : List α} {v : Value} {fp : List Nat} {g n c : Nat}
theorem Flat1.owns (hF : Flat1 E val) (h : SlOwn E e w xs v fp) : w.ownsRow 0 e 1 v xs.length (xs.map val) ∧ fp = v.ownBlock.toList ∧ ∀ x, x ∈ xs → ∀ w', E.own w' x [val x] [] := by
  obtain ⟨es, he, ho, rfl⟩ := h
  have h1 : es = xs.map fun x => ([val x], ([] : List Nat)) := by
    apply List.ext_getElem?
    intro i
    rw [List.getElem?_map]
    rcases Nat.lt_or_ge i xs.length with hi | hi
    · have hx := List.getElem?_eq_getElem hi
      have hy := List.getElem?_eq_getElem (show i < es.length by rw [he.1]; exact hi)
      have h2 := hF.inv (he.2 i _ _ hx hy)
      rw [hx, hy]
      exact congrArg some (Prod.ext h2.1 h2.2.1)
    · rw [List.getElem?_eq_none hi, List.getElem?_eq_none (by rw [he.1]; exact hi)]
      rfl
  have h3 : (xs.map fun x => ([val x], ([] : List Nat))).flatMap (·.1) = xs.map val := by rw [List.flatMap_map]; exact fm_val val xs
  have h4 : (xs.map fun x => ([val x], ([] : List Nat))).flatMap (·.2) = [] := by simp [List.flatMap_map]
  refine ⟨?_, by rw [h1, h4]; simp, fun x hx w' => ?_⟩
  · rw [h1, h3, hF.size] at ho
    exact ho
  · obtain ⟨i, hi, rfl⟩ := List.mem_iff_getElem.1 hx
    exact (hF.inv (he.2 i _ _ (List.getElem?_eq_getElem hi) (List.getElem?_eq_getElem (show i < es.length by rw [he.1]; exact hi)))).2.2 w'
theorem Flat1.row (hF : Flat1 E val) (ho : w.ownsRow 0 e 1 v xs.length (xs.map val)) (hE : ∀ x, x ∈ xs → E.own w x [val x] []) : SlOwn E e w xs v v.ownBlock.toList :=
  SlOwn.of_row (enc := fun x => [val x]) (by
    rw [hF.size, show xs.flatMap (fun x => [val x]) = xs.map val from fm_val val xs]
    exact ho) hE rfl
theorem Flat1.blk (hF : Flat1 E val) (h : SlOwn E e w xs (.slice (some ⟨g, 0, none⟩) n c) fp) : ∃ cur, Blk w g e cur ∧ cur.length = c ∧ cur.take n = xs.map val ∧ n = xs.length ∧ n ≤ c ∧ c ≤ maxLen ∧ fp = [g] := by
  obtain ⟨h1, h2, _⟩ := hF.owns h
  rcases h1.2 with ⟨h3, _⟩ | ⟨g', cap, cur, h3, _, hg, hnc, hcm, hcs, htake⟩
  · simp at h3
  · simp only [Value.slice.injEq, Option.some.injEq, Addr.mk.injEq, and_true] at h3
    obtain ⟨rfl, rfl, rfl⟩ := h3
    refine ⟨cur.toList, by unfold Blk; rw [Array.toArray_toList]; exact hg, by simpa using hcs, by simpa using htake, rfl, hnc, hcm, by rw [h2]; simp [Value.ownBlock]⟩
theorem Flat1.of_blk (hF : Flat1 E val) {cur : List Value} (h : Blk w g e cur) (hl : cur.length = c) (ht : cur.take n = xs.map val) (hn : xs.length = n) (hnc : n ≤ c) (hc : c ≤ maxLen) (hE : ∀ x, x ∈ xs → E.own w x [val x] []) : SlOwn E e w xs (.slice (some ⟨g, 0, none⟩) n c) [g] := by
  subst hn
  exact hF.row ⟨by simp, .inr ⟨g, c, cur.toArray, rfl, Nat.zero_le _, h, hnc, hc, by simpa using hl, by simpa using ht⟩⟩ hE
theorem Flat1.cell (hF : Flat1 E val) (h : SlOwn E e w xs (.slice (some ⟨g, 0, none⟩) n c) fp) {k : Nat} {x : α} (hk : xs[k]? = some x) : w.cell? ⟨g, k, none⟩ = some (val x) := by
  obtain ⟨cur, hb, hcl, ht, hn, hnc, _⟩ := hF.blk h
  have hkn := (List.getElem?_eq_some_iff.1 hk).1
  refine hb.cell ?_
  have h1 : (cur.take n)[k]? = some (val x) := by rw [ht, List.getElem?_map, hk]; rfl
  rw [List.getElem?_take, if_pos (by omega)] at h1
  exact h1
theorem setCells_blk : ∀ (vs : List Value) (w : World) (o : Nat) (cs : List Value), Blk w g e cs → Blk (w.setCells g o vs) g e (setList cs o vs)
  | [], _, _, _, h => h
  | v :: r, _, o, _, h => setCells_blk r _ (o + 1) _ (h.set_ o v)
theorem setCells_chg (g : Nat) : ∀ (vs : List Value) (w : World) (o : Nat), Chg [g] w (w.setCells g o vs)
  | [], w, _ => Chg.refl _ _
  | v :: r, w, o => ((Chg.refl [g] w).setCell (p := ⟨g, o, none⟩) (by simp) v).trans (setCells_chg g r _ (o + 1))
theorem ins_cells {cur ys : List Value} {u : Value} {i : Nat} (ht : cur.take n = ys) (hn : ys.length = n) (hi : i < n) (hroom : n + 1 ≤ cur.length) :
    (setList (setList cur (i + 1) (ys.drop i)) i [u]).take n = Pl.insAt ys i u := by
  apply List.ext_getElem?
  intro j
  rw [Pl.insAt_get _ _ _ (by omega), List.getElem?_take, hn]
  by_cases hj : n ≤ j
  · rw [if_neg (by omega), if_pos hj]
  · rw [if_pos (by omega), if_neg hj, setList_get _ _ _ _ (by rw [setList_len]; simp; omega)]
    by_cases h1 : j < i
    · rw [if_pos h1, if_neg (by omega), setList_get _ _ _ _ (by rw [List.length_drop]; omega), if_neg (by omega), ← ht, List.getElem?_take, if_pos (by omega)]
    · rw [if_neg h1]
      by_cases h2 : j = i
      · subst h2
        rw [if_pos rfl, if_pos (by simp), Nat.sub_self]; rfl
      · rw [if_neg h2, if_neg (by simp; omega), setList_get _ _ _ _ (by rw [List.length_drop]; omega), if_pos (by rw [List.length_drop]; omega), List.getElem?_drop]
        congr 1; omega
theorem ins_cells' {rest ys : List Value} {z u : Value} {i k : Nat} (hn : ys.length = n) (hi : i < n) (hk : (ys.take i ++ List.replicate (n + 1 - i) z ++ rest).length = k) :
    (setList (setList (ys.take i ++ List.replicate (n + 1 - i) z ++ rest) i [u]) (i + 1) (ys.drop i)).take n = Pl.insAt ys i u := by
  have hl : n + 1 ≤ (ys.take i ++ List.replicate (n + 1 - i) z ++ rest).length := by
    rw [List.length_append, List.length_append, List.length_take, List.length_replicate]; omega
  apply List.ext_getElem?
  intro j
  rw [Pl.insAt_get _ _ _ (by omega), List.getElem?_take, hn]
  by_cases hj : n ≤ j
  · rw [if_neg (by omega), if_pos hj]
  · rw [if_pos (by omega), if_neg hj, setList_get _ _ _ _ (by rw [setList_len, List.length_drop]; omega)]
    by_cases h1 : j < i
    · rw [if_pos h1, if_neg (by omega), setList_get _ _ _ _ (by simp only [List.length_singleton]; omega), if_neg (by omega), List.getElem?_append_left (by rw [List.length_append, List.length_take, List.length_replicate]; omega), List.getElem?_append_left (by rw [List.length_take]; omega), List.getElem?_take, if_pos h1]
    · rw [if_neg h1]
      by_cases h2 : j = i
      · subst h2
        rw [if_pos rfl, if_neg (by omega), setList_get _ _ _ _ (by simp only [List.length_singleton]; omega), if_pos (by simp), Nat.sub_self]; rfl
      · rw [if_neg h2, if_pos (by rw [List.length_drop]; omega), List.getElem?_drop]
        congr 1; omega
/-- behind slices.Insert of one element, where there was room: the slice cut back to its old length -/
theorem ins_shift {F : List Nat} {w0 wr : World} {ts : List Thing} {i k : Nat} {x : α} (hF : Flat1 E val) (h : SepF F w0 wr ts) (hi : ts[i]? = some (tsl E e xs (.slice (some ⟨g, 0, none⟩) n c) fp)) (hk : k < n) (hroom : n + 1 ≤ c) (hx : ∀ w, E.own w x [val x] []) {off1 off2 : Nat} (h1 : k + 1 = off1) (h2 : k = off2) :
    SepF F w0 ((wr.drew.setCells g off1 ((xs.map val).drop k)).setCells g off2 [val x]) (ts.set i (tsl E e (Pl.insAt xs k x) (.slice (some ⟨g, 0, none⟩) n c) fp)) := by
  subst h1; subst h2
  have hs : SlOwn E e wr xs (.slice (some ⟨g, 0, none⟩) n c) fp := h.at_ i hi
  obtain ⟨cur, hb, hcl, ht, hn, hnc, hcm, rfl⟩ := hF.blk hs
  have hxs := (hF.owns hs).2.2
  have hd : Blk wr.drew g e cur := hb
  have hb2 := setCells_blk [val x] _ k _ (setCells_blk ((xs.map val).drop k) _ (k + 1) _ hd)
  refine h.upd hi (((Chg.of_below (Below.refl wr.heap.size wr).drew).trans (setCells_chg g _ _ _)).trans (setCells_chg g _ _ _)) (t' := tsl E e (Pl.insAt xs k x) (.slice (some ⟨g, 0, none⟩) n c) [g]) ?_ (by simp [tsl]) (fun b hb => .inl hb)
  refine hF.of_blk hb2 (by rw [setList_len, setList_len, hcl]) ?_ (by rw [Pl.insAt_len _ _ _ (by omega)]; omega) hnc hcm (fun y hy => ?_)
  · rw [ins_cells ht (by rw [List.length_map]; omega) hk (by omega), Pl.insAt_map]
  · rcases Pl.insAt_mem hy with hy | rfl
    · exact hxs y hy _
    · exact hx _
/-- the same, where it has moved -/
theorem ins_grow {F : List Nat} {w0 wr : World} {ts : List Thing} {i k : Nat} {x : α} {z : Value} {ROW : Array Value} {G : Nat} (hF : Flat1 E val) (h : SepF F w0 wr ts) (hi : ts[i]? = some (tsl E e xs (.slice (some ⟨g, 0, none⟩) n c) fp)) (hk : k < n) (hx : ∀ w, E.own w x [val x] []) {off1 off2 : Nat} (h1 : k = off1) (h2 : k + 1 = off2) (hG : n + 1 ≤ G) (hGm : G ≤ maxLen)
    (hR : ROW = ((xs.map val).take k).toArray ++ Builtin.zeroCells #[z] (n + 1 - k) ++ Builtin.zeroCells #[z] (G - (n + 1))) :
    SepF F w0 ((((wr.alloc (.cells ROW e)).drew.setCells wr.heap.size off1 [val x]).drew).setCells wr.heap.size off2 ((xs.map val).drop k)) (ts.set i (tsl E e (Pl.insAt xs k x) (.slice (some ⟨wr.heap.size, 0, none⟩) n G) [wr.heap.size])) := by
  subst h1; subst h2
  have hs : SlOwn E e wr xs (.slice (some ⟨g, 0, none⟩) n c) fp := h.at_ i hi
  obtain ⟨cur, hb, hcl, ht, hn, hnc, hcm, rfl⟩ := hF.blk hs
  have hxs := (hF.owns hs).2.2
  have hz : ∀ m, (Builtin.zeroCells #[z] m).toList = List.replicate m z := fun m => by
    apply List.ext_getElem?
    intro j
    by_cases hj : j < m <;> simp [Builtin.zeroCells, hj, Nat.mod_one]
  have hRl : ROW.toList = (xs.map val).take k ++ List.replicate (n + 1 - k) z ++ List.replicate (G - (n + 1)) z := by
    rw [hR]; simp [hz]
  have hRs : ROW.toList.length = G := by
    rw [hRl]; simp; omega
  have hd : Blk (wr.alloc (.cells ROW e)).drew wr.heap.size e ROW.toList := by
    have := Blk.new wr e ROW.toList
    rw [Array.toArray_toList] at this
    exact this
  have hb1 : Blk (((wr.alloc (.cells ROW e)).drew.setCells wr.heap.size k [val x]).drew) wr.heap.size e (setList ROW.toList k [val x]) := setCells_blk [val x] _ k _ hd
  have hb2 := setCells_blk ((xs.map val).drop k) _ (k + 1) _ hb1
  have hch : Below wr.heap.size wr ((((wr.alloc (.cells ROW e)).drew.setCells wr.heap.size k [val x]).drew).setCells wr.heap.size (k + 1) ((xs.map val).drop k)) := by
    have q1 : Below wr.heap.size wr (wr.alloc (.cells ROW e)).drew := (below_new (Below.refl _ _) _).drew
    have q2 := Below.chg q1 (setCells_chg wr.heap.size [val x] _ k) q1.size (fun b hb => by rw [List.mem_singleton.1 hb]; exact Nat.le_refl _)
    have q3 := Below.chg q2.drew (setCells_chg wr.heap.size ((xs.map val).drop k) _ (k + 1)) q2.drew.size (fun b hb => by rw [List.mem_singleton.1 hb]; exact Nat.le_refl _)
    exact q3
  refine h.upd hi (Chg.of_below hch) (t' := tsl E e (Pl.insAt xs k x) (.slice (some ⟨wr.heap.size, 0, none⟩) n G) [wr.heap.size]) ?_ (by simp [tsl]) (fun b hb => .inr (by simp [tsl] at hb; omega))
  refine hF.of_blk hb2 (by rw [setList_len, setList_len, hRs]) ?_ (by rw [Pl.insAt_len _ _ _ (by omega)]; omega) (by omega) hGm (fun y hy => ?_)
  · rw [hRl, ins_cells' (by rw [List.length_map]; omega) hk rfl, Pl.insAt_map]
  · rcases Pl.insAt_mem hy with hy | rfl
    · exact hxs y hy _
    · exact hx _
end
section
variable {P : Program} (w : World)
/-- append(s, make([]T, k)...) on a slice that the call owns -/
theorem run_append_own_zeros (t tn ty e : TypeId) (i : TypeInfo) (z : Value) (bytes : Nat) (ht : P.underlying t = some (.slice e)) (htn : P.underlying tn = some (.int .i64)) (hi : P.info? e = some i) (hz : i.zero = some z) (hsize : i.size = 1) (hby : i.bytes = bytes) (hzs : z.cells = #[z]) (hz1 : z.oneCell' = true)
    (v : Value) (n : Nat) (xs : List Value) (hown : w.ownsRow 0 e 1 v n xs) (k : Nat) (hnk : n + k ≤ maxLen) (hbytes : (n + k) * bytes ≤ 140737488355328) :
    ∃ v' w', (Builtin.append_ #[t, tn] ty #[v, .int .i64 k]).run P w = .ok v' w' ∧ w'.ownsRow 0 e 1 v' (n + k) (xs ++ List.replicate k z) ∧ w.grownBy w' v.ownBlock ∧ (v'.ownBlock = v.ownBlock ∨ v'.ownBlock = some w.heap.size) := by
  subst hby
  have hzc : ∀ m, (Builtin.zeroCells z.cells m).toList = List.replicate m z := fun m => by
    rw [hzs]
    apply List.ext_getElem?
    intro j
    by_cases hj : j < m <;> simp [Builtin.zeroCells, hj, Nat.mod_one]
  have hlen : (xs ++ List.replicate k z).length = n + k := by rw [List.length_append, hown.1, List.length_replicate]; omega
  have hm63 : n + k ≤ 9223372036854775807 := by unfold maxLen at hnk; omega
  have hkb : k * i.bytes ≤ 281474976710656 := by
    have := Nat.mul_le_mul_right i.bytes (show k ≤ n + k by omega)
    omega
  have grown : ∀ (old : Nat) (row : Option Nat),
      (w.drew.alloc (.cells (xs.toArray ++ Builtin.zeroCells z.cells k ++ Builtin.zeroCells z.cells (grownCap w (n + k) old e - (n + k))) e)).ownsRow 0 e 1
        (.slice (some ⟨w.heap.size, 0, none⟩) (n + k) (grownCap w (n + k) old e)) (n + k) (xs ++ List.replicate k z) ∧
      w.grownBy (w.drew.alloc (.cells (xs.toArray ++ Builtin.zeroCells z.cells k ++ Builtin.zeroCells z.cells (grownCap w (n + k) old e - (n + k))) e)) row := by
    intro old row
    have hge := grownCap_ge w (n + k) old e
    have hcm : grownCap w (n + k) old e ≤ maxLen := grownCap_le_maxLen w (n + k) old e hnk
    refine ⟨⟨by rw [hlen]; omega, .inr ⟨w.heap.size, _, _, rfl, Nat.zero_le _, heap_alloc_new w.drew _, hge, hcm, ?_, ?_⟩⟩, ⟨rfl, rfl, rfl, by simp, fun k hk _ => heap_alloc_old w.drew _ hk⟩⟩
    · have := hown.1
      simp only [Array.size_append, List.size_toArray, size_zeroCells, hzs, Nat.mul_one, List.size_toArray]
      simp
      omega
    · simp only [Array.toList_append, hzc]
      rw [Nat.mul_one, ← hlen]
      exact List.take_left
  rcases hown.2 with ⟨rfl, rfl⟩ | ⟨g, cap, cur, rfl, hbg, hg, hnc, hcm, hcs, htake⟩
  · have hx : xs = [] := List.eq_nil_of_length_eq_zero (by simpa using hown.1)
    subst hx
    rcases Nat.eq_zero_or_pos k with rfl | hk
    · refine ⟨_, w, ?_, by simpa using World.ownsRow_nil w 0 e 1, ⟨rfl, rfl, rfl, Nat.le_refl _, fun _ _ _ => rfl⟩, .inl rfl⟩
      have hw : IntKind.i64.wrap 0 = 0 := by decide
      simp [Builtin.append_, run_underlying ht, run_underlying htn, sizeOf, typeInfo, hi, asInt, asIntOf, hw]
    · have hr := Lib.run_append_nil_zeros (P := P) w t tn ty e i z .i64 .i64 ht htn hi hz k hk (by omega) (by omega) hkb
      obtain ⟨g1, g2⟩ := grown 0 none
      simp only [Nat.zero_add] at g1 g2
      refine ⟨_, _, hr, ?_, ?_, .inr rfl⟩
      · have : (([] : List Value).toArray ++ Builtin.zeroCells z.cells k) = Builtin.zeroCells z.cells k := by simp
        rw [this] at g1
        rw [Nat.zero_add]
        exact g1
      · have : (([] : List Value).toArray ++ Builtin.zeroCells z.cells k) = Builtin.zeroCells z.cells k := by simp
        rw [this] at g2
        exact g2
  · have hw : IntKind.i64.wrap (k : Int) = k := by rw [IntKind.wrap_i64]; omega
    have hcl : cur.toList.length = cap := by rw [Array.length_toList, hcs, Nat.mul_one]
    have hxl : xs.length = n := by rw [hown.1, Nat.mul_one]
    rcases Nat.lt_or_ge cap (n + k) with hlt | hroom
    · have hold : (Builtin.firstCells i.size n (.slice (some ⟨g, 0, none⟩) n cap)).run P w.drew = .ok xs.toArray w.drew := by
        rw [hsize]
        exact run_firstCells_some w.drew 1 n ⟨g, 0, none⟩ n cap xs (by rw [hxl]; omega) (fun j v hj => by
          have := hown.cells (g := g) rfl j v hj
          exact this)
      have hr := Lib.run_append_grow_zeros (P := P) w t tn ty e i z .i64 .i64 ht htn hi hz (some ⟨g, 0, none⟩) n cap xs hold k (by omega) (by omega) hlt (by omega) hkb (growslice_fits hlt hbytes)
      obtain ⟨g1, g2⟩ := grown cap (some g)
      exact ⟨_, _, hr, g1, g2, .inr rfl⟩
    · rcases Nat.eq_zero_or_pos k with rfl | hk
      · refine ⟨.slice (some ⟨g, 0, none⟩) (n + 0) cap, w, ?_, by simpa using hown, ⟨rfl, rfl, rfl, Nat.le_refl _, fun _ _ _ => rfl⟩, .inl rfl⟩
        have hw0 : IntKind.i64.wrap 0 = 0 := by decide
        simp [Builtin.append_, run_underlying ht, run_underlying htn, sizeOf, typeInfo, hi, asInt, asIntOf, hw0, hnc, storeCells]
      · have hst := run_storeCells_at P g n e (List.replicate k z) 0 cur w hg (by rw [List.length_replicate]; have := hcs; omega) (fun v hv => by rw [(List.mem_replicate.1 hv).2]; exact hz1)
        simp only [Nat.add_zero, List.length_replicate] at hst
        have hks : ¬ (k = 0) := by omega
        have hneg : ¬ ((k : Int) < 0) := by omega
        have h48i : ¬ (281474976710656 < (k : Int) * (i.bytes : Int)) := by
          rw [← Int.natCast_mul]
          omega
        have hr : (Builtin.append_ #[t, tn] ty #[.slice (some ⟨g, 0, none⟩) n cap, .int .i64 k]).run P w = .ok (.slice (some ⟨g, 0, none⟩) (n + k) cap) (w.setRow g (cur.toList.take n ++ List.replicate k z ++ cur.toList.drop (n + k)).toArray) := by
          simp [Builtin.append_, run_underlying ht, run_underlying htn, sizeOf, typeInfo, zeroValue, hi, hz, asInt, asIntOf, hw, hneg, h48i, hsize, hks, hroom, Addr.add_lit, hzc, hst]
        refine ⟨_, _, hr, ⟨by rw [hlen]; omega, .inr ⟨g, cap, _, rfl, hbg, setRow_heap w g cur _ e _ hg, hroom, hcm, ?_, ?_⟩⟩, ⟨rfl, rfl, rfl, by simp, fun k hk hn => setRow_other w g k _ (fun e => hn (by simp [e, Value.ownBlock]))⟩, .inl rfl⟩
        · simp only [List.size_toArray, List.length_append, List.length_take, List.length_drop, List.length_replicate, hcl]
          omega
        · rw [Nat.mul_one] at htake ⊢
          show ((cur.toList.take n ++ List.replicate k z) ++ cur.toList.drop (n + k)).take (n + k) = _
          rw [htake, ← hlen]
          exact List.take_left
end
theorem SepF.perm {F : List Nat} {w0 wr : World} {ts us : List Thing} (h : SepF F w0 wr ts) (hp : us.Perm ts) : SepF F w0 wr us :=
  h.conv (List.Perm.flatMap_right _ hp) fun u hu => h.hold u (hp.mem_iff.1 hu)
/-- the third thing in front -/
theorem SepF.front3 {F : List Nat} {w0 wr : World} {ts : List Thing} {a b c : Thing} (h : SepF F w0 wr (a :: b :: c :: ts)) : SepF F w0 wr (c :: a :: b :: ts) :=
  h.perm (List.perm_middle (l₁ := [a, b])).symm
/-- append of zero values, on one of the things -/
theorem SepF.zeros {P : Program} {α : Type} {E : Rep α} {val : α → Value} {F : List Nat} {w0 w : World} {ts : List Thing} {i : Nat} {xs : List α} {v : Value} {fp : List Nat} {z0 : α} (hF : Flat1 E val) (h : SepF F w0 w ts) (t tn ty e : TypeId) (ii : TypeInfo) (z : Value) (bytes : Nat) (hi : ts[i]? = some (tsl E e xs v fp)) (ht : P.underlying t = some (.slice e)) (htn : P.underlying tn = some (.int .i64)) (hin : P.info? e = some ii) (hz : ii.zero = some z) (hsize : ii.size = 1) (hby : ii.bytes = bytes) (hzs : z.cells = #[z]) (hz1 : z.oneCell' = true)
    (hv : val z0 = z) (hz0 : ∀ w, E.own w z0 [z] []) (k : Nat) (hnk : xs.length + k ≤ maxLen) (hbytes : (xs.length + k) * bytes ≤ 140737488355328) :
    ∃ v' w' fp', (Builtin.append_ #[t, tn] ty #[v, .int .i64 k]).run P w = .ok v' w' ∧ SepF F w0 w' (ts.set i (tsl E e (xs ++ List.replicate k z0) v' fp')) := by
  have hs : SlOwn E e w xs v fp := h.at_ i hi
  obtain ⟨ho, hfp, hx⟩ := hF.owns hs
  obtain ⟨v', w', h1, h2, h3, h4⟩ := run_append_own_zeros (P := P) w (ty := ty) t tn e ii z bytes ht htn hin hz hsize hby hzs hz1 v _ _ ho k hnk hbytes
  refine ⟨v', w', v'.ownBlock.toList, h1, h.upd hi ⟨h3.os, h3.tape, h3.output, h3.size, fun b hb hn => h3.block b hb (fun e => hn (by rw [hfp]; show b ∈ v.ownBlock.toList; rw [← e]; simp))⟩ (t' := tsl E e (xs ++ List.replicate k z0) v' v'.ownBlock.toList) ?_ (by simp only [tsl]; cases v'.ownBlock <;> simp) (fun b hb => ?_)⟩
  · refine hF.row ?_ (fun x hm => ?_)
    · rw [List.length_append, List.length_replicate, List.map_append, List.map_replicate, hv]
      exact h2
    · rcases List.mem_append.1 hm with hm | hm
      · exact hx x hm _
      · rw [(List.mem_replicate.1 hm).2, hv]; exact hz0 _
  · simp only [tsl] at hb ⊢
    rw [hfp]
    rcases h4 with h4 | h4
    · rw [h4] at hb; exact .inl hb
    · rw [h4] at hb; simp at hb; exact .inr (by omega)
end Mm
end Go.Proofs.Ytpmeagchkcffoaa
