/-
  Regions that draw their order and whose operations hand back new things (a call that makes a slice, an alloc, an append): one walk in the order of the text serves every order. What an operation gives, and which earlier operation's things it takes, is told ahead by a plan. No program in sight. No conditions.
-/
import Derived.Test.YtaepohocabealaaQt
import Derived.Test.YtaepohocabealaaSx
import Derived.BigQuiet
namespace Go.Proofs.Ytaepohocabealaa
open Go.RowKit
namespace Mm

abbrev Sig := Nat → List Thing
/-- what operation i gives: of its operands' values and the things it takes, a value and things -/
abbrev Rel := List Value → List Thing → Value → List Thing → Prop
def sigUpd (takes : Nat → List Nat) (σ : Sig) (i : Nat) (ds : List Thing) : Sig := fun k => bif k == i then ds else bif (takes i).contains k then [] else σ k

section
variable {P : Program} {ops : Array Oper} {md : Region.Mode} {C : Sig → World → Prop} {D : World → Prop} {rel : Nat → Option Rel} {takes : Nat → List Nat}

def ups (P : Program) (C' : Value → World → Prop) : Result Next → Prop
  | .ok (.value u) w' => C' u w'
  | .ok .skip w' => C' undef w'
  | .ok (.enter f args) w' => Calls P f args w' (fun e w'' => ∃ v, e = .returned v ∧ C' v w'')
  | .ok (.row row args) w' => Rows P row args w' fun v w'' => C' v w''
  | _ => False
def valUpon (w : World) (v : Value) : Result Next → Prop
  | .ok (.value u) w' => w' = w ∧ u = v
  | .ok .skip w' => w' = w ∧ undef = v
  | _ => False
def GDet (P : Program) (D : World → Prop) (o : Oper) (a : Act) (v : Value) : Prop := ∀ w, D w → valUpon w v ((execOp a.eval o).run P w)
def GValid (P : Program) (C : Sig → World → Prop) (takes : Nat → List Nat) (i : Nat) (o : Oper) (a : Act) (σ : Sig) (r : Value → List Thing → Prop) : Prop :=
  ∀ σ' w, C σ' w → (∀ k ∈ takes i, σ' k = σ k) → ups P (fun v w' => ∃ ds, r v ds ∧ C (sigUpd takes σ' i ds) w') ((execOp a.eval o).run P w)
abbrev GRelAt (takes : Nat → List Nat) (r : Rel) (i : Nat) (o : Oper) (a : Act) (σ : Sig) : Value → List Thing → Prop := r (o.op.operands.toList.map a.eval) ((takes i).flatMap σ)

/-- what operation i may bring in state (a, σ): its value, and how the things turn -/
def GStatus (P : Program) (ops : Array Oper) (C : Sig → World → Prop) (D : World → Prop) (rel : Nat → Option Rel) (takes : Nat → List Nat) (i : Nat) (o : Oper) (a : Act) (σ : Sig) (O : Value → (Sig → Sig) → Prop) : Prop :=
  (Region.wanted o (yielded ops a.tmps) = false ∧ O = fun u f => u = undef ∧ f = id) ∨
  (Region.wanted o (yielded ops a.tmps) = true ∧ rel i = none ∧ ∃ v, GDet P D o a v ∧ O = fun u f => u = v ∧ f = id) ∨
  (Region.wanted o (yielded ops a.tmps) = true ∧ ∃ r, rel i = some r ∧ GValid P C takes i o a σ (GRelAt takes r i o a σ) ∧ (∃ v ds, GRelAt takes r i o a σ v ds) ∧ O = fun u f => ∃ ds, GRelAt takes r i o a σ u ds ∧ f = fun s => sigUpd takes s i ds)

def gOp (P : Program) (ops : Array Oper) (C : Sig → World → Prop) (D : World → Prop) (rel : Nat → Option Rel) (takes : Nat → List Nat) (i : Nat) (K : Act → Sig → Prop) (a : Act) (σ : Sig) : Prop :=
  match ops[i]? with
  | none => K a σ
  | some o => ∃ O, GStatus P ops C D rel takes i o a σ O ∧ ∀ v f, O v f → K (a.put o.dst v) (f σ)

theorem gOp_mono {i : Nat} {a : Act} {σ : Sig} {K K' : Act → Sig → Prop} (h : ∀ a s, K a s → K' a s) (hh : gOp P ops C D rel takes i K a σ) : gOp P ops C D rel takes i K' a σ := by
  unfold gOp at *
  split
  · exact h _ _ (by simpa [*] using hh)
  · rename_i o ho
    simp only [ho] at hh
    obtain ⟨O, h1, h2⟩ := hh
    exact ⟨O, h1, fun v f hO => h _ _ (h2 v f hO)⟩

theorem GDet.uniq {o : Oper} {a : Act} {v u : Value} {w : World} (hw : D w) (h : GDet P D o a v) (k : GDet P D o a u) : v = u := by
  have h1 := h w hw
  have h2 := k w hw
  generalize (execOp a.eval o).run P w = r at *
  cases r with
  | ok n w' => cases n <;> simp only [valUpon] at h1 h2 <;> first | exact h1.2.symm.trans h2.2 | exact h1.elim
  | halt x w' => exact h1.elim

theorem GStatus.func {i : Nat} {o : Oper} {a : Act} {σ : Sig} {O O' : Value → (Sig → Sig) → Prop} (hD : ∃ w, D w) (h : GStatus P ops C D rel takes i o a σ O) (k : GStatus P ops C D rel takes i o a σ O') : O = O' := by
  obtain ⟨w, hw⟩ := hD
  rcases h with ⟨h1, h2⟩ | ⟨h1, hr, v, h2, h3⟩ | ⟨h1, r, hr, h2, h3, h4⟩ <;> rcases k with ⟨k1, k2⟩ | ⟨k1, kr, u, k2, k3⟩ | ⟨k1, s, kr, k2, k3, k4⟩
  · rw [h2, k2]
  · rw [h1] at k1; cases k1
  · rw [h1] at k1; cases k1
  · rw [h1] at k1; cases k1
  · rw [h3, k3, GDet.uniq hw h2 k2]
  · rw [hr] at kr; cases kr
  · rw [h1] at k1; cases k1
  · rw [hr] at kr; cases kr
  · rw [hr] at kr; injection kr with kr; subst kr; rw [h4, k4]

theorem GStatus.ex {i : Nat} {o : Oper} {a : Act} {σ : Sig} {O : Value → (Sig → Sig) → Prop} (h : GStatus P ops C D rel takes i o a σ O) : ∃ v f, O v f := by
  rcases h with ⟨_, h2⟩ | ⟨_, _, v, _, h3⟩ | ⟨_, r, _, _, ⟨v, ds, h3⟩, h4⟩
  · exact ⟨undef, id, by rw [h2]; exact ⟨rfl, rfl⟩⟩
  · exact ⟨v, id, by rw [h3]; exact ⟨rfl, rfl⟩⟩
  · exact ⟨v, _, by rw [h4]; exact ⟨ds, h3, rfl⟩⟩

/-- the shape of what turns: nothing, or i's own -/
theorem GStatus.turn {i : Nat} {o : Oper} {a : Act} {σ : Sig} {O : Value → (Sig → Sig) → Prop} (h : GStatus P ops C D rel takes i o a σ O) {v : Value} {f : Sig → Sig} (hO : O v f) : f = id ∨ ∃ ds, f = fun s => sigUpd takes s i ds := by
  rcases h with ⟨_, h2⟩ | ⟨_, _, _, _, h3⟩ | ⟨_, r, _, _, _, h4⟩
  · rw [h2] at hO; exact .inl hO.2
  · rw [h3] at hO; exact .inl hO.2
  · rw [h4] at hO; obtain ⟨ds, _, h⟩ := hO; exact .inr ⟨ds, h⟩

def Indep (takes : Nat → List Nat) (i j : Nat) : Prop := i ≠ j ∧ i ∉ takes j ∧ j ∉ takes i ∧ ∀ k, k ∈ takes i → k ∉ takes j
theorem Indep.symm {i j : Nat} (h : Indep takes i j) : Indep takes j i := ⟨Ne.symm h.1, h.2.2.1, h.2.1, fun k hk hi => h.2.2.2 k hi hk⟩

theorem sigUpd_far {σ : Sig} {i j : Nat} {ds : List Thing} (h : Indep takes i j) {k : Nat} (hk : k ∈ takes j) : sigUpd takes σ i ds k = σ k := by
  unfold sigUpd
  have h1 : (k == i) = false := by rw [beq_eq_false_iff_ne]; rintro rfl; exact h.2.1 hk
  have h2 : (takes i).contains k = false := by
    cases hc : (takes i).contains k
    · rfl
    · exact absurd hk (h.2.2.2 k (by simpa using hc))
  rw [h1, h2]; rfl
theorem sigUpd_comm {σ : Sig} {i j : Nat} {ds es : List Thing} (h : Indep takes i j) : sigUpd takes (sigUpd takes σ i ds) j es = sigUpd takes (sigUpd takes σ j es) i ds := by
  funext k
  unfold sigUpd
  by_cases hi : k = i
  · subst hi
    have h1 : (k == j) = false := by rw [beq_eq_false_iff_ne]; exact h.1
    have h2 : (takes j).contains k = false := by
      cases hc : (takes j).contains k
      · rfl
      · exact absurd (by simpa using hc) h.2.1
    rw [h1, h2]; simp
  · have hi' : (k == i) = false := by rw [beq_eq_false_iff_ne]; exact hi
    rw [hi']
    by_cases hj : k = j
    · subst hj
      have h2 : (takes i).contains k = false := by
        cases hc : (takes i).contains k
        · rfl
        · exact absurd (by simpa using hc) h.2.2.1
      rw [h2]; simp
    · have hj' : (k == j) = false := by rw [beq_eq_false_iff_ne]; exact hj
      rw [hj']
      cases (takes i).contains k <;> cases (takes j).contains k <;> rfl

theorem map_eval_put {o oj : Oper} {a : Act} {v : Value} (h : ∀ d, oj.dst = some d → d ∉ o.looksAt ops) : o.op.operands.toList.map (a.put oj.dst v).eval = o.op.operands.toList.map a.eval := by
  refine List.map_congr_left fun x hx => Act.eval_put fun d hd hxd => h d hd ?_
  subst hxd
  exact List.mem_append_left _ (List.mem_filterMap.2 ⟨.tmp d, hx, rfl⟩)

theorem GStatus.keep {i : Nat} {o oj : Oper} {a : Act} {σ σ' : Sig} {O : Value → (Sig → Sig) → Prop} (h : GStatus P ops C D rel takes i o a σ O) (hs : ∀ cs b, o.op ≠ .select cs b) (hl : ∀ d, oj.dst = some d → d ∉ o.looksAt ops) (u : Value)
    (hσ : ∀ k, k ∈ takes i → σ' k = σ k) : GStatus P ops C D rel takes i o (a.put oj.dst u) σ' O := by
  have e1 := execOp_put o hs a oj.dst u hl
  have e2 := wanted_put o a oj.dst u hl
  have e3 := map_eval_put (a := a) (v := u) hl
  have e4 : (takes i).flatMap σ' = (takes i).flatMap σ := by
    rw [List.flatMap_def, List.flatMap_def]; exact congrArg List.flatten (List.map_congr_left hσ)
  have e5 : ∀ r : Rel, GRelAt takes r i o (a.put oj.dst u) σ' = GRelAt takes r i o a σ := fun r => by unfold GRelAt; rw [e3, e4]
  rcases h with ⟨h1, h2⟩ | ⟨h1, hr, v, h2, h3⟩ | ⟨h1, r, hr, h2, h3, h4⟩
  · exact .inl ⟨by rw [e2]; exact h1, h2⟩
  · refine .inr (.inl ⟨by rw [e2]; exact h1, hr, v, ?_, h3⟩)
    unfold GDet at *
    rw [e1]; exact h2
  · refine .inr (.inr ⟨by rw [e2]; exact h1, r, hr, ?_, ?_, ?_⟩)
    · unfold GValid at *
      rw [e1, e5]
      exact fun s w hc hk => h2 s w hc (fun k hk' => (hk k hk').trans (hσ k hk'))
    · rw [e5]; exact h3
    · rw [e5]; exact h4

/-- operations i and j do not meet: what j does ahead of i, it does behind it -/
theorem gOp_put {i j : Nat} {oi oj : Oper} {O : Value → (Sig → Sig) → Prop} (hD : ∃ w, D w) (hj : ops[j]? = some oj) (hap : oi.apart ops oj = true) (hin : Indep takes i j)
    (hsi : ∀ cs b, oi.op ≠ .select cs b) (hsj : ∀ cs b, oj.op ≠ .select cs b) {K : Act → Sig → Prop} {a : Act} {σ : Sig}
    (hy : GStatus P ops C D rel takes i oi a σ O) (h : ∀ v f, O v f → gOp P ops C D rel takes j K (a.put oi.dst v) (f σ)) :
    gOp P ops C D rel takes j (fun a' s => GStatus P ops C D rel takes i oi a' s O ∧ ∀ v f, O v f → K (a'.put oi.dst v) (f s)) a σ := by
  obtain ⟨h1, h2, h3⟩ := Oper.apart_spec hap
  -- j's status in the state ahead of i
  have back : ∀ v f, O v f → ∃ O', GStatus P ops C D rel takes j oj a σ O' ∧ ∀ u g, O' u g → K ((a.put oi.dst v).put oj.dst u) (g (f σ)) := fun v f hO => by
    have := h v f hO
    unfold gOp at this
    simp only [hj] at this
    obtain ⟨O', k1, k2⟩ := this
    refine ⟨O', ?_, k2⟩
    have e1 := execOp_put oj hsj a oi.dst v h1
    have e2 := wanted_put oj a oi.dst v h1
    have e3 := map_eval_put (a := a) (v := v) h1
    have hσ : ∀ k, k ∈ takes j → f σ k = σ k := fun k hk => by
      rcases hy.turn hO with rfl | ⟨ds, rfl⟩
      · rfl
      · exact sigUpd_far hin hk
    have e4 : (takes j).flatMap (f σ) = (takes j).flatMap σ := by
      rw [List.flatMap_def, List.flatMap_def]; exact congrArg List.flatten (List.map_congr_left hσ)
    have e5 : ∀ r : Rel, GRelAt takes r j oj (a.put oi.dst v) (f σ) = GRelAt takes r j oj a σ := fun r => by unfold GRelAt; rw [e3, e4]
    rcases k1 with ⟨q1, q2⟩ | ⟨q1, hr, x, q2, q3⟩ | ⟨q1, r, hr, q2, q3, q4⟩
    · exact .inl ⟨by rw [← e2]; exact q1, q2⟩
    · refine .inr (.inl ⟨by rw [← e2]; exact q1, hr, x, ?_, q3⟩)
      unfold GDet at *
      rw [← e1]; exact q2
    · refine .inr (.inr ⟨by rw [← e2]; exact q1, r, hr, ?_, ?_, ?_⟩)
      · unfold GValid at *
        rw [← e5, ← e1]
        exact fun s w hc hk => q2 s w hc (fun k hk' => (hk k hk').trans (hσ k hk').symm)
      · rw [← e5]; exact q3
      · rw [← e5]; exact q4
  obtain ⟨v0, f0, hO0⟩ := hy.ex
  obtain ⟨O', k1, _⟩ := back v0 f0 hO0
  unfold gOp
  simp only [hj]
  refine ⟨O', k1, fun u g hg => ⟨hy.keep hsi h3 u (fun k hk => ?_), fun v f hO => ?_⟩⟩
  · rcases k1.turn hg with rfl | ⟨ds, rfl⟩
    · rfl
    · exact sigUpd_far hin.symm hk
  · obtain ⟨O2, m1, m2⟩ := back v f hO
    rw [k1.func hD m1] at hg
    have := m2 u g hg
    rw [Act.put_comm a v u h2] at this
    have e : g (f σ) = f (g σ) := by
      rcases hy.turn hO with rfl | ⟨ds, rfl⟩
      · rfl
      · rcases m1.turn hg with rfl | ⟨es, rfl⟩
        · rfl
        · exact sigUpd_comm hin
    rw [e] at this
    exact this

theorem gOp_of {i : Nat} {oi : Oper} {a : Act} {σ : Sig} {O : Value → (Sig → Sig) → Prop} {K : Act → Sig → Prop} (hi : ops[i]? = some oi) (hy : GStatus P ops C D rel takes i oi a σ O) (h : ∀ v f, O v f → K (a.put oi.dst v) (f σ)) : gOp P ops C D rel takes i K a σ := by
  unfold gOp
  simp only [hi]
  exact ⟨O, hy, h⟩

theorem wpOp_of_gOp (hCD : ∀ σ w, C σ w → D w) {i : Nat} {a : Act} {σ : Sig} {K : Act → Sig → Prop} {K' : Act → World → Prop} {Q' : Exit → Act → World → Prop} {w : World} (hC : C σ w) (h : ∀ a s w', C s w' → K a s → K' a w') (hh : gOp P ops C D rel takes i K a σ) : wpOp P ops Q' i K' a w := by
  unfold gOp at hh
  unfold wpOp
  split
  · rename_i ho; simp only [ho] at hh; exact h _ _ _ hC hh
  · rename_i o ho
    simp only [ho] at hh
    obtain ⟨O, k1, k2⟩ := hh
    rcases k1 with ⟨h1, h2⟩ | ⟨h1, _, v, h2, h3⟩ | ⟨h1, r, _, h2, _, h4⟩
    · rw [h1]
      simp only [Bool.false_eq_true, if_false]
      exact h _ _ _ hC (k2 undef id (by rw [h2]; exact ⟨rfl, rfl⟩))
    · rw [h1]
      simp only [if_true]
      refine .inl ?_
      have h5 := h2 w (hCD _ _ hC)
      have h6 : K (a.put o.dst v) σ := k2 v id (by rw [h3]; exact ⟨rfl, rfl⟩)
      unfold Oper.wp
      generalize (execOp a.eval o).run P w = R at *
      cases R with
      | ok n w' =>
        cases n <;> simp only [valUpon] at h5 <;> simp only [Oper.upon]
        · obtain ⟨rfl, rfl⟩ := h5; exact h _ _ _ hC h6
        · obtain ⟨rfl, rfl⟩ := h5; exact h _ _ _ hC h6
      | halt x w' => exact h5.elim
    · rw [h1]
      simp only [if_true]
      refine .inl ?_
      have h5 := h2 σ w hC (fun _ _ => rfl)
      have h6 : ∀ v ds, GRelAt takes r i o a σ v ds → K (a.put o.dst v) (sigUpd takes σ i ds) := fun v ds hd => k2 v (fun s => sigUpd takes s i ds) (by rw [h4]; exact ⟨ds, hd, rfl⟩)
      unfold Oper.wp
      generalize (execOp a.eval o).run P w = R at *
      cases R with
      | ok n w' =>
        cases n <;> simp only [ups] at h5 <;> simp only [Oper.upon]
        · obtain ⟨ds, h7, h8⟩ := h5; exact h _ _ _ h8 (h6 _ _ h7)
        · obtain ⟨ds, h7, h8⟩ := h5; exact h _ _ _ h8 (h6 _ _ h7)
        · exact h5.mono fun e w'' ⟨v, he, ds, h7, h8⟩ => by subst he; exact h _ _ _ h8 (h6 _ _ h7)
        · exact Rows.mono h5 fun v w'' ⟨ds, h7, h8⟩ => h _ _ _ h8 (h6 _ _ h7)
      | halt x w' => exact h5.elim

/-- the walk in the order of the text -/
def wpGive (P : Program) (ops : Array Oper) (C : Sig → World → Prop) (D : World → Prop) (rel : Nat → Option Rel) (takes : Nat → List Nat) (Q : Act → Sig → Prop) : Nat → List Oper → Act → Sig → Prop
  | _, [], a, σ => Q a σ
  | i, o :: rest, a, σ => ∃ O, GStatus P ops C D rel takes i o a σ O ∧ ∀ v f, O v f → wpGive P ops C D rel takes Q (i + 1) rest (a.put o.dst v) (f σ)

/-- for so many rounds, whatever comes up -/
def headG (P : Program) (md : Region.Mode) (ops : Array Oper) (C : Sig → World → Prop) (D : World → Prop) (rel : Nat → Option Rel) (takes : Nat → List Nat) (n : Nat) (L : Array Bool → Act → Sig → Prop) : Nat → Array Bool → Act → Sig → Prop
  | 0, listed, a, σ => L listed a σ
  | f + 1, listed, a, σ => Region.ready md ops listed ≠ [] ∧ ∀ i ∈ Region.ready md ops listed, i < n ∧ gOp P ops C D rel takes i (headG P md ops C D rel takes n L f (listed.setIfInBounds i true)) a σ

theorem headG_any (hCD : ∀ σ w, C σ w → D w) {n g : Nat} {L : Array Bool → Act → Sig → Prop} {Q : Exit → Act → World → Prop} (hL : ∀ listed a s w, C s w → L listed a s → wpAny P md ops Q g listed a w) :
    ∀ (f : Nat) (listed : Array Bool) (a : Act) (s : Sig) (w : World), C s w → headG P md ops C D rel takes n L f listed a s → wpAny P md ops Q (f + g) listed a w
  | 0, listed, a, s, w, hw, h => by rw [Nat.zero_add]; exact hL _ _ _ _ hw h
  | f + 1, listed, a, s, w, hw, h => by
    rw [show f + 1 + g = (f + g) + 1 by omega]
    exact ⟨fun h0 => absurd h0 h.1, fun i hi => wpOp_of_gOp hCD hw (fun a' s' w' hw' h' => headG_any hCD hL f _ a' s' w' hw' h') (h.2 i hi).2⟩

theorem headG_first (hD : ∃ w, D w) {n i : Nat} {oi : Oper} {O : Value → (Sig → Sig) → Prop} {L : Array Bool → Act → Sig → Prop} (hi : ops[i]? = some oi) (hsel : ∀ (j : Nat) (o : Oper) cs b, ops[j]? = some o → o.op ≠ .select cs b)
    (hw : ∀ listed, HeadInv md ops n listed → listed.getD i true = false → ∀ j ∈ Region.ready md ops listed, j < n) (hin : i < n) (hdone : ∀ listed a s, L listed a s → ∀ j ∈ Region.ready md ops listed, n ≤ j) :
    ∀ (f : Nat) (listed : Array Bool) (a : Act) (σ : Sig), HeadInv md ops n listed →
      (∀ j oj, ops[j]? = some oj → j ≠ i → listed.getD j true = false → (∀ e ∈ oj.after, Region.binds md e = true → e.on ≠ i) → oi.apart ops oj = true ∧ Indep takes i j) →
      i ∈ Region.ready md ops listed → GStatus P ops C D rel takes i oi a σ O → (∀ v f', O v f' → headG P md ops C D rel takes n L f (listed.setIfInBounds i true) (a.put oi.dst v) (f' σ)) → headG P md ops C D rel takes n L (f + 1) listed a σ := by
  intro f
  induction f with
  | zero =>
    intro listed a σ inv _ hr hy H
    have hun := (mem_ready.1 hr).1
    obtain ⟨v0, f0, hO0⟩ := hy.ex
    refine ⟨List.ne_nil_of_mem hr, fun j hj => ?_⟩
    have hjn : j < n := hw _ inv hun j hj
    refine ⟨hjn, ?_⟩
    by_cases hji : j = i
    · subst hji; exact gOp_of hi hy H
    · exact absurd (hdone _ _ _ (H v0 f0 hO0) j (ready_mono hj hji)) (by omega)
  | succ f ih =>
    intro listed a σ inv hfree hr hy H
    have hun := (mem_ready.1 hr).1
    refine ⟨List.ne_nil_of_mem hr, fun j hj => ?_⟩
    have hjn : j < n := hw _ inv hun j hj
    refine ⟨hjn, ?_⟩
    by_cases hji : j = i
    · subst hji; exact gOp_of hi hy H
    · obtain ⟨hjun, oj, hoj, hall⟩ := mem_ready.1 hj
      have hnot : ∀ e ∈ oj.after, Region.binds md e = true → e.on ≠ i := fun e he hb heq => by
        have h1 := hall e he hb
        rw [heq, getD_both hun] at h1
        cases h1
      have hfj := hfree j oj hoj hji hjun hnot
      have h2 := gOp_put hD hoj hfj.1 hfj.2 (fun cs b => hsel i oi cs b hi) (fun cs b => hsel j oj cs b hoj) hy (fun v f' hO => ((H v f' hO).2 j (ready_mono hj hji)).2)
      refine gOp_mono (fun a' s' h3 => ih (listed.setIfInBounds j true) a' s' (inv.set hj hjn) (fun k ok hk hki hku hno => hfree k ok hk hki ?_ hno) (ready_mono hr (Ne.symm hji)) h3.1 (fun v f' hO => by rw [Array.setIfInBounds_comm _ _ hji]; exact h3.2 v f' hO)) h2
      by_cases hjk : j = k
      · subst hjk; exact hjun
      · rwa [getD_set_ne true hjk] at hku

/-- the plan's own check: who comes later than k and does not wait for it, does not meet it -/
def planB (takes : Nat → List Nat) (ops : Array Oper) (md : Region.Mode) : Bool :=
  (List.range ops.size).all fun k => (List.range ops.size).all fun j => Nat.ble j k || (match ops[j]? with | some oj => oj.after.any (fun e => Region.binds md e && e.on == k) | none => true) ||
    (!(takes j).contains k && !(takes k).contains j && (takes k).all fun x => !(takes j).contains x)
theorem planB_spec (h : planB takes ops md = true) {k j : Nat} {oj : Oper} (hj : ops[j]? = some oj) (hkj : k < j) (hno : ∀ e ∈ oj.after, Region.binds md e = true → e.on ≠ k) : Indep takes k j := by
  unfold planB at h
  simp only [List.all_eq_true, List.mem_range] at h
  have hjs := (Array.getElem?_eq_some_iff.1 hj).1
  have h1 := h k (by omega) j hjs
  simp only [hj, Bool.or_eq_true] at h1
  rcases h1 with (h1 | h1) | h1
  · have := Nat.le_of_ble_eq_true h1; omega
  · obtain ⟨x, hx, h2⟩ := Array.any_eq_true.1 h1
    simp only [Bool.and_eq_true, beq_iff_eq] at h2
    exact absurd h2.2 (hno _ (Array.getElem_mem hx) h2.1)
  · simp only [Bool.and_eq_true, Bool.not_eq_true', List.all_eq_true] at h1
    refine ⟨by omega, fun hk => ?_, fun hk => ?_, fun x hx hx' => ?_⟩
    · have := h1.1.1; simp [hk] at this
    · have := h1.1.2; simp [hk] at this
    · have := h1.2 x hx; simp [hx'] at this

theorem headG_lex (hD : ∃ w, D w) {n g : Nat} {Lq : Act → Sig → Prop} (hsel : Region.noSelect ops = true) (hw : ∀ i, i < n → ∀ listed, HeadInv md ops n listed → listed.getD i true = false → ∀ j ∈ Region.ready md ops listed, j < n)
    (hpl : planB takes ops md = true) :
    ∀ (l : List Oper) (k : Nat) (listed : Array Bool) (a : Act) (σ : Sig), (∀ j, j < l.length → l[j]? = ops[k + j]?) → k + l.length = n → HeadInv md ops n listed → (∀ j, j < k → listed.getD j true = true) →
    Region.lexHead md ops g l.length k listed = true → wpGive P ops C D rel takes Lq k l a σ → headG P md ops C D rel takes n (fun listed' a' s' => Region.seqB md ops g n listed' = true ∧ Lq a' s') l.length listed a σ
  | [], k, listed, a, σ, _, hk, _, _, hB, h => by
    have : k = n := by simpa using hk
    subst this
    exact ⟨by simpa [Region.lexHead] using hB, h⟩
  | o :: l, k, listed, a, σ, hl, hk, inv, hlo, hB, h => by
    have h0 : ops[k]? = some o := by simpa using (hl 0 (by simp)).symm
    simp only [List.length_cons, Region.lexHead, Bool.and_eq_true] at hB
    obtain ⟨⟨hr, hf⟩, hB'⟩ := hB
    simp only [List.length_cons] at hk
    have hr' : k ∈ Region.ready md ops listed := by simpa using hr
    obtain ⟨O, hy, hK⟩ := h
    refine headG_first hD h0 (Region.noSelect_spec hsel) (hw k (by omega)) (by omega) (fun listed' a' s' hL => seqB_ready hL.1) l.length listed a σ inv (fun j oj hj hjk hun hno => ⟨Region.free_spec h0 hf j oj hj hjk hun hno, planB_spec hpl hj ?_ hno⟩) hr' hy (fun v f hO =>
      headG_lex hD hsel hw hpl l (k + 1) _ _ _ (fun j hj => by have := hl (j + 1) (by simp; omega); simpa [Nat.add_assoc, Nat.add_comm 1 j] using this) (by omega) (inv.set hr' (by omega)) (fun j hj => ?_) hB' (hK v f hO))
    · rcases Nat.lt_or_ge k j with h | h
      · exact h
      · have := hlo j (by omega)
        rw [hun] at this; cases this
    · by_cases hjk : k = j
      · subst hjk
        have hs : k < listed.size := by rw [inv.size]; exact (Array.getElem?_eq_some_iff.1 h0).1
        simp [hs]
      · rw [getD_set_ne true hjk]; exact hlo j (by omega)
end

section
variable {P : Program} {F : List Nat} {rel : Nat → Option Rel} {takes : Nat → List Nat}
/-- the things of all operations (the number N: the things that were there) -/
def sigAll (N : Nat) (σ : Sig) : List Thing := (List.range (N + 1)).flatMap σ
def GC (F : List Nat) (w : World) (N : Nat) (σ : Sig) (X : World) : Prop := SepF F w X (sigAll N σ)

theorem wp_region_give {id : Nat} {Q : Exit → Act → World → Prop} {a : Act} {w : World} {l : List Oper} (n : Nat) (rel : Nat → Option Rel) (takes : Nat → List Nat) {D : World → Prop} (σ : Sig) (hCD : ∀ X us, SepF F w X us → D X)
    (hm : P.follows .mixedOrders = true) (hB : Region.lexTailB .any l.toArray n = true) (hP : planB takes l.toArray .any = true) (hS : SepF F w w.drew (sigAll l.length σ))
    (h : wpGive P l.toArray (GC F w l.length) D rel takes (fun a' σ' => ∀ X, SepF F w X (sigAll l.length σ') → wpList P l.toArray Q (l.drop n) a' X) 0 (l.take n) a σ) : (Code.region id l.toArray true).wp P Q a w := by
  simp only [Region.lexTailB, Bool.and_eq_true, decide_eq_true_eq] at hB
  obtain ⟨⟨⟨⟨hsel, hn⟩, hs⟩, hc⟩, hlex⟩ := hB
  have hn' : n < l.length := by simpa using hn
  have htl : (l.take n).length = n := by simp; omega
  have hdl : (l.drop n).length = l.toArray.size - n := by simp
  have inv0 : HeadInv .any l.toArray n (Array.replicate l.toArray.size false) :=
    ⟨by simp, fun j oj _ hl => (by rw [getD_replicate_false] at hl; cases hl), fun t _ ht => getD_in (by simpa using ht) (getD_replicate_false _ _)⟩
  have hD : ∃ w, D w := ⟨_, hCD _ _ hS⟩
  have H := headG_lex (md := .any) (g := l.toArray.size - n) hD hsel (fun i hi listed inv hun j hj => Nat.lt_of_not_le fun h => tail_waits hs hc hn inv _ i rfl hi hun j h hj) hP (l.take n) 0 _ a σ (fun j hj => by
    have hj' : j < n := by rw [htl] at hj; exact hj
    simp [hj']) (by simpa using htl) inv0 (fun j hj => by omega) (by rw [htl]; exact hlex) h
  refine wp_region_any hm ?_
  have := headG_any (Q := Q) (C := GC F w l.length) (D := D) (g := l.toArray.size - n) (fun s X hX => hCD X _ hX) (fun listed a' s' w' hw' hL => by
    have := wpAny_of_seq (md := .any) (Q' := Q) (l.drop n) n listed a' w' (fun j => by simp [List.getElem?_drop]) (by rw [hdl]; exact hL.1) (hL.2 w' hw')
    rwa [hdl] at this) _ _ _ _ _ hS H
  rw [htl, show n + (l.toArray.size - n) = l.toArray.size by omega] at this
  exact this

theorem lexHead_of_from (md : Region.Mode) (ops : Array Oper) : ∀ (fuel k : Nat) (listed : Array Bool), Region.lexFrom md ops fuel k listed = true → Region.lexHead md ops 0 fuel k listed = true
  | 0, k, listed, h => by simpa [Region.lexHead, Region.lexFrom, Region.seqB] using h
  | f + 1, k, listed, h => by
    simp only [Region.lexFrom, Region.lexHead, Bool.and_eq_true] at h ⊢
    exact ⟨h.1, lexHead_of_from md ops f _ _ h.2⟩
/-- the same, all of the region in the walk -/
theorem wp_region_give_all {id : Nat} {Q : Exit → Act → World → Prop} {a : Act} {w : World} {l : List Oper} (rel : Nat → Option Rel) (takes : Nat → List Nat) {D : World → Prop} (σ : Sig) (hCD : ∀ X us, SepF F w X us → D X)
    (hm : P.follows .mixedOrders = true) (hB : Region.lexB .any l.toArray = true) (hP : planB takes l.toArray .any = true) (hS : SepF F w w.drew (sigAll l.length σ))
    (h : wpGive P l.toArray (GC F w l.length) D rel takes (fun a' σ' => ∀ X, SepF F w X (sigAll l.length σ') → Q .normal a' X) 0 l a σ) : (Code.region id l.toArray true).wp P Q a w := by
  simp only [Region.lexB, Bool.and_eq_true] at hB
  have inv0 : HeadInv .any l.toArray l.length (Array.replicate l.toArray.size false) :=
    ⟨by simp, fun j oj _ hl => (by rw [getD_replicate_false] at hl; cases hl), fun t h1 ht => by simp at ht; omega⟩
  have hD : ∃ w, D w := ⟨_, hCD _ _ hS⟩
  have H := headG_lex (md := .any) (n := l.length) (g := 0) (Lq := fun a' σ' => ∀ X, SepF F w X (sigAll l.length σ') → Q .normal a' X) hD hB.1 (fun i hi listed inv hun j hj => by
    obtain ⟨_, o, ho, _⟩ := mem_ready.1 hj
    simpa using (Array.getElem?_eq_some_iff.1 ho).1) hP l 0 _ a σ (fun j hj => by simp) (by simp) inv0 (fun j hj => by omega) (lexHead_of_from _ _ _ _ _ (by simpa using hB.2)) h
  refine wp_region_any hm ?_
  have := headG_any (Q := Q) (C := GC F w l.length) (D := D) (g := 0) (fun s X hX => hCD X _ hX) (fun listed a' s' w' hw' hL => ⟨by simpa [Region.seqB] using hL.1, hL.2 w' hw'⟩) _ _ _ _ _ hS H
  simpa using this

/-- nothing that was there has turned -/
theorem sep_und {w X : World} {us : List Thing} (h : SepF [] w X us) : ∃ x : Und w, X = und w x := ⟨⟨X, h.bel0⟩, rfl⟩
end

section
variable {P : Program} {ops : Array Oper} {C : Sig → World → Prop} {D : World → Prop} {rel : Nat → Option Rel} {takes : Nat → List Nat} {Q : Act → Sig → Prop} {i : Nat} {o : Oper} {rest : List Oper} {a : Act} {σ : Sig}
theorem give_nil (h : Q a σ) : wpGive P ops C D rel takes Q i [] a σ := h
theorem give_skip (hw : Region.wanted o (yielded ops a.tmps) = false) (h : wpGive P ops C D rel takes Q (i + 1) rest (a.put o.dst undef) σ) : wpGive P ops C D rel takes Q i (o :: rest) a σ :=
  ⟨_, .inl ⟨hw, rfl⟩, fun v f ⟨h1, h2⟩ => by subst h1; subst h2; exact h⟩
def Op.enters : Op → Bool
  | .move _ | .assign _ | .pick .. | .nilCheck .. | .load .. | .fieldAddr .. | .field .. | .indexAddr .. | .index .. | .build .. | .binOp .. | .unOp .. | .convert .. | .slice .. | .extract .. => false
  | .call c => match c.callee with
    | .builtin .len | .builtin .cap | .builtin .max | .builtin .min => false
    | _ => true
  | _ => true
theorem noE {s : Sem Value} {P : Program} {w w' : World} {f : FuncId} {args : Array Value} : (do pure (Next.value (← s)) : Sem Next).run P w ≠ .ok (.enter f args) w' := by
  intro e
  simp only [Sem.run_bind, Sem.run_pure] at e
  cases h : s.run P w <;> rw [h] at e <;> simp [Result.andThen] at e
theorem noP {P : Program} {w w' : World} {n : Next} : (runtimePanic .nilDeref : Sem Next).run P w ≠ .ok n w' := by
  simp [runtimePanic, go_sem]
theorem no_enter {o : Oper} (h : Op.enters o.op = false) (ρ : Operand → Value) (P : Program) (w w' : World) (f : FuncId) (args : Array Value) : (execOp ρ o).run P w ≠ .ok (.enter f args) w' := by
  unfold execOp
  cases ho : o.op <;> rw [ho] at h <;> simp only [Op.enters, reduceCtorEq] at h <;> try exact noE
  · simp
  · simp
  · intro e
    simp only [Sem.run_bind, Sem.run_pure] at e
    revert e
    generalize (asBool _).run P w = r
    cases r <;> simp [Result.andThen]
  · rename_i x
    dsimp only
    split
    · exact noP
    · exact noP
    · exact noP
    · split
      · exact noP
      · intro e
        simp only [Sem.run_bind, Sem.run_pure] at e
        generalize Sem.run P program w = r1 at e
        cases r1 with
        | halt h1 w1 => simp [Result.andThen] at e
        | ok a1 w1 =>
          simp only [Result.andThen_ok] at e
          generalize Sem.run P _ w1 = r2 at e
          cases r2 with
          | halt h1 w2 => simp [Result.andThen] at e
          | ok a2 w2 =>
            simp only [Result.andThen_ok] at e
            split at e
            · simp only [Sem.run_bind, Sem.run_pure] at e
              generalize Sem.run P (unsupported _) w2 = r3 at e
              cases r3 <;> simp [Result.andThen] at e
            · simp at e
      · simp
    · simp
  · rename_i c
    cases hc : c.callee <;> rw [hc] at h <;> try cases h
    rename_i b
    cases b <;> (try cases h) <;> (simp only [resolve, hc, invoke, builtin, Sem.run_bind, Sem.run_pure, Result.andThen_ok]; intro e; revert e; generalize Sem.run P _ w = r; cases r <;> simp [Result.andThen])
theorem det_of_quiet {v : Value} (h : Op.enters o.op = false) (hq : ∀ w, D w → o.quietAt P a D w v) : GDet P D o a v := fun w hw => by
  have h1 := hq w hw
  unfold Oper.quietAt at h1
  have h2 := no_enter h a.eval P w
  generalize (execOp a.eval o).run P w = R at *
  cases R with
  | ok n w' =>
    cases n <;> simp only [Oper.quietUpon] at h1
    · exact h1
    · exact ⟨h1.1, h1.2.symm⟩
    · exact absurd rfl (h2 _ _ _)
  | halt x w' => exact h1.elim
theorem give_det (hw : Region.wanted o (yielded ops a.tmps) = true) (hr : rel i = none) (hc : Op.enters o.op = false) (h : ∀ K : Act → Prop, (∀ a, wpGive P ops C D rel takes Q (i + 1) rest a σ → K a) → o.quiet P a D K) : wpGive P ops C D rel takes Q i (o :: rest) a σ := by
  obtain ⟨v, h1, h2⟩ := h _ fun _ h => h
  exact ⟨_, .inr (.inl ⟨hw, hr, v, det_of_quiet hc h1, rfl⟩), fun u f ⟨h3, h4⟩ => by subst h3; subst h4; exact h2⟩
theorem give_rel {r : Rel} (hw : Region.wanted o (yielded ops a.tmps) = true) (hr : rel i = some r) (hv : GValid P C takes i o a σ (GRelAt takes r i o a σ)) (hin : ∃ v ds, GRelAt takes r i o a σ v ds)
    (h : ∀ v ds, GRelAt takes r i o a σ v ds → wpGive P ops C D rel takes Q (i + 1) rest (a.put o.dst v) (sigUpd takes σ i ds)) : wpGive P ops C D rel takes Q i (o :: rest) a σ :=
  ⟨_, .inr (.inr ⟨hw, r, hr, hv, hin, rfl⟩), fun v f ⟨ds, h3, h4⟩ => by subst h4; exact h v ds h3⟩
end

/-- what one operation that gives must bring: its value in slot d, and the things, in the place of those that it takes -/
def GvQ (F : List Nat) (w : World) (r : Value → List Thing → Prop) (d : Nat) (df : List Deferred) (rest : List Thing) (x : Exit) (a' : Act) (w' : World) : Prop :=
  x = .normal ∧ a'.defers = df ∧ ∃ ds, r (a'.tmps.getD d undef) ds ∧ SepF F w w' (ds ++ rest)

theorem flatMap_filter_not {β : Type} (p : β → Bool) (f : β → List Thing) : ∀ l : List β, l.flatMap (fun k => bif p k then [] else f k) = (l.filter fun k => !p k).flatMap f
  | [] => rfl
  | x :: l => by
    rw [List.flatMap_cons, flatMap_filter_not p f l, List.filter_cons]
    cases p x <;> simp
theorem flatMap_subN {l m : List Thing} (h : l.Sublist m) : (l.flatMap (·.fp)).Sublist (m.flatMap (·.fp)) := by
  induction h with
  | slnil => exact List.Sublist.refl _
  | cons x h ih => rw [List.flatMap_cons]; exact ih.trans (List.sublist_append_right _ _)
  | cons_cons x h ih => rw [List.flatMap_cons, List.flatMap_cons]; exact List.Sublist.append_left ih _
theorem flatMap_sub {β : Type} (f : β → List Thing) {l m : List β} (h : l.Sublist m) : (l.flatMap f).Sublist (m.flatMap f) := by
  induction h with
  | slnil => exact List.Sublist.refl _
  | cons x h ih => rw [List.flatMap_cons]; exact ih.trans (List.sublist_append_right _ _)
  | cons_cons x h ih => rw [List.flatMap_cons, List.flatMap_cons]; exact List.Sublist.append_left ih _
section
variable {takes : Nat → List Nat} {σ : Sig} {i N : Nat} {ds : List Thing}
theorem sigAll_upd (hi : i ≤ N) : (sigAll N (sigUpd takes σ i ds)).Perm (ds ++ sigAll N (sigUpd takes σ i [])) := by
  unfold sigAll
  have hnd : (List.range (N + 1)).Nodup := List.nodup_range
  have hm : i ∈ List.range (N + 1) := by rw [List.mem_range]; omega
  obtain ⟨s, t, hst⟩ := List.append_of_mem hm
  rw [hst] at hnd ⊢
  have hs : i ∉ s := fun h => (List.nodup_append.1 hnd).2.2 i h i (by simp) rfl
  have ht : i ∉ t := by
    have := (List.nodup_append.1 hnd).2.1
    rw [List.nodup_cons] at this
    exact this.1
  have e : ∀ l : List Nat, i ∉ l → l.flatMap (sigUpd takes σ i ds) = l.flatMap (sigUpd takes σ i []) := fun l hl => by
    rw [List.flatMap_def, List.flatMap_def]
    refine congrArg List.flatten (List.map_congr_left fun k hk => ?_)
    have : (k == i) = false := by rw [beq_eq_false_iff_ne]; rintro rfl; exact hl hk
    unfold sigUpd
    rw [this]; rfl
  have ei : ∀ es, sigUpd takes σ i es i = es := fun es => by unfold sigUpd; simp
  rw [List.flatMap_append, List.flatMap_cons, List.flatMap_append, List.flatMap_cons, e s hs, e t ht, ei, ei, List.nil_append]
  exact List.perm_append_comm_assoc _ _ _
theorem sigAll_take (hn : (takes i).Nodup) (hk : ∀ k ∈ takes i, k ≤ N) : ∃ l', l'.Perm (sigAll N σ) ∧ ((takes i).flatMap σ ++ sigAll N (sigUpd takes σ i [])).Sublist l' := by
  refine ⟨(takes i).flatMap σ ++ ((List.range (N + 1)).filter fun k => !(takes i).contains k).flatMap σ, ?_, ?_⟩
  · rw [← List.flatMap_append]
    refine List.Perm.flatMap_right _ ?_
    rw [List.perm_ext_iff_of_nodup ?_ List.nodup_range]
    · intro k
      rw [List.mem_append, List.mem_filter, List.mem_range]
      by_cases h : k ∈ takes i
      · have := hk k h
        simp [h]; omega
      · simp [h]
    · rw [List.nodup_append]
      refine ⟨hn, List.nodup_range.sublist List.filter_sublist, fun a ha b hb e => ?_⟩
      subst e
      rw [List.mem_filter] at hb
      simp [ha] at hb
  · refine List.Sublist.append_left ?_ _
    unfold sigAll
    have e : sigUpd takes σ i [] = fun k => bif (k == i || (takes i).contains k) then [] else σ k := by
      funext k
      unfold sigUpd
      cases (k == i) <;> cases (takes i).contains k <;> rfl
    rw [e, flatMap_filter_not]
    refine flatMap_sub _ ?_
    rw [show (fun k : Nat => !(k == i || (takes i).contains k)) = fun k => (!(k == i)) && (!(takes i).contains k) by funext k; rw [Bool.not_or], ← List.filter_filter]
    exact List.filter_sublist
end
theorem SepF.subE {F : List Nat} {w0 wr : World} {ts us : List Thing} (h : SepF F w0 wr ts) (hs : us.Sublist ts) : SepF F w0 wr us :=
  ⟨h.chg, h.nd.sublist (flatMap_subN hs), fun b hb => h.new b ((flatMap_subN hs).subset hb), fun t ht => h.hold t (hs.subset ht)⟩
theorem SepF.permE {F : List Nat} {w0 wr : World} {ts us : List Thing} (h : SepF F w0 wr ts) (hp : us.Perm ts) : SepF F w0 wr us :=
  h.conv (List.Perm.flatMap_right _ hp) fun u hu => h.hold u (hp.mem_iff.1 hu)
theorem SepF.sigTake {F : List Nat} {w X : World} {takes : Nat → List Nat} {σ : Sig} {i N : Nat} (h : SepF F w X (sigAll N σ)) (hn : (takes i).Nodup) (hk : ∀ k ∈ takes i, k ≤ N) : SepF F w X ((takes i).flatMap σ ++ sigAll N (sigUpd takes σ i [])) := by
  obtain ⟨l', h1, h2⟩ := sigAll_take (σ := σ) hn hk
  exact (h.permE h1).subE h2
section
variable {P : Program} {F : List Nat} {w : World} {N : Nat} {ops : Array Oper} {D : World → Prop} {rel : Nat → Option Rel} {takes : Nat → List Nat} {Q : Act → Sig → Prop} {i : Nat} {o : Oper} {rest : List Oper} {a : Act} {σ : Sig}
theorem put_get {a : Act} {d : Nat} (hs : d < a.tmps.size) (v : Value) : (a.put (some d) v).tmps.getD d undef = v := by
  simp [Act.put, hs]
theorem gvalid_of {r : Value → List Thing → Prop} (d : Nat) (hd : o.dst = some d) (hs : d < a.tmps.size) (hw : Region.wanted o (yielded ops a.tmps) = true) (hi : i ≤ N) (hn : (takes i).Nodup) (hk : ∀ k ∈ takes i, k ≤ N)
    (h : ∀ others X, SepF F w X ((takes i).flatMap σ ++ others) → wpList P ops (GvQ F w r d a.defers others) [o] a X) : GValid P (GC F w N) takes i o a σ r := by
  intro σ' X hC hag
  have e4 : (takes i).flatMap σ' = (takes i).flatMap σ := by
    rw [List.flatMap_def, List.flatMap_def]; exact congrArg List.flatten (List.map_congr_left hag)
  have h0 : SepF F w X (sigAll N σ') := hC
  have h1 := h0.sigTake hn hk
  rw [e4] at h1
  have h2 := h _ X h1
  have fin : ∀ u w', GvQ F w r d a.defers (sigAll N (sigUpd takes σ' i [])) .normal (a.put o.dst u) w' → ∃ ds, r u ds ∧ GC F w N (sigUpd takes σ' i ds) w' := fun u w' ⟨_, _, ds, h3, h4⟩ => by
    rw [hd, put_get hs] at h3
    exact ⟨ds, h3, h4.permE (sigAll_upd hi)⟩
  unfold wpList at h2
  rw [if_pos hw] at h2
  have h3 : o.wp P a X (fun a' w' => GvQ F w r d a.defers (sigAll N (sigUpd takes σ' i [])) .normal a' w') (GvQ F w r d a.defers (sigAll N (sigUpd takes σ' i []))) := by
    first
      | exact h2
      | exact h2.elim id fun h => by obtain ⟨_, a', w', h, _⟩ := h; cases h
  unfold Oper.wp at h3
  generalize (execOp a.eval o).run P X = R at *
  cases R with
  | ok n w' =>
    cases n <;> simp only [Oper.upon] at h3 <;> simp only [ups] <;> first | exact fin _ _ h3 | skip
    · refine h3.mono fun e w'' he => ?_
      cases e with
      | returned v => exact ⟨v, rfl, fin _ _ he⟩
      | panicked c => exact absurd he.1 (by simp)
      | outgrown => obtain ⟨a', w', h, _⟩ := he; cases h
    · have := h3.2.1
      rw [hd] at this
      exact absurd this (by simp [Act.put])
    · exact Rows.mono h3 fun v w'' he => fin _ _ he
  | halt x w' => cases x <;> simp only [Oper.upon] at h3; exact absurd h3.1 (by simp)

theorem give_op {R : Rel} (d : Nat) (hw : Region.wanted o (yielded ops a.tmps) = true) (hr : rel i = some R) (hd : o.dst = some d) (hs : d < a.tmps.size) (hi : i ≤ N) (hn : (takes i).Nodup) (hk : ∀ k ∈ takes i, k ≤ N)
    (hin : ∃ v ds, R (o.op.operands.toList.map a.eval) ((takes i).flatMap σ) v ds)
    (h : ∀ others X, SepF F w X ((takes i).flatMap σ ++ others) → wpList P ops (GvQ F w (R (o.op.operands.toList.map a.eval) ((takes i).flatMap σ)) d a.defers others) [o] a X)
    (hnext : ∀ v ds, R (o.op.operands.toList.map a.eval) ((takes i).flatMap σ) v ds → wpGive P ops (GC F w N) D rel takes Q (i + 1) rest (a.put (some d) v) (sigUpd takes σ i ds)) : wpGive P ops (GC F w N) D rel takes Q i (o :: rest) a σ :=
  give_rel hw hr (gvalid_of d hd hs hw hi hn hk h) hin (fun v ds hv => by rw [hd]; exact hnext v ds hv)
end

section
variable {P : Program} {F : List Nat} {w : World} {N : Nat} {ops : Array Oper} {D : World → Prop} {rel : Nat → Option Rel} {takes : Nat → List Nat} {Q : Act → Sig → Prop} {i : Nat} {o : Oper} {rest : List Oper} {a : Act} {σ : Sig}
/-- an operation that takes nothing -/
theorem give_op0 {R : Rel} (d : Nat) (hw : Region.wanted o (yielded ops a.tmps) = true) (hr : rel i = some R) (hd : o.dst = some d) (hs : Nat.blt d a.tmps.size = true) (hi : Nat.ble i N = true) (ht : takes i = [])
    (hin : ∃ v ds, R (o.op.operands.toList.map a.eval) [] v ds)
    (h : ∀ others X, SepF F w X others → wpList P ops (GvQ F w (R (o.op.operands.toList.map a.eval) []) d a.defers others) [o] a X)
    (hnext : ∀ v ds, R (o.op.operands.toList.map a.eval) [] v ds → wpGive P ops (GC F w N) D rel takes Q (i + 1) rest (a.put (some d) v) (sigUpd takes σ i ds)) : wpGive P ops (GC F w N) D rel takes Q i (o :: rest) a σ := by
  have e : (takes i).flatMap σ = [] := by rw [ht]; rfl
  refine give_op d hw hr hd (by simpa [Nat.blt_eq] using hs) (Nat.le_of_ble_eq_true hi) (by rw [ht]; exact List.nodup_nil) (by rw [ht]; intro k hk; cases hk) ?_ ?_ ?_
  · rw [e]; exact hin
  · rw [e]; exact h
  · rw [e]; exact hnext
/-- an operation that takes what operation k gave -/
theorem give_op1 {R : Rel} (d k : Nat) (hw : Region.wanted o (yielded ops a.tmps) = true) (hr : rel i = some R) (hd : o.dst = some d) (hs : Nat.blt d a.tmps.size = true) (hi : Nat.ble i N = true) (ht : takes i = [k]) (hk : Nat.ble k N = true)
    (tk : List Thing) (htk : σ k = tk)
    (hin : ∃ v ds, R (o.op.operands.toList.map a.eval) tk v ds)
    (h : ∀ others X, SepF F w X (tk ++ others) → wpList P ops (GvQ F w (R (o.op.operands.toList.map a.eval) tk) d a.defers others) [o] a X)
    (hnext : ∀ v ds, R (o.op.operands.toList.map a.eval) tk v ds → wpGive P ops (GC F w N) D rel takes Q (i + 1) rest (a.put (some d) v) (sigUpd takes σ i ds)) : wpGive P ops (GC F w N) D rel takes Q i (o :: rest) a σ := by
  have e : (takes i).flatMap σ = tk := by rw [ht, ← htk]; simp
  refine give_op d hw hr hd (by simpa [Nat.blt_eq] using hs) (Nat.le_of_ble_eq_true hi) (by rw [ht]; simp) (by rw [ht]; intro x hx; rw [List.mem_singleton.1 hx]; exact Nat.le_of_ble_eq_true hk) ?_ ?_ ?_
  · rw [e]; exact hin
  · rw [e]; exact h
  · rw [e]; exact hnext
end
theorem sep_eq {F : List Nat} {w0 wr : World} {ts us : List Thing} (h : SepF F w0 wr ts) (e : ts = us) : SepF F w0 wr us := e ▸ h
theorem SepF.startDrew (w : World) : SepF [] w w.drew [] := ⟨Chg.of_below (Below.refl _ _).drew, by simp, by simp, by simp⟩
/-- things of a call behind the things that were there -/
theorem SepF.join {F : List Nat} {w0 wr W : World} {ts us : List Thing} (h : SepF F w0 wr ts) (hS : SepF [] wr W us) : SepF F w0 W (us ++ ts) := by
  have h1 := h.step hS.bel0
  refine ⟨h1.chg, ?_, fun b hb => ?_, fun u hu => ?_⟩
  · rw [List.flatMap_append, List.nodup_append]
    refine ⟨hS.nd, h.nd, fun x hx y hy e => ?_⟩
    subst e
    have h2 := h.lt x hy
    rcases hS.new x hx with h3 | h3
    · cases h3
    · omega
  · rw [List.flatMap_append] at hb
    rcases List.mem_append.1 hb with hb | hb
    · rcases hS.new b hb with h3 | h3
      · cases h3
      · have := h.chg.size; exact .inr (by omega)
    · exact h.new b hb
  · rcases List.mem_append.1 hu with hu | hu
    · exact hS.hold u hu
    · exact h1.hold u hu
/-- what operations give -/
def gSl {α : Type} (E : Rep α) (e : TypeId) (xs : List α) : Rel := fun _ _ v ds => ∃ A n c fp, v = .slice A n c ∧ ds = [tsl E e xs (.slice A n c) fp] ∧ Hid (n = xs.length)
def gPtr (T : TypeId) (cs : List Value) : Rel := fun _ _ v ds => ∃ g, v = .pointer (some ⟨g, 0, none⟩) ∧ ds = [tblk g T cs]
def gEmp (e : TypeId) : Rel := fun _ _ v ds => ∃ g, v = .slice (some ⟨g, 0, none⟩) 0 0 ∧ ds = [tblk g e []]
def gVal (x : Value) : Rel := fun _ _ v ds => v = x ∧ ds = []
theorem gSl_in {α : Type} {E : Rep α} {e : TypeId} {xs : List α} {vals : List Value} {tk : List Thing} : ∃ v ds, gSl E e xs vals tk v ds := ⟨_, _, none, xs.length, 0, [], rfl, rfl, rfl⟩
theorem gPtr_in {T : TypeId} {cs vals : List Value} {tk : List Thing} : ∃ v ds, gPtr T cs vals tk v ds := ⟨_, _, 0, rfl, rfl⟩
theorem gEmp_in {e : TypeId} {vals : List Value} {tk : List Thing} : ∃ v ds, gEmp e vals tk v ds := ⟨_, _, 0, rfl, rfl⟩
theorem gVal_in {x : Value} {vals : List Value} {tk : List Thing} : ∃ v ds, gVal x vals tk v ds := ⟨_, _, rfl, rfl⟩
section
variable {F : List Nat} {w X W : World} {others : List Thing} {vals : List Value} {tk : List Thing} {d : Nat} {df : List Deferred} {a' : Act}
theorem gvq_sl {α : Type} {E : Rep α} {e : TypeId} {xs : List α} {A : Option Addr} {n c : Nat} {fp : List Nat} (h : SepF F w X others) (hb : Below X.heap.size X W) (hs : SlOwn E e W xs (.slice A n c) fp) (hnd : fp.Nodup) (hnew : ∀ b, b ∈ fp → X.heap.size ≤ b)
    (hv : a'.tmps.getD d undef = .slice A n c) (hdf : a'.defers = df) : GvQ F w (gSl E e xs vals tk) d df others .normal a' W := by
  obtain ⟨A', n', c', h1, h2, _⟩ := hs.form
  injection h1 with e1 e2 e3
  exact ⟨rfl, hdf, _, ⟨A, n, c, fp, hv, rfl, e2.trans h2⟩, h.add hb (t := tsl E e xs (.slice A n c) fp) hs hnd hnew⟩
theorem gvq_ptr {T : TypeId} {cs : List Value} {g : Nat} (h : SepF F w X others) (hg : X.heap.size = g) (hv : a'.tmps.getD d undef = .pointer (some ⟨g, 0, none⟩)) (hdf : a'.defers = df) : GvQ F w (gPtr T cs vals tk) d df others .normal a' (X.alloc (.cells cs.toArray T)) :=
  ⟨rfl, hdf, _, ⟨_, hv, rfl⟩, h.alloc' hg T cs⟩
theorem gvq_emp {e : TypeId} {g : Nat} (h : SepF F w X others) (hg : X.heap.size = g) (hv : a'.tmps.getD d undef = .slice (some ⟨g, 0, none⟩) 0 0) (hdf : a'.defers = df) : GvQ F w (gEmp e vals tk) d df others .normal a' (X.alloc (.cells #[] e)) :=
  ⟨rfl, hdf, _, ⟨_, hv, rfl⟩, h.alloc' hg e []⟩
theorem gvq_val {x : Value} (h : SepF F w X others) (hb : Below X.heap.size X W) (hv : a'.tmps.getD d undef = x) (hdf : a'.defers = df) : GvQ F w (gVal x vals tk) d df others .normal a' W :=
  ⟨rfl, hdf, [], ⟨hv, rfl⟩, h.step hb⟩
end
end Mm
end Go.Proofs.Ytaepohocabealaa
