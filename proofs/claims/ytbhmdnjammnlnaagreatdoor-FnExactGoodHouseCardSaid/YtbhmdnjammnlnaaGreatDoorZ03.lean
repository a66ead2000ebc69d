/-
  Joined texts, in build order: Jh, Mk, Ty, Qt, Rg, Wc. Each part says what it proves; no conditions beyond those that a part names.
-/
import Derived.Test.YtbhmdnjammnlnaaGreatDoorZ01
import Derived.Test.YtbhmdnjammnlnaaGreatDoorZ02
import Derived.Lib.AtoiErrMem
import Derived.Lib.AtoiAll
import Derived.StillTail
import Derived.BigQuiet
import Derived.Lib.Hide
import Derived.WalkSpells
/-
  Contracts: numerals (strconv.Itoa, strconv.Atoi) and strings.Split at one byte, over the tables that they read (Tab). Conditions: those named.
-/
namespace Go.Proofs.YtbhmdnjammnlnaaGreatDoor
open Go.RowKit
/-- what the library's variables hold -/
structure Tabs (w : World) : Prop where
  pow : Lib.TabIs Tryz.prog w "internal/strconv.uint64pow10" .u64 Lib.pow10Tab
  syn : ∃ tp p, w.var? Tryz.prog "strconv.ErrSyntax" = some #[.iface tp p]
  rng : ∃ tp p, w.var? Tryz.prog "strconv.ErrRange" = some #[.iface tp p]
  mx : ∃ m : Int, w.cell? ⟨0, 0, none⟩ = some (.int .i64 m)
/-- and go on holding, whatever is done from block B on -/
def Tab (B : Nat) (w : World) : Prop := B ≤ w.heap.size ∧ ∀ w', Below B w w' → Tabs w'
theorem Tab.here {B : Nat} {w : World} (h : Tab B w) : Tabs w := h.2 w (Below.refl _ _)
theorem below_le {B C : Nat} {w w' : World} (h : Below C w w') (hb : B ≤ C) : Below B w w' := ⟨h.os, h.tape, h.output, h.size, fun k hk => h.block k (by omega)⟩
theorem Tab.on {B : Nat} {w w' : World} (h : Tab B w) (hb : Below w.heap.size w w') : Tab B w' :=
  ⟨Nat.le_trans h.1 hb.size, fun w2 h2 => h.2 w2 ((below_le hb h.1).trans h2)⟩
theorem Tab.onB {B : Nat} {w w' : World} (h : Tab B w) (hb : Below B w w') : Tab B w' :=
  ⟨Nat.le_trans h.1 hb.size, fun w2 h2 => h.2 w2 (hb.trans h2)⟩
theorem var_below {w w' : World} {name : String} {cs : Array Value} (h : w.var? Tryz.prog name = some cs) (hb : Below w.heap.size w w') : w'.var? Tryz.prog name = some cs := by
  unfold World.var? at *
  cases hg : Program.globalNamed Tryz.prog name with
  | none => simp [hg] at h
  | some g =>
    simp only [hg, Option.bind_some] at h ⊢
    have hlt : g < w.heap.size := by
      rcases Nat.lt_or_ge g w.heap.size with h' | h'
      · exact h'
      · rw [Array.getElem?_eq_none h'] at h; simp at h
    rw [hb.block g hlt]
    exact h
theorem Tabs.below {w w' : World} (h : Tabs w) (hb : Below w.heap.size w w') : Tabs w' := by
  obtain ⟨t1, p1, h1⟩ := h.syn
  obtain ⟨t2, p2, h2⟩ := h.rng
  obtain ⟨m, hm⟩ := h.mx
  exact ⟨var_below h.pow hb, ⟨t1, p1, var_below h1 hb⟩, ⟨t2, p2, var_below h2 hb⟩, ⟨m, below_some hb hm⟩⟩
theorem Tab.of {w : World} (h : Tabs w) : Tab w.heap.size w := ⟨Nat.le_refl _, fun _ hb => h.below hb⟩
theorem below_grow (w : World) (k : Nat) (os : Array Obj) : Below w.heap.size w (Sort.grow (w.drewN k) os) :=
  ⟨rfl, rfl, rfl, by rw [Sort.size_grow]; exact Nat.le_add_right _ _, fun j hj => Sort.heap_grow_old (w.drewN k) os hj⟩
theorem itoa_c (n : Int) (h0 : -9223372036854775808 ≤ n) (h1 : n ≤ 9223372036854775807) (B : Nat) (w : World) (ht : Tab B w) :
    Calls Tryz.prog 154 #[.int .i64 n] w fun e w' => e = .returned (.string (Pl.itoaB n)) ∧ Below w.heap.size w w' :=
  (Any.strconv_Itoa lsItoa n h0 h1 w ht.here.pow).mono fun e w' ⟨he, k, os, hw⟩ => ⟨he, by rw [hw]; exact below_grow w k os⟩
def AtoiAns (s : ByteArray) (w : World) (e : Ending) (w' : World) : Prop :=
  ∃ n ev, e = .returned (.tuple #[.int .i64 n, ev]) ∧ Below w.heap.size w w' ∧ Mm.I64 n ∧ ((Lib.atoiAll s.data.toList = .ok n ∧ ev = .nilIface) ∨ ((∀ v, Lib.atoiAll s.data.toList ≠ .ok v) ∧ ∃ tp p, ev = .iface tp p))
theorem atoi_c (s : ByteArray) (hs : s.size ≤ 281474976710656) (B : Nat) (w : World) (ht : Tab B w) :
    Calls Tryz.prog 180 #[.string s] w (AtoiAns s w) := by
  rcases h : Lib.atoiAll s.data.toList with v | _ | _
  · refine (Any.strconv_Atoi_ok lsAtoi s (by omega) v h w).mono ?_
    rintro e w' ⟨rfl, hw⟩
    refine ⟨v, _, rfl, ?_, ?_, .inl ⟨h, rfl⟩⟩
    · rcases hw with rfl | ⟨t, rfl⟩
      · exact Below.refl _ _
      · exact Lib.bytesWorld_below _ _ _
    · have := Lib.atoiAll_bounds h; unfold Mm.I64; omega
  · obtain ⟨tp, p, hv⟩ := ht.here.syn
    refine (Any.strconv_Atoi_syntax_var lsAtoi s hs h tp p w hv).mono ?_
    rintro e w' ⟨N, rfl, -, -, hb⟩
    exact ⟨0, _, rfl, hb, by unfold Mm.I64; omega, .inr ⟨fun v h2 => (by rw [h] at h2; cases h2), _, _, rfl⟩⟩
  · obtain ⟨tp, p, hv⟩ := ht.here.rng
    refine (Any.strconv_Atoi_range_var lsAtoi s hs h tp p w hv).mono ?_
    rintro e w' ⟨N, rfl, -, -, hb⟩
    exact ⟨_, _, rfl, hb, (by unfold Lib.atoiSat Mm.I64; split <;> omega), .inr ⟨fun v h2 => (by rw [h] at h2; cases h2), _, _, rfl⟩⟩
namespace Pl
def splitS (c : UInt8) (s : ByteArray) : List ByteArray := (splitL c s.data.toList).map fun l => ⟨l.toArray⟩
theorem splitB_S (c : UInt8) (s : ByteArray) : Lib.splitB ⟨#[c]⟩ 0 (Lib.countB s ⟨#[c]⟩) s = splitS c s := by
  have h1 := Lib.splitB_data ⟨#[c]⟩ 0 (Lib.countB s ⟨#[c]⟩) s
  have h2 : Lib.countB s ⟨#[c]⟩ = s.data.toList.count c := Lib.count_one c s.data.toList
  rw [h2] at h1 ⊢
  have h3 := splitK_all c (s.data.toList.count c) s.data.toList rfl
  unfold splitS
  rw [← h3, ← h1, List.map_map]
  conv => lhs; rw [← List.map_id (Lib.splitB _ _ _ _)]
  exact List.map_congr_left fun x _ => sba_ext (by simp)
theorem splitS_len (c : UInt8) (s : ByteArray) : (splitS c s).length = Lib.countB s ⟨#[c]⟩ + 1 := by
  unfold splitS
  rw [List.length_map, splitL_len, ← Lib.count_one]
end Pl
theorem split_c (s : ByteArray) (c : UInt8) (hs : s.size < 4294967281) (B : Nat) (w : World) (ht : Tab B w) :
    Calls Tryz.prog 179 #[.string s, .string ⟨#[c]⟩] w fun e w' => e = .returned (.slice (some ⟨w.heap.size, 0, none⟩) (Pl.splitS c s).length (Pl.splitS c s).length) ∧ w' = w.alloc (.cells ((Pl.splitS c s).map Value.string).toArray 9) := by
  obtain ⟨m, hm⟩ := ht.here.mx
  refine (Any.strings_Split lsSplit (by kernel_rfl) s ⟨#[c]⟩ m w hs hm (Nat.le_refl 1)).mono ?_
  rintro e w' ⟨rfl, rfl⟩
  rw [Pl.splitS_len, Pl.splitB_S]
  exact ⟨rfl, rfl⟩
end Go.Proofs.YtbhmdnjammnlnaaGreatDoor

/-
  What a marking makes of the program's types. No program in sight. No conditions.
-/
namespace Go.Proofs.YtbhmdnjammnlnaaGreatDoor
namespace Pl
def mkText (k : Int) : ByteArray := ⟨(109 :: digs k.toNat k.toNat []).toArray⟩
def mkInt (_ : Int) (k : Int) : Int := k
def mkBool (_ : Bool) (k : Int) : Bool := k % 3 == 0
def mkStr (_ : ByteArray) (k : Int) : ByteArray := mkText k
def cnt1 {α : Type} (_ : α) : Int := 1
theorem cnt1_nn {α : Type} (x : α) : 0 ≤ cnt1 x := by unfold cnt1; omega
def mkSample (_ : Sample) (k : Int) : Sample := ⟨k, (k + 1)⟩
def cntSample (_ : Sample) : Int := 1 + 1
theorem cntSample_nn (x : Sample) : 0 ≤ cntSample x := by
  unfold cntSample; omega
def mkWindow (_ : Window) (k : Int) : Window := ⟨k, (k + 1), ((k + 1) + 1), (((k + 1) + 1) + 1), ((((k + 1) + 1) + 1) + 1)⟩
def cntWindow (_ : Window) : Int := 1 + 1 + 1 + 1 + 1
theorem cntWindow_nn (x : Window) : 0 ≤ cntWindow x := by
  unfold cntWindow; omega
def mkTold (_ : Told) (k : Int) : Told := ⟨k, (k + 1), Pl.mkText (((k + 1) + 1))⟩
def cntTold (_ : Told) : Int := 1 + 1 + 1
theorem cntTold_nn (x : Told) : 0 ≤ cntTold x := by
  unfold cntTold; omega
def mkNote (_ : Note) (k : Int) : Note := ⟨(k % 3 == 0), ⟨(k + 1), ((k + 1) + 1), Pl.mkText ((((k + 1) + 1) + 1))⟩⟩
def cntNote (_ : Note) : Int := 1 + 1 + 1 + 1
theorem cntNote_nn (x : Note) : 0 ≤ cntNote x := by
  unfold cntNote; omega
def mkTellStep (_ : TellStep) (k : Int) : TellStep := ⟨k, (k + 1), Pl.mkText (((k + 1) + 1))⟩
def cntTellStep (_ : TellStep) : Int := 1 + 1 + 1
theorem cntTellStep_nn (x : TellStep) : 0 ≤ cntTellStep x := by
  unfold cntTellStep; omega
def mkSnapStep (_ : SnapStep) (k : Int) : SnapStep := ⟨k, (k + 1), ((k + 1) + 1), (((k + 1) + 1) + 1)⟩
def cntSnapStep (_ : SnapStep) : Int := 1 + 1 + 1 + 1
theorem cntSnapStep_nn (x : SnapStep) : 0 ≤ cntSnapStep x := by
  unfold cntSnapStep; omega
def mkSay (_ : Say) (k : Int) : Say := ⟨Pl.mkText (k), (k + 1), ((k + 1) + 1)⟩
def cntSay (_ : Say) : Int := 1 + 1 + 1
theorem cntSay_nn (x : Say) : 0 ≤ cntSay x := by
  unfold cntSay; omega
def mkLabel (_ : Label) (k : Int) : Label := ⟨Pl.mkText (k), Pl.mkText ((k + 1))⟩
def cntLabel (_ : Label) : Int := 1 + 1
theorem cntLabel_nn (x : Label) : 0 ≤ cntLabel x := by
  unfold cntLabel; omega
def mkEntry (_ : Entry) (k : Int) : Entry := ⟨k, Pl.mkText ((k + 1))⟩
def cntEntry (_ : Entry) : Int := 1 + 1
theorem cntEntry_nn (x : Entry) : 0 ≤ cntEntry x := by
  unfold cntEntry; omega
def mkStart (_ : Start) (k : Int) : Start := ⟨k, (k + 1)⟩
def cntStart (_ : Start) : Int := 1 + 1
theorem cntStart_nn (x : Start) : 0 ≤ cntStart x := by
  unfold cntStart; omega
def mkLetter (_ : Letter) (k : Int) : Letter := ⟨k, (k + 1), ((k + 1) + 1), ((((k + 1) + 1) + 1) % 3 == 0), ((((k + 1) + 1) + 1) + 1)⟩
def cntLetter (_ : Letter) : Int := 1 + 1 + 1 + 1 + 1
theorem cntLetter_nn (x : Letter) : 0 ≤ cntLetter x := by
  unfold cntLetter; omega
def mkVoteStep (_ : VoteStep) (k : Int) : VoteStep := ⟨k, (k + 1)⟩
def cntVoteStep (_ : VoteStep) : Int := 1 + 1
theorem cntVoteStep_nn (x : VoteStep) : 0 ≤ cntVoteStep x := by
  unfold cntVoteStep; omega
def mkReplStep (_ : ReplStep) (k : Int) : ReplStep := ⟨k, (k + 1), Pl.mkText (((k + 1) + 1))⟩
def cntReplStep (_ : ReplStep) : Int := 1 + 1 + 1
theorem cntReplStep_nn (x : ReplStep) : 0 ≤ cntReplStep x := by
  unfold cntReplStep; omega
def mkHouseStep (_ : HouseStep) (k : Int) : HouseStep := ⟨k, (k + 1), ⟨Pl.mkText (((k + 1) + 1)), (((k + 1) + 1) + 1), ((((k + 1) + 1) + 1) + 1)⟩⟩
def cntHouseStep (_ : HouseStep) : Int := 1 + 1 + 1 + 1 + 1
theorem cntHouseStep_nn (x : HouseStep) : 0 ≤ cntHouseStep x := by
  unfold cntHouseStep; omega
def mkToken (_ : Token) (k : Int) : Token := ⟨k, (k + 1)⟩
def cntToken (_ : Token) : Int := 1 + 1
theorem cntToken_nn (x : Token) : 0 ≤ cntToken x := by
  unfold cntToken; omega
def mkRow (x : Row) (k : Int) : Row := ⟨Pl.mkText (k), (Mm.mkL Pl.mkSample Pl.cntSample) x.Samples (k + 1)⟩
def cntRow (x : Row) : Int := 1 + (Mm.cntL Pl.cntSample) x.Samples
theorem cntRow_nn (x : Row) : 0 ≤ cntRow x := by
  have h1 := Mm.cntL_nn (cnt := cntSample) (cntSample_nn) x.Samples
  unfold cntRow; omega
def mkHead (x : Head) (k : Int) : Head := ⟨(Mm.mkL Pl.mkRow Pl.cntRow) x.Rows k, (k + (Mm.cntL Pl.cntRow) x.Rows)⟩
def cntHead (x : Head) : Int := (Mm.cntL Pl.cntRow) x.Rows + 1
theorem cntHead_nn (x : Head) : 0 ≤ cntHead x := by
  have h0 := Mm.cntL_nn (cnt := cntRow) (cntRow_nn) x.Rows
  unfold cntHead; omega
def mkItem (x : Item) (k : Int) : Item := ⟨(Mm.mkL Pl.mkLabel Pl.cntLabel) x.Labels k, (k + (Mm.cntL Pl.cntLabel) x.Labels)⟩
def cntItem (x : Item) : Int := (Mm.cntL Pl.cntLabel) x.Labels + 1
theorem cntItem_nn (x : Item) : 0 ≤ cntItem x := by
  have h0 := Mm.cntL_nn (cnt := cntLabel) (cntLabel_nn) x.Labels
  unfold cntItem; omega
def mkTotal (x : Total) (k : Int) : Total := ⟨(Mm.mkL Pl.mkLabel Pl.cntLabel) x.Labels k, (k + (Mm.cntL Pl.cntLabel) x.Labels), ((k + (Mm.cntL Pl.cntLabel) x.Labels) + 1), (((k + (Mm.cntL Pl.cntLabel) x.Labels) + 1) + 1), ((((k + (Mm.cntL Pl.cntLabel) x.Labels) + 1) + 1) + 1)⟩
def cntTotal (x : Total) : Int := (Mm.cntL Pl.cntLabel) x.Labels + 1 + 1 + 1 + 1
theorem cntTotal_nn (x : Total) : 0 ≤ cntTotal x := by
  have h0 := Mm.cntL_nn (cnt := cntLabel) (cntLabel_nn) x.Labels
  unfold cntTotal; omega
def mkSketch (x : Sketch) (k : Int) : Sketch := ⟨(Mm.mkL (Mm.mkL Pl.mkInt Pl.cnt1) (Mm.cntL Pl.cnt1)) x.Rows k, (k + (Mm.cntL (Mm.cntL Pl.cnt1)) x.Rows)⟩
def cntSketch (x : Sketch) : Int := (Mm.cntL (Mm.cntL Pl.cnt1)) x.Rows + 1
theorem cntSketch_nn (x : Sketch) : 0 ≤ cntSketch x := by
  have h0 := Mm.cntL_nn (cnt := (Mm.cntL cnt1)) (Mm.cntL_nn (cnt := cnt1) (cnt1_nn)) x.Rows
  unfold cntSketch; omega
def mkHeavy (x : Heavy) (k : Int) : Heavy := ⟨(Mm.mkL Pl.mkStr Pl.cnt1) x.Names k, (Mm.mkL Pl.mkInt Pl.cnt1) x.Counts (k + (Mm.cntL Pl.cnt1) x.Names), ((k + (Mm.cntL Pl.cnt1) x.Names) + (Mm.cntL Pl.cnt1) x.Counts), (((k + (Mm.cntL Pl.cnt1) x.Names) + (Mm.cntL Pl.cnt1) x.Counts) + 1)⟩
def cntHeavy (x : Heavy) : Int := (Mm.cntL Pl.cnt1) x.Names + (Mm.cntL Pl.cnt1) x.Counts + 1 + 1
theorem cntHeavy_nn (x : Heavy) : 0 ≤ cntHeavy x := by
  have h0 := Mm.cntL_nn (cnt := cnt1) (cnt1_nn) x.Names
  have h1 := Mm.cntL_nn (cnt := cnt1) (cnt1_nn) x.Counts
  unfold cntHeavy; omega
def mkPiece (x : Piece) (k : Int) : Piece := ⟨k, Pl.mkText ((k + 1)), (Mm.mkL Pl.mkInt Pl.cnt1) x.Index ((k + 1) + 1)⟩
def cntPiece (x : Piece) : Int := 1 + 1 + (Mm.cntL Pl.cnt1) x.Index
theorem cntPiece_nn (x : Piece) : 0 ≤ cntPiece x := by
  have h2 := Mm.cntL_nn (cnt := cnt1) (cnt1_nn) x.Index
  unfold cntPiece; omega
def mkLog (x : Log) (k : Int) : Log := ⟨(Mm.mkL Pl.mkPiece Pl.cntPiece) x.Pieces k, (k + (Mm.cntL Pl.cntPiece) x.Pieces)⟩
def cntLog (x : Log) : Int := (Mm.cntL Pl.cntPiece) x.Pieces + 1
theorem cntLog_nn (x : Log) : 0 ≤ cntLog x := by
  have h0 := Mm.cntL_nn (cnt := cntPiece) (cntPiece_nn) x.Pieces
  unfold cntLog; omega
def mkHouse (x : House) (k : Int) : House := ⟨(Mm.mkL Pl.mkLog Pl.cntLog) x.Logs k, (Mm.mkL Pl.mkHead Pl.cntHead) x.Heads (k + (Mm.cntL Pl.cntLog) x.Logs), (Mm.mkL Pl.mkHead Pl.cntHead) x.Kept ((k + (Mm.cntL Pl.cntLog) x.Logs) + (Mm.cntL Pl.cntHead) x.Heads)⟩
def cntHouse (x : House) : Int := (Mm.cntL Pl.cntLog) x.Logs + (Mm.cntL Pl.cntHead) x.Heads + (Mm.cntL Pl.cntHead) x.Kept
theorem cntHouse_nn (x : House) : 0 ≤ cntHouse x := by
  have h0 := Mm.cntL_nn (cnt := cntLog) (cntLog_nn) x.Logs
  have h1 := Mm.cntL_nn (cnt := cntHead) (cntHead_nn) x.Heads
  have h2 := Mm.cntL_nn (cnt := cntHead) (cntHead_nn) x.Kept
  unfold cntHouse; omega
def mkTell (x : Tell) (k : Int) : Tell := ⟨(Mm.mkL (Mm.mkL Pl.mkStr Pl.cnt1) (Mm.cntL Pl.cnt1)) x.Texts k, (Mm.mkL Pl.mkInt Pl.cnt1) x.Heard (k + (Mm.cntL (Mm.cntL Pl.cnt1)) x.Texts), (Mm.mkL Pl.mkNote Pl.cntNote) x.Line ((k + (Mm.cntL (Mm.cntL Pl.cnt1)) x.Texts) + (Mm.cntL Pl.cnt1) x.Heard), (Mm.mkL Pl.mkTold Pl.cntTold) x.Log (((k + (Mm.cntL (Mm.cntL Pl.cnt1)) x.Texts) + (Mm.cntL Pl.cnt1) x.Heard) + (Mm.cntL Pl.cntNote) x.Line), (Mm.mkL Pl.mkInt Pl.cnt1) x.Next ((((k + (Mm.cntL (Mm.cntL Pl.cnt1)) x.Texts) + (Mm.cntL Pl.cnt1) x.Heard) + (Mm.cntL Pl.cntNote) x.Line) + (Mm.cntL Pl.cntTold) x.Log)⟩
def cntTell (x : Tell) : Int := (Mm.cntL (Mm.cntL Pl.cnt1)) x.Texts + (Mm.cntL Pl.cnt1) x.Heard + (Mm.cntL Pl.cntNote) x.Line + (Mm.cntL Pl.cntTold) x.Log + (Mm.cntL Pl.cnt1) x.Next
theorem cntTell_nn (x : Tell) : 0 ≤ cntTell x := by
  have h0 := Mm.cntL_nn (cnt := (Mm.cntL cnt1)) (Mm.cntL_nn (cnt := cnt1) (cnt1_nn)) x.Texts
  have h1 := Mm.cntL_nn (cnt := cnt1) (cnt1_nn) x.Heard
  have h2 := Mm.cntL_nn (cnt := cntNote) (cntNote_nn) x.Line
  have h3 := Mm.cntL_nn (cnt := cntTold) (cntTold_nn) x.Log
  have h4 := Mm.cntL_nn (cnt := cnt1) (cnt1_nn) x.Next
  unfold cntTell; omega
def mkBank (x : Bank) (k : Int) : Bank := ⟨(Mm.mkL Pl.mkInt Pl.cnt1) x.Coins k, (Mm.mkL (Mm.mkL Pl.mkInt Pl.cnt1) (Mm.cntL Pl.cnt1)) x.Ways (k + (Mm.cntL Pl.cnt1) x.Coins), (Mm.mkL Pl.mkInt Pl.cnt1) x.Kept ((k + (Mm.cntL Pl.cnt1) x.Coins) + (Mm.cntL (Mm.cntL Pl.cnt1)) x.Ways), (Mm.mkL (Mm.mkL Pl.mkBool Pl.cnt1) (Mm.cntL Pl.cnt1)) x.Heard (((k + (Mm.cntL Pl.cnt1) x.Coins) + (Mm.cntL (Mm.cntL Pl.cnt1)) x.Ways) + (Mm.cntL Pl.cnt1) x.Kept), (Mm.mkL (Mm.mkL Pl.mkInt Pl.cnt1) (Mm.cntL Pl.cnt1)) x.Found ((((k + (Mm.cntL Pl.cnt1) x.Coins) + (Mm.cntL (Mm.cntL Pl.cnt1)) x.Ways) + (Mm.cntL Pl.cnt1) x.Kept) + (Mm.cntL (Mm.cntL Pl.cnt1)) x.Heard)⟩
def cntBank (x : Bank) : Int := (Mm.cntL Pl.cnt1) x.Coins + (Mm.cntL (Mm.cntL Pl.cnt1)) x.Ways + (Mm.cntL Pl.cnt1) x.Kept + (Mm.cntL (Mm.cntL Pl.cnt1)) x.Heard + (Mm.cntL (Mm.cntL Pl.cnt1)) x.Found
theorem cntBank_nn (x : Bank) : 0 ≤ cntBank x := by
  have h0 := Mm.cntL_nn (cnt := cnt1) (cnt1_nn) x.Coins
  have h1 := Mm.cntL_nn (cnt := (Mm.cntL cnt1)) (Mm.cntL_nn (cnt := cnt1) (cnt1_nn)) x.Ways
  have h2 := Mm.cntL_nn (cnt := cnt1) (cnt1_nn) x.Kept
  have h3 := Mm.cntL_nn (cnt := (Mm.cntL cnt1)) (Mm.cntL_nn (cnt := cnt1) (cnt1_nn)) x.Heard
  have h4 := Mm.cntL_nn (cnt := (Mm.cntL cnt1)) (Mm.cntL_nn (cnt := cnt1) (cnt1_nn)) x.Found
  unfold cntBank; omega
def mkNode (x : Node) (k : Int) : Node := ⟨k, (k + 1), ((k + 1) + 1), (Mm.mkL Pl.mkInt Pl.cnt1) x.Heard (((k + 1) + 1) + 1), ((((k + 1) + 1) + 1) + (Mm.cntL Pl.cnt1) x.Heard)⟩
def cntNode (x : Node) : Int := 1 + 1 + 1 + (Mm.cntL Pl.cnt1) x.Heard + 1
theorem cntNode_nn (x : Node) : 0 ≤ cntNode x := by
  have h3 := Mm.cntL_nn (cnt := cnt1) (cnt1_nn) x.Heard
  unfold cntNode; omega
def mkPoll (x : Poll) (k : Int) : Poll := ⟨(Mm.mkL Pl.mkNode Pl.cntNode) x.Nodes k, (Mm.mkL Pl.mkLetter Pl.cntLetter) x.Letters (k + (Mm.cntL Pl.cntNode) x.Nodes), (Mm.mkL (Mm.mkL Pl.mkInt Pl.cnt1) (Mm.cntL Pl.cnt1)) x.Leaders ((k + (Mm.cntL Pl.cntNode) x.Nodes) + (Mm.cntL Pl.cntLetter) x.Letters)⟩
def cntPoll (x : Poll) : Int := (Mm.cntL Pl.cntNode) x.Nodes + (Mm.cntL Pl.cntLetter) x.Letters + (Mm.cntL (Mm.cntL Pl.cnt1)) x.Leaders
theorem cntPoll_nn (x : Poll) : 0 ≤ cntPoll x := by
  have h0 := Mm.cntL_nn (cnt := cntNode) (cntNode_nn) x.Nodes
  have h1 := Mm.cntL_nn (cnt := cntLetter) (cntLetter_nn) x.Letters
  have h2 := Mm.cntL_nn (cnt := (Mm.cntL cnt1)) (Mm.cntL_nn (cnt := cnt1) (cnt1_nn)) x.Leaders
  unfold cntPoll; omega
def mkRepl (x : Repl) (k : Int) : Repl := ⟨(Mm.mkL (Mm.mkL Pl.mkEntry Pl.cntEntry) (Mm.cntL Pl.cntEntry)) x.Logs k, (Mm.mkL Pl.mkBool Pl.cnt1) x.Down (k + (Mm.cntL (Mm.cntL Pl.cntEntry)) x.Logs), ((k + (Mm.cntL (Mm.cntL Pl.cntEntry)) x.Logs) + (Mm.cntL Pl.cnt1) x.Down), (((k + (Mm.cntL (Mm.cntL Pl.cntEntry)) x.Logs) + (Mm.cntL Pl.cnt1) x.Down) + 1), (Mm.mkL Pl.mkInt Pl.cnt1) x.InSync ((((k + (Mm.cntL (Mm.cntL Pl.cntEntry)) x.Logs) + (Mm.cntL Pl.cnt1) x.Down) + 1) + 1), (Mm.mkL Pl.mkEntry Pl.cntEntry) x.Certain (((((k + (Mm.cntL (Mm.cntL Pl.cntEntry)) x.Logs) + (Mm.cntL Pl.cnt1) x.Down) + 1) + 1) + (Mm.cntL Pl.cnt1) x.InSync)⟩
def cntRepl (x : Repl) : Int := (Mm.cntL (Mm.cntL Pl.cntEntry)) x.Logs + (Mm.cntL Pl.cnt1) x.Down + 1 + 1 + (Mm.cntL Pl.cnt1) x.InSync + (Mm.cntL Pl.cntEntry) x.Certain
theorem cntRepl_nn (x : Repl) : 0 ≤ cntRepl x := by
  have h0 := Mm.cntL_nn (cnt := (Mm.cntL cntEntry)) (Mm.cntL_nn (cnt := cntEntry) (cntEntry_nn)) x.Logs
  have h1 := Mm.cntL_nn (cnt := cnt1) (cnt1_nn) x.Down
  have h4 := Mm.cntL_nn (cnt := cnt1) (cnt1_nn) x.InSync
  have h5 := Mm.cntL_nn (cnt := cntEntry) (cntEntry_nn) x.Certain
  unfold cntRepl; omega
def topSketch (x : Sketch) (k : Int) : Sketch := ⟨(Mm.mkL (Mm.mkL Pl.mkInt Pl.cnt1) (Mm.cntL Pl.cnt1)) x.Rows k, x.Total⟩
def ctopSketch (x : Sketch) : Int := (Mm.cntL (Mm.cntL Pl.cnt1)) x.Rows
def topHeavy (x : Heavy) (k : Int) : Heavy := ⟨(Mm.mkL Pl.mkStr Pl.cnt1) x.Names k, (Mm.mkL Pl.mkInt Pl.cnt1) x.Counts (k + (Mm.cntL Pl.cnt1) x.Names), x.Gone, x.Total⟩
def ctopHeavy (x : Heavy) : Int := (Mm.cntL Pl.cnt1) x.Names + (Mm.cntL Pl.cnt1) x.Counts
def topHead (x : Head) (k : Int) : Head := ⟨(Mm.mkL Pl.mkRow Pl.cntRow) x.Rows k, x.Offset⟩
def ctopHead (x : Head) : Int := (Mm.cntL Pl.cntRow) x.Rows
def topLog (x : Log) (k : Int) : Log := ⟨(Mm.mkL Pl.mkPiece Pl.cntPiece) x.Pieces k, x.Begin⟩
def ctopLog (x : Log) : Int := (Mm.cntL Pl.cntPiece) x.Pieces
def topTell (x : Tell) (k : Int) : Tell := ⟨(Mm.mkL (Mm.mkL Pl.mkStr Pl.cnt1) (Mm.cntL Pl.cnt1)) x.Texts k, (Mm.mkL Pl.mkInt Pl.cnt1) x.Heard (k + (Mm.cntL (Mm.cntL Pl.cnt1)) x.Texts), (Mm.mkL Pl.mkNote Pl.cntNote) x.Line ((k + (Mm.cntL (Mm.cntL Pl.cnt1)) x.Texts) + (Mm.cntL Pl.cnt1) x.Heard), (Mm.mkL Pl.mkTold Pl.cntTold) x.Log (((k + (Mm.cntL (Mm.cntL Pl.cnt1)) x.Texts) + (Mm.cntL Pl.cnt1) x.Heard) + (Mm.cntL Pl.cntNote) x.Line), (Mm.mkL Pl.mkInt Pl.cnt1) x.Next ((((k + (Mm.cntL (Mm.cntL Pl.cnt1)) x.Texts) + (Mm.cntL Pl.cnt1) x.Heard) + (Mm.cntL Pl.cntNote) x.Line) + (Mm.cntL Pl.cntTold) x.Log)⟩
def ctopTell (x : Tell) : Int := (Mm.cntL (Mm.cntL Pl.cnt1)) x.Texts + (Mm.cntL Pl.cnt1) x.Heard + (Mm.cntL Pl.cntNote) x.Line + (Mm.cntL Pl.cntTold) x.Log + (Mm.cntL Pl.cnt1) x.Next
def topBank (x : Bank) (k : Int) : Bank := ⟨(Mm.mkL Pl.mkInt Pl.cnt1) x.Coins k, (Mm.mkL (Mm.mkL Pl.mkInt Pl.cnt1) (Mm.cntL Pl.cnt1)) x.Ways (k + (Mm.cntL Pl.cnt1) x.Coins), (Mm.mkL Pl.mkInt Pl.cnt1) x.Kept ((k + (Mm.cntL Pl.cnt1) x.Coins) + (Mm.cntL (Mm.cntL Pl.cnt1)) x.Ways), (Mm.mkL (Mm.mkL Pl.mkBool Pl.cnt1) (Mm.cntL Pl.cnt1)) x.Heard (((k + (Mm.cntL Pl.cnt1) x.Coins) + (Mm.cntL (Mm.cntL Pl.cnt1)) x.Ways) + (Mm.cntL Pl.cnt1) x.Kept), (Mm.mkL (Mm.mkL Pl.mkInt Pl.cnt1) (Mm.cntL Pl.cnt1)) x.Found ((((k + (Mm.cntL Pl.cnt1) x.Coins) + (Mm.cntL (Mm.cntL Pl.cnt1)) x.Ways) + (Mm.cntL Pl.cnt1) x.Kept) + (Mm.cntL (Mm.cntL Pl.cnt1)) x.Heard)⟩
def ctopBank (x : Bank) : Int := (Mm.cntL Pl.cnt1) x.Coins + (Mm.cntL (Mm.cntL Pl.cnt1)) x.Ways + (Mm.cntL Pl.cnt1) x.Kept + (Mm.cntL (Mm.cntL Pl.cnt1)) x.Heard + (Mm.cntL (Mm.cntL Pl.cnt1)) x.Found
def topHouse (x : House) (k : Int) : House := ⟨(Mm.mkL Pl.mkLog Pl.cntLog) x.Logs k, (Mm.mkL Pl.mkHead Pl.cntHead) x.Heads (k + (Mm.cntL Pl.cntLog) x.Logs), (Mm.mkL Pl.mkHead Pl.cntHead) x.Kept ((k + (Mm.cntL Pl.cntLog) x.Logs) + (Mm.cntL Pl.cntHead) x.Heads)⟩
def ctopHouse (x : House) : Int := (Mm.cntL Pl.cntLog) x.Logs + (Mm.cntL Pl.cntHead) x.Heads + (Mm.cntL Pl.cntHead) x.Kept
def topPoll (x : Poll) (k : Int) : Poll := ⟨(Mm.mkL Pl.mkNode Pl.cntNode) x.Nodes k, (Mm.mkL Pl.mkLetter Pl.cntLetter) x.Letters (k + (Mm.cntL Pl.cntNode) x.Nodes), (Mm.mkL (Mm.mkL Pl.mkInt Pl.cnt1) (Mm.cntL Pl.cnt1)) x.Leaders ((k + (Mm.cntL Pl.cntNode) x.Nodes) + (Mm.cntL Pl.cntLetter) x.Letters)⟩
def ctopPoll (x : Poll) : Int := (Mm.cntL Pl.cntNode) x.Nodes + (Mm.cntL Pl.cntLetter) x.Letters + (Mm.cntL (Mm.cntL Pl.cnt1)) x.Leaders
def topRepl (x : Repl) (k : Int) : Repl := ⟨(Mm.mkL (Mm.mkL Pl.mkEntry Pl.cntEntry) (Mm.cntL Pl.cntEntry)) x.Logs k, (Mm.mkL Pl.mkBool Pl.cnt1) x.Down (k + (Mm.cntL (Mm.cntL Pl.cntEntry)) x.Logs), x.Leader, x.Epoch, (Mm.mkL Pl.mkInt Pl.cnt1) x.InSync ((k + (Mm.cntL (Mm.cntL Pl.cntEntry)) x.Logs) + (Mm.cntL Pl.cnt1) x.Down), (Mm.mkL Pl.mkEntry Pl.cntEntry) x.Certain (((k + (Mm.cntL (Mm.cntL Pl.cntEntry)) x.Logs) + (Mm.cntL Pl.cnt1) x.Down) + (Mm.cntL Pl.cnt1) x.InSync)⟩
def ctopRepl (x : Repl) : Int := (Mm.cntL (Mm.cntL Pl.cntEntry)) x.Logs + (Mm.cntL Pl.cnt1) x.Down + (Mm.cntL Pl.cnt1) x.InSync + (Mm.cntL Pl.cntEntry) x.Certain
end Pl
namespace Pl
theorem cntLb {α : Type} {cnt f : α → Int} (h : ∀ x, cnt x ≤ 8 * (1 + f x)) : ∀ l : List α, Mm.cntL cnt l ≤ 8 * szl f l
  | [] => by simp [Mm.cntL, szl, sumI]
  | x :: t => by
    have h1 := h x
    have h2 := cntLb h t
    show cnt x + Mm.cntL cnt t ≤ 8 * (((t.length + 1 : Nat) : Int) + (f x + sumI f t))
    unfold szl at h2
    omega
theorem cntbSample (x : Sample) : cntSample x ≤ 8 * (1 + Pl.sz0 x) := by
  unfold cntSample sz0
  omega
theorem cntbWindow (x : Window) : cntWindow x ≤ 8 * (1 + Pl.sz0 x) := by
  unfold cntWindow sz0
  omega
theorem cntbTold (x : Told) : cntTold x ≤ 8 * (1 + Pl.szTold x) := by
  have s2 := szStr_nn x.Text
  unfold cntTold szTold
  omega
theorem cntbNote (x : Note) : cntNote x ≤ 8 * (1 + Pl.szNote x) := by
  have s3 := szStr_nn x.What.Text
  unfold cntNote szNote szTold
  omega
theorem cntbTellStep (x : TellStep) : cntTellStep x ≤ 8 * (1 + Pl.szTellStep x) := by
  have s2 := szStr_nn x.Text
  unfold cntTellStep szTellStep
  omega
theorem cntbSnapStep (x : SnapStep) : cntSnapStep x ≤ 8 * (1 + Pl.sz0 x) := by
  unfold cntSnapStep sz0
  omega
theorem cntbSay (x : Say) : cntSay x ≤ 8 * (1 + Pl.szSay x) := by
  have s0 := szStr_nn x.Name
  unfold cntSay szSay
  omega
theorem cntbLabel (x : Label) : cntLabel x ≤ 8 * (1 + Pl.szLabel x) := by
  have s0 := szStr_nn x.Name
  have s1 := szStr_nn x.Value
  unfold cntLabel szLabel
  omega
theorem cntbEntry (x : Entry) : cntEntry x ≤ 8 * (1 + Pl.szEntry x) := by
  have s1 := szStr_nn x.Text
  unfold cntEntry szEntry
  omega
theorem cntbStart (x : Start) : cntStart x ≤ 8 * (1 + Pl.sz0 x) := by
  unfold cntStart sz0
  omega
theorem cntbLetter (x : Letter) : cntLetter x ≤ 8 * (1 + Pl.sz0 x) := by
  unfold cntLetter sz0
  omega
theorem cntbVoteStep (x : VoteStep) : cntVoteStep x ≤ 8 * (1 + Pl.sz0 x) := by
  unfold cntVoteStep sz0
  omega
theorem cntbReplStep (x : ReplStep) : cntReplStep x ≤ 8 * (1 + Pl.szReplStep x) := by
  have s2 := szStr_nn x.Text
  unfold cntReplStep szReplStep
  omega
theorem cntbHouseStep (x : HouseStep) : cntHouseStep x ≤ 8 * (1 + Pl.szHouseStep x) := by
  have s2 := szStr_nn x.What.Name
  unfold cntHouseStep szHouseStep szSay
  omega
theorem cntbToken (x : Token) : cntToken x ≤ 8 * (1 + Pl.sz0 x) := by
  unfold cntToken sz0
  omega
theorem cntbRow (x : Row) : cntRow x ≤ 8 * (1 + Pl.szRow x) := by
  have s0 := szStr_nn x.Name
  have h1 := Pl.cntLb (cnt := Pl.cntSample) (f := Pl.sz0) (Pl.cntbSample) x.Samples
  have s1 := Pl.szl_nn (f := Pl.sz0) (Pl.sz0_nn) x.Samples
  unfold cntRow szRow
  omega
theorem cntbHead (x : Head) : cntHead x ≤ 8 * (1 + Pl.szHead x) := by
  have h0 := Pl.cntLb (cnt := Pl.cntRow) (f := Pl.szRow) (Pl.cntbRow) x.Rows
  have s0 := Pl.szl_nn (f := Pl.szRow) (Pl.szRow_nn) x.Rows
  unfold cntHead szHead
  omega
theorem cntbItem (x : Item) : cntItem x ≤ 8 * (1 + Pl.szItem x) := by
  have h0 := Pl.cntLb (cnt := Pl.cntLabel) (f := Pl.szLabel) (Pl.cntbLabel) x.Labels
  have s0 := Pl.szl_nn (f := Pl.szLabel) (Pl.szLabel_nn) x.Labels
  unfold cntItem szItem
  omega
theorem cntbTotal (x : Total) : cntTotal x ≤ 8 * (1 + Pl.szTotal x) := by
  have h0 := Pl.cntLb (cnt := Pl.cntLabel) (f := Pl.szLabel) (Pl.cntbLabel) x.Labels
  have s0 := Pl.szl_nn (f := Pl.szLabel) (Pl.szLabel_nn) x.Labels
  unfold cntTotal szTotal
  omega
theorem cntbSketch (x : Sketch) : cntSketch x ≤ 8 * (1 + Pl.szSketch x) := by
  have h0 := Pl.cntLb (cnt := (Mm.cntL Pl.cnt1)) (f := (Pl.szl Pl.sz0)) (fun x => by have := Pl.cntLb (cnt := Pl.cnt1) (f := Pl.sz0) (fun x => by have := Pl.sz0_nn x; unfold Pl.cnt1; omega) x; omega) x.Rows
  have s0 := Pl.szl_nn (f := (Pl.szl Pl.sz0)) (Pl.szl_nn (f := Pl.sz0) (Pl.sz0_nn)) x.Rows
  unfold cntSketch szSketch
  omega
theorem cntbHeavy (x : Heavy) : cntHeavy x ≤ 8 * (1 + Pl.szHeavy x) := by
  have h0 := Pl.cntLb (cnt := Pl.cnt1) (f := Pl.szStr) (fun x => by have := Pl.szStr_nn x; unfold Pl.cnt1; omega) x.Names
  have s0 := Pl.szl_nn (f := Pl.szStr) (Pl.szStr_nn) x.Names
  have h1 := Pl.cntLb (cnt := Pl.cnt1) (f := Pl.sz0) (fun x => by have := Pl.sz0_nn x; unfold Pl.cnt1; omega) x.Counts
  have s1 := Pl.szl_nn (f := Pl.sz0) (Pl.sz0_nn) x.Counts
  unfold cntHeavy szHeavy
  omega
theorem cntbPiece (x : Piece) : cntPiece x ≤ 8 * (1 + Pl.szPiece x) := by
  have s1 := szStr_nn x.Bytes
  have h2 := Pl.cntLb (cnt := Pl.cnt1) (f := Pl.sz0) (fun x => by have := Pl.sz0_nn x; unfold Pl.cnt1; omega) x.Index
  have s2 := Pl.szl_nn (f := Pl.sz0) (Pl.sz0_nn) x.Index
  unfold cntPiece szPiece
  omega
theorem cntbLog (x : Log) : cntLog x ≤ 8 * (1 + Pl.szLog x) := by
  have h0 := Pl.cntLb (cnt := Pl.cntPiece) (f := Pl.szPiece) (Pl.cntbPiece) x.Pieces
  have s0 := Pl.szl_nn (f := Pl.szPiece) (Pl.szPiece_nn) x.Pieces
  unfold cntLog szLog
  omega
theorem cntbHouse (x : House) : cntHouse x ≤ 8 * (1 + Pl.szHouse x) := by
  have h0 := Pl.cntLb (cnt := Pl.cntLog) (f := Pl.szLog) (Pl.cntbLog) x.Logs
  have s0 := Pl.szl_nn (f := Pl.szLog) (Pl.szLog_nn) x.Logs
  have h1 := Pl.cntLb (cnt := Pl.cntHead) (f := Pl.szHead) (Pl.cntbHead) x.Heads
  have s1 := Pl.szl_nn (f := Pl.szHead) (Pl.szHead_nn) x.Heads
  have h2 := Pl.cntLb (cnt := Pl.cntHead) (f := Pl.szHead) (Pl.cntbHead) x.Kept
  have s2 := Pl.szl_nn (f := Pl.szHead) (Pl.szHead_nn) x.Kept
  unfold cntHouse szHouse
  omega
theorem cntbTell (x : Tell) : cntTell x ≤ 8 * (1 + Pl.szTell x) := by
  have h0 := Pl.cntLb (cnt := (Mm.cntL Pl.cnt1)) (f := (Pl.szl Pl.szStr)) (fun x => by have := Pl.cntLb (cnt := Pl.cnt1) (f := Pl.szStr) (fun x => by have := Pl.szStr_nn x; unfold Pl.cnt1; omega) x; omega) x.Texts
  have s0 := Pl.szl_nn (f := (Pl.szl Pl.szStr)) (Pl.szl_nn (f := Pl.szStr) (Pl.szStr_nn)) x.Texts
  have h1 := Pl.cntLb (cnt := Pl.cnt1) (f := Pl.sz0) (fun x => by have := Pl.sz0_nn x; unfold Pl.cnt1; omega) x.Heard
  have s1 := Pl.szl_nn (f := Pl.sz0) (Pl.sz0_nn) x.Heard
  have h2 := Pl.cntLb (cnt := Pl.cntNote) (f := Pl.szNote) (Pl.cntbNote) x.Line
  have s2 := Pl.szl_nn (f := Pl.szNote) (Pl.szNote_nn) x.Line
  have h3 := Pl.cntLb (cnt := Pl.cntTold) (f := Pl.szTold) (Pl.cntbTold) x.Log
  have s3 := Pl.szl_nn (f := Pl.szTold) (Pl.szTold_nn) x.Log
  have h4 := Pl.cntLb (cnt := Pl.cnt1) (f := Pl.sz0) (fun x => by have := Pl.sz0_nn x; unfold Pl.cnt1; omega) x.Next
  have s4 := Pl.szl_nn (f := Pl.sz0) (Pl.sz0_nn) x.Next
  unfold cntTell szTell
  omega
theorem cntbBank (x : Bank) : cntBank x ≤ 8 * (1 + Pl.szBank x) := by
  have h0 := Pl.cntLb (cnt := Pl.cnt1) (f := Pl.sz0) (fun x => by have := Pl.sz0_nn x; unfold Pl.cnt1; omega) x.Coins
  have s0 := Pl.szl_nn (f := Pl.sz0) (Pl.sz0_nn) x.Coins
  have h1 := Pl.cntLb (cnt := (Mm.cntL Pl.cnt1)) (f := (Pl.szl Pl.sz0)) (fun x => by have := Pl.cntLb (cnt := Pl.cnt1) (f := Pl.sz0) (fun x => by have := Pl.sz0_nn x; unfold Pl.cnt1; omega) x; omega) x.Ways
  have s1 := Pl.szl_nn (f := (Pl.szl Pl.sz0)) (Pl.szl_nn (f := Pl.sz0) (Pl.sz0_nn)) x.Ways
  have h2 := Pl.cntLb (cnt := Pl.cnt1) (f := Pl.sz0) (fun x => by have := Pl.sz0_nn x; unfold Pl.cnt1; omega) x.Kept
  have s2 := Pl.szl_nn (f := Pl.sz0) (Pl.sz0_nn) x.Kept
  have h3 := Pl.cntLb (cnt := (Mm.cntL Pl.cnt1)) (f := (Pl.szl Pl.sz0)) (fun x => by have := Pl.cntLb (cnt := Pl.cnt1) (f := Pl.sz0) (fun x => by have := Pl.sz0_nn x; unfold Pl.cnt1; omega) x; omega) x.Heard
  have s3 := Pl.szl_nn (f := (Pl.szl Pl.sz0)) (Pl.szl_nn (f := Pl.sz0) (Pl.sz0_nn)) x.Heard
  have h4 := Pl.cntLb (cnt := (Mm.cntL Pl.cnt1)) (f := (Pl.szl Pl.sz0)) (fun x => by have := Pl.cntLb (cnt := Pl.cnt1) (f := Pl.sz0) (fun x => by have := Pl.sz0_nn x; unfold Pl.cnt1; omega) x; omega) x.Found
  have s4 := Pl.szl_nn (f := (Pl.szl Pl.sz0)) (Pl.szl_nn (f := Pl.sz0) (Pl.sz0_nn)) x.Found
  unfold cntBank szBank
  omega
theorem cntbNode (x : Node) : cntNode x ≤ 8 * (1 + Pl.szNode x) := by
  have h3 := Pl.cntLb (cnt := Pl.cnt1) (f := Pl.sz0) (fun x => by have := Pl.sz0_nn x; unfold Pl.cnt1; omega) x.Heard
  have s3 := Pl.szl_nn (f := Pl.sz0) (Pl.sz0_nn) x.Heard
  unfold cntNode szNode
  omega
theorem cntbPoll (x : Poll) : cntPoll x ≤ 8 * (1 + Pl.szPoll x) := by
  have h0 := Pl.cntLb (cnt := Pl.cntNode) (f := Pl.szNode) (Pl.cntbNode) x.Nodes
  have s0 := Pl.szl_nn (f := Pl.szNode) (Pl.szNode_nn) x.Nodes
  have h1 := Pl.cntLb (cnt := Pl.cntLetter) (f := Pl.sz0) (Pl.cntbLetter) x.Letters
  have s1 := Pl.szl_nn (f := Pl.sz0) (Pl.sz0_nn) x.Letters
  have h2 := Pl.cntLb (cnt := (Mm.cntL Pl.cnt1)) (f := (Pl.szl Pl.sz0)) (fun x => by have := Pl.cntLb (cnt := Pl.cnt1) (f := Pl.sz0) (fun x => by have := Pl.sz0_nn x; unfold Pl.cnt1; omega) x; omega) x.Leaders
  have s2 := Pl.szl_nn (f := (Pl.szl Pl.sz0)) (Pl.szl_nn (f := Pl.sz0) (Pl.sz0_nn)) x.Leaders
  unfold cntPoll szPoll
  omega
theorem cntbRepl (x : Repl) : cntRepl x ≤ 8 * (1 + Pl.szRepl x) := by
  have h0 := Pl.cntLb (cnt := (Mm.cntL Pl.cntEntry)) (f := (Pl.szl Pl.szEntry)) (fun x => by have := Pl.cntLb (cnt := Pl.cntEntry) (f := Pl.szEntry) (Pl.cntbEntry) x; omega) x.Logs
  have s0 := Pl.szl_nn (f := (Pl.szl Pl.szEntry)) (Pl.szl_nn (f := Pl.szEntry) (Pl.szEntry_nn)) x.Logs
  have h1 := Pl.cntLb (cnt := Pl.cnt1) (f := Pl.sz0) (fun x => by have := Pl.sz0_nn x; unfold Pl.cnt1; omega) x.Down
  have s1 := Pl.szl_nn (f := Pl.sz0) (Pl.sz0_nn) x.Down
  have h4 := Pl.cntLb (cnt := Pl.cnt1) (f := Pl.sz0) (fun x => by have := Pl.sz0_nn x; unfold Pl.cnt1; omega) x.InSync
  have s4 := Pl.szl_nn (f := Pl.sz0) (Pl.sz0_nn) x.InSync
  have h5 := Pl.cntLb (cnt := Pl.cntEntry) (f := Pl.szEntry) (Pl.cntbEntry) x.Certain
  have s5 := Pl.szl_nn (f := Pl.szEntry) (Pl.szEntry_nn) x.Certain
  unfold cntRepl szRepl
  omega
theorem ctopSketch_nn (x : Sketch) : 0 ≤ ctopSketch x := by
  have h0 := Mm.cntL_nn (cnt := (Mm.cntL Pl.cnt1)) (Mm.cntL_nn (cnt := Pl.cnt1) (Pl.cnt1_nn)) x.Rows
  unfold ctopSketch; omega
theorem ctopbSketch (x : Sketch) : ctopSketch x ≤ 8 * Pl.szSketch x := by
  have h0 := Pl.cntLb (cnt := (Mm.cntL Pl.cnt1)) (f := (Pl.szl Pl.sz0)) (fun x => by have := Pl.cntLb (cnt := Pl.cnt1) (f := Pl.sz0) (fun x => by have := Pl.sz0_nn x; unfold Pl.cnt1; omega) x; omega) x.Rows
  unfold ctopSketch szSketch; omega
theorem ctopHeavy_nn (x : Heavy) : 0 ≤ ctopHeavy x := by
  have h0 := Mm.cntL_nn (cnt := Pl.cnt1) (Pl.cnt1_nn) x.Names
  have h1 := Mm.cntL_nn (cnt := Pl.cnt1) (Pl.cnt1_nn) x.Counts
  unfold ctopHeavy; omega
theorem ctopbHeavy (x : Heavy) : ctopHeavy x ≤ 8 * Pl.szHeavy x := by
  have h0 := Pl.cntLb (cnt := Pl.cnt1) (f := Pl.szStr) (fun x => by have := Pl.szStr_nn x; unfold Pl.cnt1; omega) x.Names
  have h1 := Pl.cntLb (cnt := Pl.cnt1) (f := Pl.sz0) (fun x => by have := Pl.sz0_nn x; unfold Pl.cnt1; omega) x.Counts
  unfold ctopHeavy szHeavy; omega
theorem ctopHead_nn (x : Head) : 0 ≤ ctopHead x := by
  have h0 := Mm.cntL_nn (cnt := Pl.cntRow) (Pl.cntRow_nn) x.Rows
  unfold ctopHead; omega
theorem ctopbHead (x : Head) : ctopHead x ≤ 8 * Pl.szHead x := by
  have h0 := Pl.cntLb (cnt := Pl.cntRow) (f := Pl.szRow) (Pl.cntbRow) x.Rows
  unfold ctopHead szHead; omega
theorem ctopLog_nn (x : Log) : 0 ≤ ctopLog x := by
  have h0 := Mm.cntL_nn (cnt := Pl.cntPiece) (Pl.cntPiece_nn) x.Pieces
  unfold ctopLog; omega
theorem ctopbLog (x : Log) : ctopLog x ≤ 8 * Pl.szLog x := by
  have h0 := Pl.cntLb (cnt := Pl.cntPiece) (f := Pl.szPiece) (Pl.cntbPiece) x.Pieces
  unfold ctopLog szLog; omega
theorem ctopTell_nn (x : Tell) : 0 ≤ ctopTell x := by
  have h0 := Mm.cntL_nn (cnt := (Mm.cntL Pl.cnt1)) (Mm.cntL_nn (cnt := Pl.cnt1) (Pl.cnt1_nn)) x.Texts
  have h1 := Mm.cntL_nn (cnt := Pl.cnt1) (Pl.cnt1_nn) x.Heard
  have h2 := Mm.cntL_nn (cnt := Pl.cntNote) (Pl.cntNote_nn) x.Line
  have h3 := Mm.cntL_nn (cnt := Pl.cntTold) (Pl.cntTold_nn) x.Log
  have h4 := Mm.cntL_nn (cnt := Pl.cnt1) (Pl.cnt1_nn) x.Next
  unfold ctopTell; omega
theorem ctopbTell (x : Tell) : ctopTell x ≤ 8 * Pl.szTell x := by
  have h0 := Pl.cntLb (cnt := (Mm.cntL Pl.cnt1)) (f := (Pl.szl Pl.szStr)) (fun x => by have := Pl.cntLb (cnt := Pl.cnt1) (f := Pl.szStr) (fun x => by have := Pl.szStr_nn x; unfold Pl.cnt1; omega) x; omega) x.Texts
  have h1 := Pl.cntLb (cnt := Pl.cnt1) (f := Pl.sz0) (fun x => by have := Pl.sz0_nn x; unfold Pl.cnt1; omega) x.Heard
  have h2 := Pl.cntLb (cnt := Pl.cntNote) (f := Pl.szNote) (Pl.cntbNote) x.Line
  have h3 := Pl.cntLb (cnt := Pl.cntTold) (f := Pl.szTold) (Pl.cntbTold) x.Log
  have h4 := Pl.cntLb (cnt := Pl.cnt1) (f := Pl.sz0) (fun x => by have := Pl.sz0_nn x; unfold Pl.cnt1; omega) x.Next
  unfold ctopTell szTell; omega
theorem ctopBank_nn (x : Bank) : 0 ≤ ctopBank x := by
  have h0 := Mm.cntL_nn (cnt := Pl.cnt1) (Pl.cnt1_nn) x.Coins
  have h1 := Mm.cntL_nn (cnt := (Mm.cntL Pl.cnt1)) (Mm.cntL_nn (cnt := Pl.cnt1) (Pl.cnt1_nn)) x.Ways
  have h2 := Mm.cntL_nn (cnt := Pl.cnt1) (Pl.cnt1_nn) x.Kept
  have h3 := Mm.cntL_nn (cnt := (Mm.cntL Pl.cnt1)) (Mm.cntL_nn (cnt := Pl.cnt1) (Pl.cnt1_nn)) x.Heard
  have h4 := Mm.cntL_nn (cnt := (Mm.cntL Pl.cnt1)) (Mm.cntL_nn (cnt := Pl.cnt1) (Pl.cnt1_nn)) x.Found
  unfold ctopBank; omega
theorem ctopbBank (x : Bank) : ctopBank x ≤ 8 * Pl.szBank x := by
  have h0 := Pl.cntLb (cnt := Pl.cnt1) (f := Pl.sz0) (fun x => by have := Pl.sz0_nn x; unfold Pl.cnt1; omega) x.Coins
  have h1 := Pl.cntLb (cnt := (Mm.cntL Pl.cnt1)) (f := (Pl.szl Pl.sz0)) (fun x => by have := Pl.cntLb (cnt := Pl.cnt1) (f := Pl.sz0) (fun x => by have := Pl.sz0_nn x; unfold Pl.cnt1; omega) x; omega) x.Ways
  have h2 := Pl.cntLb (cnt := Pl.cnt1) (f := Pl.sz0) (fun x => by have := Pl.sz0_nn x; unfold Pl.cnt1; omega) x.Kept
  have h3 := Pl.cntLb (cnt := (Mm.cntL Pl.cnt1)) (f := (Pl.szl Pl.sz0)) (fun x => by have := Pl.cntLb (cnt := Pl.cnt1) (f := Pl.sz0) (fun x => by have := Pl.sz0_nn x; unfold Pl.cnt1; omega) x; omega) x.Heard
  have h4 := Pl.cntLb (cnt := (Mm.cntL Pl.cnt1)) (f := (Pl.szl Pl.sz0)) (fun x => by have := Pl.cntLb (cnt := Pl.cnt1) (f := Pl.sz0) (fun x => by have := Pl.sz0_nn x; unfold Pl.cnt1; omega) x; omega) x.Found
  unfold ctopBank szBank; omega
theorem ctopHouse_nn (x : House) : 0 ≤ ctopHouse x := by
  have h0 := Mm.cntL_nn (cnt := Pl.cntLog) (Pl.cntLog_nn) x.Logs
  have h1 := Mm.cntL_nn (cnt := Pl.cntHead) (Pl.cntHead_nn) x.Heads
  have h2 := Mm.cntL_nn (cnt := Pl.cntHead) (Pl.cntHead_nn) x.Kept
  unfold ctopHouse; omega
theorem ctopbHouse (x : House) : ctopHouse x ≤ 8 * Pl.szHouse x := by
  have h0 := Pl.cntLb (cnt := Pl.cntLog) (f := Pl.szLog) (Pl.cntbLog) x.Logs
  have h1 := Pl.cntLb (cnt := Pl.cntHead) (f := Pl.szHead) (Pl.cntbHead) x.Heads
  have h2 := Pl.cntLb (cnt := Pl.cntHead) (f := Pl.szHead) (Pl.cntbHead) x.Kept
  unfold ctopHouse szHouse; omega
theorem ctopPoll_nn (x : Poll) : 0 ≤ ctopPoll x := by
  have h0 := Mm.cntL_nn (cnt := Pl.cntNode) (Pl.cntNode_nn) x.Nodes
  have h1 := Mm.cntL_nn (cnt := Pl.cntLetter) (Pl.cntLetter_nn) x.Letters
  have h2 := Mm.cntL_nn (cnt := (Mm.cntL Pl.cnt1)) (Mm.cntL_nn (cnt := Pl.cnt1) (Pl.cnt1_nn)) x.Leaders
  unfold ctopPoll; omega
theorem ctopbPoll (x : Poll) : ctopPoll x ≤ 8 * Pl.szPoll x := by
  have h0 := Pl.cntLb (cnt := Pl.cntNode) (f := Pl.szNode) (Pl.cntbNode) x.Nodes
  have h1 := Pl.cntLb (cnt := Pl.cntLetter) (f := Pl.sz0) (Pl.cntbLetter) x.Letters
  have h2 := Pl.cntLb (cnt := (Mm.cntL Pl.cnt1)) (f := (Pl.szl Pl.sz0)) (fun x => by have := Pl.cntLb (cnt := Pl.cnt1) (f := Pl.sz0) (fun x => by have := Pl.sz0_nn x; unfold Pl.cnt1; omega) x; omega) x.Leaders
  unfold ctopPoll szPoll; omega
theorem ctopRepl_nn (x : Repl) : 0 ≤ ctopRepl x := by
  have h0 := Mm.cntL_nn (cnt := (Mm.cntL Pl.cntEntry)) (Mm.cntL_nn (cnt := Pl.cntEntry) (Pl.cntEntry_nn)) x.Logs
  have h1 := Mm.cntL_nn (cnt := Pl.cnt1) (Pl.cnt1_nn) x.Down
  have h2 := Mm.cntL_nn (cnt := Pl.cnt1) (Pl.cnt1_nn) x.InSync
  have h3 := Mm.cntL_nn (cnt := Pl.cntEntry) (Pl.cntEntry_nn) x.Certain
  unfold ctopRepl; omega
theorem ctopbRepl (x : Repl) : ctopRepl x ≤ 8 * Pl.szRepl x := by
  have h0 := Pl.cntLb (cnt := (Mm.cntL Pl.cntEntry)) (f := (Pl.szl Pl.szEntry)) (fun x => by have := Pl.cntLb (cnt := Pl.cntEntry) (f := Pl.szEntry) (Pl.cntbEntry) x; omega) x.Logs
  have h1 := Pl.cntLb (cnt := Pl.cnt1) (f := Pl.sz0) (fun x => by have := Pl.sz0_nn x; unfold Pl.cnt1; omega) x.Down
  have h2 := Pl.cntLb (cnt := Pl.cnt1) (f := Pl.sz0) (fun x => by have := Pl.sz0_nn x; unfold Pl.cnt1; omega) x.InSync
  have h3 := Pl.cntLb (cnt := Pl.cntEntry) (f := Pl.szEntry) (Pl.cntbEntry) x.Certain
  unfold ctopRepl szRepl; omega
end Pl
namespace Pl
theorem digs_len : ∀ (f k : Nat) (acc : List UInt8), (digs f k acc).length ≤ acc.length + f
  | 0, _, acc => by simp [digs]
  | f + 1, k, acc => by
    unfold digs
    split
    · omega
    · have := digs_len f (k / 10) (UInt8.ofNat (48 + k % 10) :: acc)
      rw [List.length_cons] at this
      omega
theorem mkText_len (k : Int) (h0 : 0 ≤ k) (h1 : k ≤ 1000000000000) : (mkText k).size ≤ maxLen := by
  unfold mkText
  have := digs_len k.toNat k.toNat []
  show (109 :: digs k.toNat k.toNat []).toArray.size ≤ maxLen
  rw [List.size_toArray, List.length_cons]
  unfold maxLen
  simp only [List.length_nil] at this
  omega
end Pl
end Go.Proofs.YtbhmdnjammnlnaaGreatDoor

/-
  How the program's types lie in memory. No conditions.
-/
namespace Go.Proofs.YtbhmdnjammnlnaaGreatDoor
def smp : Mm.Rep Sample := Mm.flat 2 (fun x => [.int .i64 x.At, .int .i64 x.Value]) (fun x => Mm.I64 x.At ∧ Mm.I64 x.Value) (fun _ => rfl) (fun _ u hu => by
  simp at hu; rcases hu with rfl | rfl <;> rfl)
theorem smp_at {w : World} {B : Nat} {x : Sample} {cs : List Value} (h : smp.at_ w B x cs) : cs = [.int .i64 x.At, .int .i64 x.Value] ∧ Mm.I64 x.At ∧ Mm.I64 x.Value := h
theorem smp_own {w : World} {x : Sample} {cs : List Value} {fp : List Nat} (h : smp.own w x cs fp) : cs = [.int .i64 x.At, .int .i64 x.Value] ∧ (Mm.I64 x.At ∧ Mm.I64 x.Value) ∧ fp = [] := h
theorem smp_own_mk {w : World} {x : Sample} (h : Mm.I64 x.At ∧ Mm.I64 x.Value) : smp.own w x [.int .i64 x.At, .int .i64 x.Value] [] := ⟨rfl, h, rfl⟩
def rSay : Mm.Rep Say := Mm.flat 3 (fun x => [.string x.Name, .int .i64 x.At, .int .i64 x.Value]) (fun x => x.Name.size ≤ maxLen ∧ Mm.I64 x.At ∧ Mm.I64 x.Value) (fun _ => rfl) (fun _ u hu => by
  simp at hu; rcases hu with rfl | rfl | rfl <;> rfl)
theorem rSay_at {w : World} {B : Nat} {x : Say} {cs : List Value} (h : rSay.at_ w B x cs) : cs = [.string x.Name, .int .i64 x.At, .int .i64 x.Value] ∧ x.Name.size ≤ maxLen ∧ Mm.I64 x.At ∧ Mm.I64 x.Value := h
theorem rSay_own {w : World} {x : Say} {cs : List Value} {fp : List Nat} (h : rSay.own w x cs fp) : cs = [.string x.Name, .int .i64 x.At, .int .i64 x.Value] ∧ (x.Name.size ≤ maxLen ∧ Mm.I64 x.At ∧ Mm.I64 x.Value) ∧ fp = [] := h
theorem rSay_own_mk {w : World} {x : Say} (h : x.Name.size ≤ maxLen ∧ Mm.I64 x.At ∧ Mm.I64 x.Value) : rSay.own w x [.string x.Name, .int .i64 x.At, .int .i64 x.Value] [] := ⟨rfl, h, rfl⟩
def rHouseStep : Mm.Rep HouseStep := Mm.flat 5 (fun x => [.int .i64 x.Kind, .int .i64 x.Part, .string x.What.Name, .int .i64 x.What.At, .int .i64 x.What.Value]) (fun x => Mm.I64 x.Kind ∧ Mm.I64 x.Part ∧ x.What.Name.size ≤ maxLen ∧ Mm.I64 x.What.At ∧ Mm.I64 x.What.Value) (fun _ => rfl) (fun _ u hu => by
  simp at hu; rcases hu with rfl | rfl | rfl | rfl | rfl <;> rfl)
theorem rHouseStep_at {w : World} {B : Nat} {x : HouseStep} {cs : List Value} (h : rHouseStep.at_ w B x cs) : cs = [.int .i64 x.Kind, .int .i64 x.Part, .string x.What.Name, .int .i64 x.What.At, .int .i64 x.What.Value] ∧ Mm.I64 x.Kind ∧ Mm.I64 x.Part ∧ x.What.Name.size ≤ maxLen ∧ Mm.I64 x.What.At ∧ Mm.I64 x.What.Value := h
theorem rHouseStep_own {w : World} {x : HouseStep} {cs : List Value} {fp : List Nat} (h : rHouseStep.own w x cs fp) : cs = [.int .i64 x.Kind, .int .i64 x.Part, .string x.What.Name, .int .i64 x.What.At, .int .i64 x.What.Value] ∧ (Mm.I64 x.Kind ∧ Mm.I64 x.Part ∧ x.What.Name.size ≤ maxLen ∧ Mm.I64 x.What.At ∧ Mm.I64 x.What.Value) ∧ fp = [] := h
theorem rHouseStep_own_mk {w : World} {x : HouseStep} (h : Mm.I64 x.Kind ∧ Mm.I64 x.Part ∧ x.What.Name.size ≤ maxLen ∧ Mm.I64 x.What.At ∧ Mm.I64 x.What.Value) : rHouseStep.own w x [.int .i64 x.Kind, .int .i64 x.Part, .string x.What.Name, .int .i64 x.What.At, .int .i64 x.What.Value] [] := ⟨rfl, h, rfl⟩
def rSampleS : Mm.Rep (List Sample) := Mm.slice smp 124
def rRow : Mm.Rep Row := Mm.iso (fun x => (x.Name, x.Samples)) (Mm.pair Mm.str rSampleS)
theorem rRow_at {w : World} {B : Nat} {x : Row} {cs : List Value} (h : rRow.at_ w B x cs) : ∃ A n c, cs = [.string x.Name, .slice A n c] ∧ x.Name.size ≤ maxLen ∧ Mm.SlAt smp w B x.Samples A n c := by
  obtain ⟨_, _, rfl, ⟨rfl, h0⟩, ⟨A, n, c, rfl, h1⟩⟩ := h
  exact ⟨A, n, c, rfl, h0, h1⟩
theorem rRow_at_mk {w : World} {B : Nat} {x : Row} {A : Option Addr} {n c : Nat} (g0 : x.Name.size ≤ maxLen) (g1 : Mm.SlAt smp w B x.Samples A n c) : rRow.at_ w B x [.string x.Name, .slice A n c] :=
  ⟨_, _, rfl, ⟨rfl, g0⟩, ⟨A, n, c, rfl, g1⟩⟩
theorem rRow_own {w : World} {x : Row} {cs : List Value} {fp : List Nat} (h : rRow.own w x cs fp) : ∃ A n c f, cs = [.string x.Name, .slice A n c] ∧ fp = f ∧ x.Name.size ≤ maxLen ∧ Mm.SlOwn smp 124 w x.Samples (.slice A n c) f := by
  obtain ⟨_, _, _, _, rfl, rfl, ⟨rfl, h0, rfl⟩, ⟨v1, rfl, h1⟩⟩ := h
  obtain ⟨A, n, c, rfl, _⟩ := h1.form
  exact ⟨A, n, c, _, rfl, by simp, h0, h1⟩
theorem rRow_own_mk {w : World} {x : Row} {A : Option Addr} {n c : Nat} {f : List Nat} (g0 : x.Name.size ≤ maxLen) (g1 : Mm.SlOwn smp 124 w x.Samples (.slice A n c) f) : rRow.own w x [.string x.Name, .slice A n c] (f) := by
  have h : rRow.own w x _ _ := ⟨_, _, _, _, rfl, rfl, ⟨rfl, g0, rfl⟩, ⟨_, rfl, g1⟩⟩
  simpa using h
def rRowS : Mm.Rep (List Row) := Mm.slice rRow 139
def rHead : Mm.Rep Head := Mm.iso (fun x => (x.Rows, x.Offset)) (Mm.pair rRowS Mm.int)
theorem rHead_at {w : World} {B : Nat} {x : Head} {cs : List Value} (h : rHead.at_ w B x cs) : ∃ A n c, cs = [.slice A n c, .int .i64 x.Offset] ∧ Mm.SlAt rRow w B x.Rows A n c ∧ Mm.I64 x.Offset := by
  obtain ⟨_, _, rfl, ⟨A, n, c, rfl, h0⟩, ⟨rfl, h1⟩⟩ := h
  exact ⟨A, n, c, rfl, h0, h1⟩
theorem rHead_at_mk {w : World} {B : Nat} {x : Head} {A : Option Addr} {n c : Nat} (g0 : Mm.SlAt rRow w B x.Rows A n c) (g1 : Mm.I64 x.Offset) : rHead.at_ w B x [.slice A n c, .int .i64 x.Offset] :=
  ⟨_, _, rfl, ⟨A, n, c, rfl, g0⟩, ⟨rfl, g1⟩⟩
theorem rHead_own {w : World} {x : Head} {cs : List Value} {fp : List Nat} (h : rHead.own w x cs fp) : ∃ A n c f, cs = [.slice A n c, .int .i64 x.Offset] ∧ fp = f ∧ Mm.SlOwn rRow 139 w x.Rows (.slice A n c) f ∧ Mm.I64 x.Offset := by
  obtain ⟨_, _, _, _, rfl, rfl, ⟨v0, rfl, h0⟩, ⟨rfl, h1, rfl⟩⟩ := h
  obtain ⟨A, n, c, rfl, _⟩ := h0.form
  exact ⟨A, n, c, _, rfl, by simp, h0, h1⟩
theorem rHead_own_mk {w : World} {x : Head} {A : Option Addr} {n c : Nat} {f : List Nat} (g0 : Mm.SlOwn rRow 139 w x.Rows (.slice A n c) f) (g1 : Mm.I64 x.Offset) : rHead.own w x [.slice A n c, .int .i64 x.Offset] (f) := by
  have h : rHead.own w x _ _ := ⟨_, _, _, _, rfl, rfl, ⟨_, rfl, g0⟩, ⟨rfl, g1, rfl⟩⟩
  simpa using h
def ints : Mm.Rep (List Int) := Mm.slice Mm.int 3
def strs : Mm.Rep (List ByteArray) := Mm.slice Mm.str 9
def rPiece : Mm.Rep Piece := Mm.iso (fun x => (x.From, (x.Bytes, x.Index))) (Mm.pair Mm.int (Mm.pair Mm.str ints))
theorem rPiece_at {w : World} {B : Nat} {x : Piece} {cs : List Value} (h : rPiece.at_ w B x cs) : ∃ A n c, cs = [.int .i64 x.From, .string x.Bytes, .slice A n c] ∧ Mm.I64 x.From ∧ x.Bytes.size ≤ maxLen ∧ Mm.SlAt Mm.int w B x.Index A n c := by
  obtain ⟨_, _, rfl, ⟨rfl, h0⟩, ⟨_, _, rfl, ⟨rfl, h1⟩, ⟨A, n, c, rfl, h2⟩⟩⟩ := h
  exact ⟨A, n, c, rfl, h0, h1, h2⟩
theorem rPiece_at_mk {w : World} {B : Nat} {x : Piece} {A : Option Addr} {n c : Nat} (g0 : Mm.I64 x.From) (g1 : x.Bytes.size ≤ maxLen) (g2 : Mm.SlAt Mm.int w B x.Index A n c) : rPiece.at_ w B x [.int .i64 x.From, .string x.Bytes, .slice A n c] :=
  ⟨_, _, rfl, ⟨rfl, g0⟩, ⟨_, _, rfl, ⟨rfl, g1⟩, ⟨A, n, c, rfl, g2⟩⟩⟩
theorem rPiece_own {w : World} {x : Piece} {cs : List Value} {fp : List Nat} (h : rPiece.own w x cs fp) : ∃ A n c f, cs = [.int .i64 x.From, .string x.Bytes, .slice A n c] ∧ fp = f ∧ Mm.I64 x.From ∧ x.Bytes.size ≤ maxLen ∧ Mm.SlOwn Mm.int 3 w x.Index (.slice A n c) f := by
  obtain ⟨_, _, _, _, rfl, rfl, ⟨rfl, h0, rfl⟩, ⟨_, _, _, _, rfl, rfl, ⟨rfl, h1, rfl⟩, ⟨v2, rfl, h2⟩⟩⟩ := h
  obtain ⟨A, n, c, rfl, _⟩ := h2.form
  exact ⟨A, n, c, _, rfl, by simp, h0, h1, h2⟩
theorem rPiece_own_mk {w : World} {x : Piece} {A : Option Addr} {n c : Nat} {f : List Nat} (g0 : Mm.I64 x.From) (g1 : x.Bytes.size ≤ maxLen) (g2 : Mm.SlOwn Mm.int 3 w x.Index (.slice A n c) f) : rPiece.own w x [.int .i64 x.From, .string x.Bytes, .slice A n c] (f) := by
  have h : rPiece.own w x _ _ := ⟨_, _, _, _, rfl, rfl, ⟨rfl, g0, rfl⟩, ⟨_, _, _, _, rfl, rfl, ⟨rfl, g1, rfl⟩, ⟨_, rfl, g2⟩⟩⟩
  simpa using h
def rPieceS : Mm.Rep (List Piece) := Mm.slice rPiece 164
def rLog : Mm.Rep Log := Mm.iso (fun x => (x.Pieces, x.Begin)) (Mm.pair rPieceS Mm.int)
theorem rLog_at {w : World} {B : Nat} {x : Log} {cs : List Value} (h : rLog.at_ w B x cs) : ∃ A n c, cs = [.slice A n c, .int .i64 x.Begin] ∧ Mm.SlAt rPiece w B x.Pieces A n c ∧ Mm.I64 x.Begin := by
  obtain ⟨_, _, rfl, ⟨A, n, c, rfl, h0⟩, ⟨rfl, h1⟩⟩ := h
  exact ⟨A, n, c, rfl, h0, h1⟩
theorem rLog_at_mk {w : World} {B : Nat} {x : Log} {A : Option Addr} {n c : Nat} (g0 : Mm.SlAt rPiece w B x.Pieces A n c) (g1 : Mm.I64 x.Begin) : rLog.at_ w B x [.slice A n c, .int .i64 x.Begin] :=
  ⟨_, _, rfl, ⟨A, n, c, rfl, g0⟩, ⟨rfl, g1⟩⟩
theorem rLog_own {w : World} {x : Log} {cs : List Value} {fp : List Nat} (h : rLog.own w x cs fp) : ∃ A n c f, cs = [.slice A n c, .int .i64 x.Begin] ∧ fp = f ∧ Mm.SlOwn rPiece 164 w x.Pieces (.slice A n c) f ∧ Mm.I64 x.Begin := by
  obtain ⟨_, _, _, _, rfl, rfl, ⟨v0, rfl, h0⟩, ⟨rfl, h1, rfl⟩⟩ := h
  obtain ⟨A, n, c, rfl, _⟩ := h0.form
  exact ⟨A, n, c, _, rfl, by simp, h0, h1⟩
theorem rLog_own_mk {w : World} {x : Log} {A : Option Addr} {n c : Nat} {f : List Nat} (g0 : Mm.SlOwn rPiece 164 w x.Pieces (.slice A n c) f) (g1 : Mm.I64 x.Begin) : rLog.own w x [.slice A n c, .int .i64 x.Begin] (f) := by
  have h : rLog.own w x _ _ := ⟨_, _, _, _, rfl, rfl, ⟨_, rfl, g0⟩, ⟨rfl, g1, rfl⟩⟩
  simpa using h
def rLogS : Mm.Rep (List Log) := Mm.slice rLog 80
def rHeadS : Mm.Rep (List Head) := Mm.slice rHead 73
def rHouse : Mm.Rep House := Mm.iso (fun x => (x.Logs, (x.Heads, x.Kept))) (Mm.pair rLogS (Mm.pair rHeadS rHeadS))
theorem rHouse_at {w : World} {B : Nat} {x : House} {cs : List Value} (h : rHouse.at_ w B x cs) : ∃ A0 n0 c0 A1 n1 c1 A2 n2 c2, cs = [.slice A0 n0 c0, .slice A1 n1 c1, .slice A2 n2 c2] ∧ Mm.SlAt rLog w B x.Logs A0 n0 c0 ∧ Mm.SlAt rHead w B x.Heads A1 n1 c1 ∧ Mm.SlAt rHead w B x.Kept A2 n2 c2 := by
  obtain ⟨_, _, rfl, ⟨A0, n0, c0, rfl, h0⟩, ⟨_, _, rfl, ⟨A1, n1, c1, rfl, h1⟩, ⟨A2, n2, c2, rfl, h2⟩⟩⟩ := h
  exact ⟨A0, n0, c0, A1, n1, c1, A2, n2, c2, rfl, h0, h1, h2⟩
theorem rHouse_at_mk {w : World} {B : Nat} {x : House} {A0 : Option Addr} {n0 c0 : Nat} {A1 : Option Addr} {n1 c1 : Nat} {A2 : Option Addr} {n2 c2 : Nat} (g0 : Mm.SlAt rLog w B x.Logs A0 n0 c0) (g1 : Mm.SlAt rHead w B x.Heads A1 n1 c1) (g2 : Mm.SlAt rHead w B x.Kept A2 n2 c2) : rHouse.at_ w B x [.slice A0 n0 c0, .slice A1 n1 c1, .slice A2 n2 c2] :=
  ⟨_, _, rfl, ⟨A0, n0, c0, rfl, g0⟩, ⟨_, _, rfl, ⟨A1, n1, c1, rfl, g1⟩, ⟨A2, n2, c2, rfl, g2⟩⟩⟩
theorem rHouse_own {w : World} {x : House} {cs : List Value} {fp : List Nat} (h : rHouse.own w x cs fp) : ∃ A0 n0 c0 A1 n1 c1 A2 n2 c2 f0 f1 f2, cs = [.slice A0 n0 c0, .slice A1 n1 c1, .slice A2 n2 c2] ∧ fp = f0 ++ (f1 ++ f2) ∧ Mm.SlOwn rLog 80 w x.Logs (.slice A0 n0 c0) f0 ∧ Mm.SlOwn rHead 73 w x.Heads (.slice A1 n1 c1) f1 ∧ Mm.SlOwn rHead 73 w x.Kept (.slice A2 n2 c2) f2 := by
  obtain ⟨_, _, _, _, rfl, rfl, ⟨v0, rfl, h0⟩, ⟨_, _, _, _, rfl, rfl, ⟨v1, rfl, h1⟩, ⟨v2, rfl, h2⟩⟩⟩ := h
  obtain ⟨A0, n0, c0, rfl, _⟩ := h0.form
  obtain ⟨A1, n1, c1, rfl, _⟩ := h1.form
  obtain ⟨A2, n2, c2, rfl, _⟩ := h2.form
  exact ⟨A0, n0, c0, A1, n1, c1, A2, n2, c2, _, _, _, rfl, by simp, h0, h1, h2⟩
theorem rHouse_own_mk {w : World} {x : House} {A0 : Option Addr} {n0 c0 : Nat} {A1 : Option Addr} {n1 c1 : Nat} {A2 : Option Addr} {n2 c2 : Nat} {f0 f1 f2 : List Nat} (g0 : Mm.SlOwn rLog 80 w x.Logs (.slice A0 n0 c0) f0) (g1 : Mm.SlOwn rHead 73 w x.Heads (.slice A1 n1 c1) f1) (g2 : Mm.SlOwn rHead 73 w x.Kept (.slice A2 n2 c2) f2) : rHouse.own w x [.slice A0 n0 c0, .slice A1 n1 c1, .slice A2 n2 c2] (f0 ++ (f1 ++ f2)) := by
  have h : rHouse.own w x _ _ := ⟨_, _, _, _, rfl, rfl, ⟨_, rfl, g0⟩, ⟨_, _, _, _, rfl, rfl, ⟨_, rfl, g1⟩, ⟨_, rfl, g2⟩⟩⟩
  simpa using h
def bools : Mm.Rep (List Bool) := Mm.slice Mm.bool 4
def rSayS : Mm.Rep (List Say) := Mm.slice rSay 55
def rHouseStepS : Mm.Rep (List HouseStep) := Mm.slice rHouseStep 57
theorem int_get {w : World} {B : Nat} {l : List Int} {A : Option Addr} {n c k : Nat} (h : Mm.SlAt Mm.int w B l A n c) (hk : k < n) :
    ∃ x b off, l[k]? = some x ∧ A = some ⟨b, off, none⟩ ∧ b < B ∧ Mm.I64 x ∧ w.cell? ⟨b, off + k, none⟩ = some (.int .i64 x) := by
  obtain ⟨x, b, off, cs, hx, hA, hb, ha, hc⟩ := h.get hk
  obtain ⟨rfl, g0⟩ := ha
  exact ⟨x, b, off, hx, hA, hb, g0, (by rw [show off + k = off + k * Mm.int.size + 0 by show _ = off + k * 1 + 0; omega]; exact hc 0 _ rfl)⟩
theorem int_get' {w : World} {B : Nat} {l : List Int} {b off n c k : Nat} (h : Mm.SlAt Mm.int w B l (some ⟨b, off, none⟩) n c) (hk : k < n) :
    ∃ x, l[k]? = some x ∧ b < B ∧ Mm.I64 x ∧ w.cell? ⟨b, off + k, none⟩ = some (.int .i64 x) := by
  obtain ⟨x, cs, hx, hb, ha, hc⟩ := h.get' hk
  obtain ⟨rfl, g0⟩ := ha
  exact ⟨x, hx, hb, g0, (by rw [show off + k = off + k * Mm.int.size + 0 by show _ = off + k * 1 + 0; omega]; exact hc 0 _ rfl)⟩
theorem int_ocell {w : World} {e : TypeId} {xs : List Int} {g n c i : Nat} {x : Int} {fp : List Nat} (h : Mm.SlOwn Mm.int e w xs (.slice (some ⟨g, 0, none⟩) n c) fp) (hnd : fp.Nodup) (hi : xs[i]? = some x) : w.cell? ⟨g, i, none⟩ = some (.int .i64 x) := by
  obtain ⟨cs, fx, hown, _, _, hc, _⟩ := h.inner hnd hi
  obtain ⟨rfl, _, _⟩ := hown
  exact ((by have e0 := hc 0 _ rfl; rwa [show i * Mm.int.size + 0 = i by show i * 1 + 0 = i; omega] at e0))
theorem str_get {w : World} {B : Nat} {l : List ByteArray} {A : Option Addr} {n c k : Nat} (h : Mm.SlAt Mm.str w B l A n c) (hk : k < n) :
    ∃ x b off, l[k]? = some x ∧ A = some ⟨b, off, none⟩ ∧ b < B ∧ x.size ≤ maxLen ∧ w.cell? ⟨b, off + k, none⟩ = some (.string x) := by
  obtain ⟨x, b, off, cs, hx, hA, hb, ha, hc⟩ := h.get hk
  obtain ⟨rfl, g0⟩ := ha
  exact ⟨x, b, off, hx, hA, hb, g0, (by rw [show off + k = off + k * Mm.str.size + 0 by show _ = off + k * 1 + 0; omega]; exact hc 0 _ rfl)⟩
theorem str_get' {w : World} {B : Nat} {l : List ByteArray} {b off n c k : Nat} (h : Mm.SlAt Mm.str w B l (some ⟨b, off, none⟩) n c) (hk : k < n) :
    ∃ x, l[k]? = some x ∧ b < B ∧ x.size ≤ maxLen ∧ w.cell? ⟨b, off + k, none⟩ = some (.string x) := by
  obtain ⟨x, cs, hx, hb, ha, hc⟩ := h.get' hk
  obtain ⟨rfl, g0⟩ := ha
  exact ⟨x, hx, hb, g0, (by rw [show off + k = off + k * Mm.str.size + 0 by show _ = off + k * 1 + 0; omega]; exact hc 0 _ rfl)⟩
theorem str_ocell {w : World} {e : TypeId} {xs : List ByteArray} {g n c i : Nat} {x : ByteArray} {fp : List Nat} (h : Mm.SlOwn Mm.str e w xs (.slice (some ⟨g, 0, none⟩) n c) fp) (hnd : fp.Nodup) (hi : xs[i]? = some x) : w.cell? ⟨g, i, none⟩ = some (.string x) := by
  obtain ⟨cs, fx, hown, _, _, hc, _⟩ := h.inner hnd hi
  obtain ⟨rfl, _, _⟩ := hown
  exact ((by have e0 := hc 0 _ rfl; rwa [show i * Mm.str.size + 0 = i by show i * 1 + 0 = i; omega] at e0))
theorem bool_get {w : World} {B : Nat} {l : List Bool} {A : Option Addr} {n c k : Nat} (h : Mm.SlAt Mm.bool w B l A n c) (hk : k < n) :
    ∃ x b off, l[k]? = some x ∧ A = some ⟨b, off, none⟩ ∧ b < B ∧ w.cell? ⟨b, off + k, none⟩ = some (.bool x) := by
  obtain ⟨x, b, off, cs, hx, hA, hb, ha, hc⟩ := h.get hk
  obtain ⟨rfl, _⟩ := ha
  exact ⟨x, b, off, hx, hA, hb, (by rw [show off + k = off + k * Mm.bool.size + 0 by show _ = off + k * 1 + 0; omega]; exact hc 0 _ rfl)⟩
theorem bool_get' {w : World} {B : Nat} {l : List Bool} {b off n c k : Nat} (h : Mm.SlAt Mm.bool w B l (some ⟨b, off, none⟩) n c) (hk : k < n) :
    ∃ x, l[k]? = some x ∧ b < B ∧ w.cell? ⟨b, off + k, none⟩ = some (.bool x) := by
  obtain ⟨x, cs, hx, hb, ha, hc⟩ := h.get' hk
  obtain ⟨rfl, _⟩ := ha
  exact ⟨x, hx, hb, (by rw [show off + k = off + k * Mm.bool.size + 0 by show _ = off + k * 1 + 0; omega]; exact hc 0 _ rfl)⟩
theorem bool_ocell {w : World} {e : TypeId} {xs : List Bool} {g n c i : Nat} {x : Bool} {fp : List Nat} (h : Mm.SlOwn Mm.bool e w xs (.slice (some ⟨g, 0, none⟩) n c) fp) (hnd : fp.Nodup) (hi : xs[i]? = some x) : w.cell? ⟨g, i, none⟩ = some (.bool x) := by
  obtain ⟨cs, fx, hown, _, _, hc, _⟩ := h.inner hnd hi
  obtain ⟨rfl, _, _⟩ := hown
  exact ((by have e0 := hc 0 _ rfl; rwa [show i * Mm.bool.size + 0 = i by show i * 1 + 0 = i; omega] at e0))
theorem smp_get {w : World} {B : Nat} {l : List Sample} {A : Option Addr} {n c k : Nat} (h : Mm.SlAt smp w B l A n c) (hk : k < n) :
    ∃ x b off, l[k]? = some x ∧ A = some ⟨b, off, none⟩ ∧ b < B ∧ Mm.I64 x.At ∧ Mm.I64 x.Value ∧ w.cell? ⟨b, off + k * 2, none⟩ = some (.int .i64 x.At) ∧ w.cell? ⟨b, off + k * 2 + 1, none⟩ = some (.int .i64 x.Value) := by
  obtain ⟨x, b, off, cs, hx, hA, hb, ha, hc⟩ := h.get hk
  obtain ⟨rfl, g0, g1⟩ := smp_at ha
  exact ⟨x, b, off, hx, hA, hb, g0, g1, hc 0 _ rfl, hc 1 _ rfl⟩
theorem smp_get' {w : World} {B : Nat} {l : List Sample} {b off n c k : Nat} (h : Mm.SlAt smp w B l (some ⟨b, off, none⟩) n c) (hk : k < n) :
    ∃ x, l[k]? = some x ∧ b < B ∧ Mm.I64 x.At ∧ Mm.I64 x.Value ∧ w.cell? ⟨b, off + k * 2, none⟩ = some (.int .i64 x.At) ∧ w.cell? ⟨b, off + k * 2 + 1, none⟩ = some (.int .i64 x.Value) := by
  obtain ⟨x, cs, hx, hb, ha, hc⟩ := h.get' hk
  obtain ⟨rfl, g0, g1⟩ := smp_at ha
  exact ⟨x, hx, hb, g0, g1, hc 0 _ rfl, hc 1 _ rfl⟩
theorem smp_ocell {w : World} {e : TypeId} {xs : List Sample} {g n c i : Nat} {x : Sample} {fp : List Nat} (h : Mm.SlOwn smp e w xs (.slice (some ⟨g, 0, none⟩) n c) fp) (hnd : fp.Nodup) (hi : xs[i]? = some x) : w.cell? ⟨g, i * 2, none⟩ = some (.int .i64 x.At) ∧ w.cell? ⟨g, i * 2 + 1, none⟩ = some (.int .i64 x.Value) := by
  obtain ⟨cs, fx, hown, _, _, hc, _⟩ := h.inner hnd hi
  obtain ⟨rfl, _⟩ := smp_own hown
  exact ⟨hc 0 _ rfl, hc 1 _ rfl⟩
theorem rSay_get {w : World} {B : Nat} {l : List Say} {A : Option Addr} {n c k : Nat} (h : Mm.SlAt rSay w B l A n c) (hk : k < n) :
    ∃ x b off, l[k]? = some x ∧ A = some ⟨b, off, none⟩ ∧ b < B ∧ x.Name.size ≤ maxLen ∧ Mm.I64 x.At ∧ Mm.I64 x.Value ∧ w.cell? ⟨b, off + k * 3, none⟩ = some (.string x.Name) ∧ w.cell? ⟨b, off + k * 3 + 1, none⟩ = some (.int .i64 x.At) ∧ w.cell? ⟨b, off + k * 3 + 2, none⟩ = some (.int .i64 x.Value) := by
  obtain ⟨x, b, off, cs, hx, hA, hb, ha, hc⟩ := h.get hk
  obtain ⟨rfl, g0, g1, g2⟩ := rSay_at ha
  exact ⟨x, b, off, hx, hA, hb, g0, g1, g2, hc 0 _ rfl, hc 1 _ rfl, hc 2 _ rfl⟩
theorem rSay_get' {w : World} {B : Nat} {l : List Say} {b off n c k : Nat} (h : Mm.SlAt rSay w B l (some ⟨b, off, none⟩) n c) (hk : k < n) :
    ∃ x, l[k]? = some x ∧ b < B ∧ x.Name.size ≤ maxLen ∧ Mm.I64 x.At ∧ Mm.I64 x.Value ∧ w.cell? ⟨b, off + k * 3, none⟩ = some (.string x.Name) ∧ w.cell? ⟨b, off + k * 3 + 1, none⟩ = some (.int .i64 x.At) ∧ w.cell? ⟨b, off + k * 3 + 2, none⟩ = some (.int .i64 x.Value) := by
  obtain ⟨x, cs, hx, hb, ha, hc⟩ := h.get' hk
  obtain ⟨rfl, g0, g1, g2⟩ := rSay_at ha
  exact ⟨x, hx, hb, g0, g1, g2, hc 0 _ rfl, hc 1 _ rfl, hc 2 _ rfl⟩
theorem rSay_ocell {w : World} {e : TypeId} {xs : List Say} {g n c i : Nat} {x : Say} {fp : List Nat} (h : Mm.SlOwn rSay e w xs (.slice (some ⟨g, 0, none⟩) n c) fp) (hnd : fp.Nodup) (hi : xs[i]? = some x) : w.cell? ⟨g, i * 3, none⟩ = some (.string x.Name) ∧ w.cell? ⟨g, i * 3 + 1, none⟩ = some (.int .i64 x.At) ∧ w.cell? ⟨g, i * 3 + 2, none⟩ = some (.int .i64 x.Value) := by
  obtain ⟨cs, fx, hown, _, _, hc, _⟩ := h.inner hnd hi
  obtain ⟨rfl, _⟩ := rSay_own hown
  exact ⟨hc 0 _ rfl, hc 1 _ rfl, hc 2 _ rfl⟩
theorem rHouseStep_get {w : World} {B : Nat} {l : List HouseStep} {A : Option Addr} {n c k : Nat} (h : Mm.SlAt rHouseStep w B l A n c) (hk : k < n) :
    ∃ x b off, l[k]? = some x ∧ A = some ⟨b, off, none⟩ ∧ b < B ∧ Mm.I64 x.Kind ∧ Mm.I64 x.Part ∧ x.What.Name.size ≤ maxLen ∧ Mm.I64 x.What.At ∧ Mm.I64 x.What.Value ∧ w.cell? ⟨b, off + k * 5, none⟩ = some (.int .i64 x.Kind) ∧ w.cell? ⟨b, off + k * 5 + 1, none⟩ = some (.int .i64 x.Part) ∧ w.cell? ⟨b, off + k * 5 + 2, none⟩ = some (.string x.What.Name) ∧ w.cell? ⟨b, off + k * 5 + 3, none⟩ = some (.int .i64 x.What.At) ∧ w.cell? ⟨b, off + k * 5 + 4, none⟩ = some (.int .i64 x.What.Value) := by
  obtain ⟨x, b, off, cs, hx, hA, hb, ha, hc⟩ := h.get hk
  obtain ⟨rfl, g0, g1, g2, g3, g4⟩ := rHouseStep_at ha
  exact ⟨x, b, off, hx, hA, hb, g0, g1, g2, g3, g4, hc 0 _ rfl, hc 1 _ rfl, hc 2 _ rfl, hc 3 _ rfl, hc 4 _ rfl⟩
theorem rHouseStep_get' {w : World} {B : Nat} {l : List HouseStep} {b off n c k : Nat} (h : Mm.SlAt rHouseStep w B l (some ⟨b, off, none⟩) n c) (hk : k < n) :
    ∃ x, l[k]? = some x ∧ b < B ∧ Mm.I64 x.Kind ∧ Mm.I64 x.Part ∧ x.What.Name.size ≤ maxLen ∧ Mm.I64 x.What.At ∧ Mm.I64 x.What.Value ∧ w.cell? ⟨b, off + k * 5, none⟩ = some (.int .i64 x.Kind) ∧ w.cell? ⟨b, off + k * 5 + 1, none⟩ = some (.int .i64 x.Part) ∧ w.cell? ⟨b, off + k * 5 + 2, none⟩ = some (.string x.What.Name) ∧ w.cell? ⟨b, off + k * 5 + 3, none⟩ = some (.int .i64 x.What.At) ∧ w.cell? ⟨b, off + k * 5 + 4, none⟩ = some (.int .i64 x.What.Value) := by
  obtain ⟨x, cs, hx, hb, ha, hc⟩ := h.get' hk
  obtain ⟨rfl, g0, g1, g2, g3, g4⟩ := rHouseStep_at ha
  exact ⟨x, hx, hb, g0, g1, g2, g3, g4, hc 0 _ rfl, hc 1 _ rfl, hc 2 _ rfl, hc 3 _ rfl, hc 4 _ rfl⟩
theorem rHouseStep_ocell {w : World} {e : TypeId} {xs : List HouseStep} {g n c i : Nat} {x : HouseStep} {fp : List Nat} (h : Mm.SlOwn rHouseStep e w xs (.slice (some ⟨g, 0, none⟩) n c) fp) (hnd : fp.Nodup) (hi : xs[i]? = some x) : w.cell? ⟨g, i * 5, none⟩ = some (.int .i64 x.Kind) ∧ w.cell? ⟨g, i * 5 + 1, none⟩ = some (.int .i64 x.Part) ∧ w.cell? ⟨g, i * 5 + 2, none⟩ = some (.string x.What.Name) ∧ w.cell? ⟨g, i * 5 + 3, none⟩ = some (.int .i64 x.What.At) ∧ w.cell? ⟨g, i * 5 + 4, none⟩ = some (.int .i64 x.What.Value) := by
  obtain ⟨cs, fx, hown, _, _, hc, _⟩ := h.inner hnd hi
  obtain ⟨rfl, _⟩ := rHouseStep_own hown
  exact ⟨hc 0 _ rfl, hc 1 _ rfl, hc 2 _ rfl, hc 3 _ rfl, hc 4 _ rfl⟩
theorem rRow_get {w : World} {B : Nat} {l : List Row} {A : Option Addr} {n c k : Nat} (h : Mm.SlAt rRow w B l A n c) (hk : k < n) :
    ∃ x b off A' n' c', l[k]? = some x ∧ A = some ⟨b, off, none⟩ ∧ b < B ∧ x.Name.size ≤ maxLen ∧ Mm.SlAt smp w B x.Samples A' n' c' ∧ w.cell? ⟨b, off + k * 2, none⟩ = some (.string x.Name) ∧ w.cell? ⟨b, off + k * 2 + 1, none⟩ = some (.slice A' n' c') := by
  obtain ⟨x, b, off, cs, hx, hA, hb, ha, hc⟩ := h.get hk
  obtain ⟨A', n', c', rfl, g0, g1⟩ := rRow_at ha
  exact ⟨x, b, off, A', n', c', hx, hA, hb, g0, g1, hc 0 _ rfl, hc 1 _ rfl⟩
theorem rRow_get' {w : World} {B : Nat} {l : List Row} {b off n c k : Nat} (h : Mm.SlAt rRow w B l (some ⟨b, off, none⟩) n c) (hk : k < n) :
    ∃ x A' n' c', l[k]? = some x ∧ b < B ∧ x.Name.size ≤ maxLen ∧ Mm.SlAt smp w B x.Samples A' n' c' ∧ w.cell? ⟨b, off + k * 2, none⟩ = some (.string x.Name) ∧ w.cell? ⟨b, off + k * 2 + 1, none⟩ = some (.slice A' n' c') := by
  obtain ⟨x, cs, hx, hb, ha, hc⟩ := h.get' hk
  obtain ⟨A', n', c', rfl, g0, g1⟩ := rRow_at ha
  exact ⟨x, A', n', c', hx, hb, g0, g1, hc 0 _ rfl, hc 1 _ rfl⟩
theorem rRow_ocell {w : World} {e : TypeId} {xs : List Row} {g n c i : Nat} {x : Row} {fp : List Nat} (h : Mm.SlOwn rRow e w xs (.slice (some ⟨g, 0, none⟩) n c) fp) (hnd : fp.Nodup) (hi : xs[i]? = some x) : ∃ A' n' c', w.cell? ⟨g, i * 2, none⟩ = some (.string x.Name) ∧ w.cell? ⟨g, i * 2 + 1, none⟩ = some (.slice A' n' c') := by
  obtain ⟨cs, fx, hown, _, _, hc, _⟩ := h.inner hnd hi
  obtain ⟨A', n', c', _, rfl, _⟩ := rRow_own hown
  exact ⟨A', n', c', hc 0 _ rfl, hc 1 _ rfl⟩
theorem rHead_get {w : World} {B : Nat} {l : List Head} {A : Option Addr} {n c k : Nat} (h : Mm.SlAt rHead w B l A n c) (hk : k < n) :
    ∃ x b off A' n' c', l[k]? = some x ∧ A = some ⟨b, off, none⟩ ∧ b < B ∧ Mm.SlAt rRow w B x.Rows A' n' c' ∧ Mm.I64 x.Offset ∧ w.cell? ⟨b, off + k * 2, none⟩ = some (.slice A' n' c') ∧ w.cell? ⟨b, off + k * 2 + 1, none⟩ = some (.int .i64 x.Offset) := by
  obtain ⟨x, b, off, cs, hx, hA, hb, ha, hc⟩ := h.get hk
  obtain ⟨A', n', c', rfl, g0, g1⟩ := rHead_at ha
  exact ⟨x, b, off, A', n', c', hx, hA, hb, g0, g1, hc 0 _ rfl, hc 1 _ rfl⟩
theorem rHead_get' {w : World} {B : Nat} {l : List Head} {b off n c k : Nat} (h : Mm.SlAt rHead w B l (some ⟨b, off, none⟩) n c) (hk : k < n) :
    ∃ x A' n' c', l[k]? = some x ∧ b < B ∧ Mm.SlAt rRow w B x.Rows A' n' c' ∧ Mm.I64 x.Offset ∧ w.cell? ⟨b, off + k * 2, none⟩ = some (.slice A' n' c') ∧ w.cell? ⟨b, off + k * 2 + 1, none⟩ = some (.int .i64 x.Offset) := by
  obtain ⟨x, cs, hx, hb, ha, hc⟩ := h.get' hk
  obtain ⟨A', n', c', rfl, g0, g1⟩ := rHead_at ha
  exact ⟨x, A', n', c', hx, hb, g0, g1, hc 0 _ rfl, hc 1 _ rfl⟩
theorem rHead_ocell {w : World} {e : TypeId} {xs : List Head} {g n c i : Nat} {x : Head} {fp : List Nat} (h : Mm.SlOwn rHead e w xs (.slice (some ⟨g, 0, none⟩) n c) fp) (hnd : fp.Nodup) (hi : xs[i]? = some x) : ∃ A' n' c', w.cell? ⟨g, i * 2, none⟩ = some (.slice A' n' c') ∧ w.cell? ⟨g, i * 2 + 1, none⟩ = some (.int .i64 x.Offset) := by
  obtain ⟨cs, fx, hown, _, _, hc, _⟩ := h.inner hnd hi
  obtain ⟨A', n', c', _, rfl, _⟩ := rHead_own hown
  exact ⟨A', n', c', hc 0 _ rfl, hc 1 _ rfl⟩
theorem rPiece_get {w : World} {B : Nat} {l : List Piece} {A : Option Addr} {n c k : Nat} (h : Mm.SlAt rPiece w B l A n c) (hk : k < n) :
    ∃ x b off A' n' c', l[k]? = some x ∧ A = some ⟨b, off, none⟩ ∧ b < B ∧ Mm.I64 x.From ∧ x.Bytes.size ≤ maxLen ∧ Mm.SlAt Mm.int w B x.Index A' n' c' ∧ w.cell? ⟨b, off + k * 3, none⟩ = some (.int .i64 x.From) ∧ w.cell? ⟨b, off + k * 3 + 1, none⟩ = some (.string x.Bytes) ∧ w.cell? ⟨b, off + k * 3 + 2, none⟩ = some (.slice A' n' c') := by
  obtain ⟨x, b, off, cs, hx, hA, hb, ha, hc⟩ := h.get hk
  obtain ⟨A', n', c', rfl, g0, g1, g2⟩ := rPiece_at ha
  exact ⟨x, b, off, A', n', c', hx, hA, hb, g0, g1, g2, hc 0 _ rfl, hc 1 _ rfl, hc 2 _ rfl⟩
theorem rPiece_get' {w : World} {B : Nat} {l : List Piece} {b off n c k : Nat} (h : Mm.SlAt rPiece w B l (some ⟨b, off, none⟩) n c) (hk : k < n) :
    ∃ x A' n' c', l[k]? = some x ∧ b < B ∧ Mm.I64 x.From ∧ x.Bytes.size ≤ maxLen ∧ Mm.SlAt Mm.int w B x.Index A' n' c' ∧ w.cell? ⟨b, off + k * 3, none⟩ = some (.int .i64 x.From) ∧ w.cell? ⟨b, off + k * 3 + 1, none⟩ = some (.string x.Bytes) ∧ w.cell? ⟨b, off + k * 3 + 2, none⟩ = some (.slice A' n' c') := by
  obtain ⟨x, cs, hx, hb, ha, hc⟩ := h.get' hk
  obtain ⟨A', n', c', rfl, g0, g1, g2⟩ := rPiece_at ha
  exact ⟨x, A', n', c', hx, hb, g0, g1, g2, hc 0 _ rfl, hc 1 _ rfl, hc 2 _ rfl⟩
theorem rPiece_ocell {w : World} {e : TypeId} {xs : List Piece} {g n c i : Nat} {x : Piece} {fp : List Nat} (h : Mm.SlOwn rPiece e w xs (.slice (some ⟨g, 0, none⟩) n c) fp) (hnd : fp.Nodup) (hi : xs[i]? = some x) : ∃ A' n' c', w.cell? ⟨g, i * 3, none⟩ = some (.int .i64 x.From) ∧ w.cell? ⟨g, i * 3 + 1, none⟩ = some (.string x.Bytes) ∧ w.cell? ⟨g, i * 3 + 2, none⟩ = some (.slice A' n' c') := by
  obtain ⟨cs, fx, hown, _, _, hc, _⟩ := h.inner hnd hi
  obtain ⟨A', n', c', _, rfl, _⟩ := rPiece_own hown
  exact ⟨A', n', c', hc 0 _ rfl, hc 1 _ rfl, hc 2 _ rfl⟩
theorem rLog_get {w : World} {B : Nat} {l : List Log} {A : Option Addr} {n c k : Nat} (h : Mm.SlAt rLog w B l A n c) (hk : k < n) :
    ∃ x b off A' n' c', l[k]? = some x ∧ A = some ⟨b, off, none⟩ ∧ b < B ∧ Mm.SlAt rPiece w B x.Pieces A' n' c' ∧ Mm.I64 x.Begin ∧ w.cell? ⟨b, off + k * 2, none⟩ = some (.slice A' n' c') ∧ w.cell? ⟨b, off + k * 2 + 1, none⟩ = some (.int .i64 x.Begin) := by
  obtain ⟨x, b, off, cs, hx, hA, hb, ha, hc⟩ := h.get hk
  obtain ⟨A', n', c', rfl, g0, g1⟩ := rLog_at ha
  exact ⟨x, b, off, A', n', c', hx, hA, hb, g0, g1, hc 0 _ rfl, hc 1 _ rfl⟩
theorem rLog_get' {w : World} {B : Nat} {l : List Log} {b off n c k : Nat} (h : Mm.SlAt rLog w B l (some ⟨b, off, none⟩) n c) (hk : k < n) :
    ∃ x A' n' c', l[k]? = some x ∧ b < B ∧ Mm.SlAt rPiece w B x.Pieces A' n' c' ∧ Mm.I64 x.Begin ∧ w.cell? ⟨b, off + k * 2, none⟩ = some (.slice A' n' c') ∧ w.cell? ⟨b, off + k * 2 + 1, none⟩ = some (.int .i64 x.Begin) := by
  obtain ⟨x, cs, hx, hb, ha, hc⟩ := h.get' hk
  obtain ⟨A', n', c', rfl, g0, g1⟩ := rLog_at ha
  exact ⟨x, A', n', c', hx, hb, g0, g1, hc 0 _ rfl, hc 1 _ rfl⟩
theorem rLog_ocell {w : World} {e : TypeId} {xs : List Log} {g n c i : Nat} {x : Log} {fp : List Nat} (h : Mm.SlOwn rLog e w xs (.slice (some ⟨g, 0, none⟩) n c) fp) (hnd : fp.Nodup) (hi : xs[i]? = some x) : ∃ A' n' c', w.cell? ⟨g, i * 2, none⟩ = some (.slice A' n' c') ∧ w.cell? ⟨g, i * 2 + 1, none⟩ = some (.int .i64 x.Begin) := by
  obtain ⟨cs, fx, hown, _, _, hc, _⟩ := h.inner hnd hi
  obtain ⟨A', n', c', _, rfl, _⟩ := rLog_own hown
  exact ⟨A', n', c', hc 0 _ rfl, hc 1 _ rfl⟩
end Go.Proofs.YtbhmdnjammnlnaaGreatDoor

/-
  A region that draws its order: loads and calls that at most make memory, in one walk in the order of the text; behind them, in a row, what writes. No program in sight. No conditions.
-/
namespace Go.Proofs.YtbhmdnjammnlnaaGreatDoor
open Go.RowKit

section
variable {P : Program} {ops : Array Oper} {md : Region.Mode} {C : World → Prop}
/-- whatever comes up, for so many rounds: it is one of the first n, and quiet in C -/
def headQ (P : Program) (md : Region.Mode) (ops : Array Oper) (C : World → Prop) (n : Nat) (L : Array Bool → Act → Prop) : Nat → Array Bool → Act → Prop
  | 0, listed, a => L listed a
  | f + 1, listed, a => Region.ready md ops listed ≠ [] ∧ ∀ i ∈ Region.ready md ops listed, i < n ∧ qOp P ops C i (headQ P md ops C n L f (listed.setIfInBounds i true)) a

theorem headQ_any {n g : Nat} {L : Array Bool → Act → Prop} {Q : Exit → Act → World → Prop} (hL : ∀ listed a w, C w → L listed a → wpAny P md ops Q g listed a w) :
    ∀ (f : Nat) (listed : Array Bool) (a : Act) (w : World), C w → headQ P md ops C n L f listed a → wpAny P md ops Q (f + g) listed a w
  | 0, listed, a, w, hw, h => by rw [Nat.zero_add]; exact hL _ _ _ hw h
  | f + 1, listed, a, w, hw, h => by
    rw [show f + 1 + g = (f + g) + 1 by omega]
    exact ⟨fun h0 => absurd h0 h.1, fun i hi => wpOp_of_qOp hw (fun a' w' hw' h' => headQ_any hL f _ a' w' hw' h') (h.2 i hi).2⟩

theorem headQ_first {n i : Nat} {oi : Oper} {v : Value} {L : Array Bool → Act → Prop} (hi : ops[i]? = some oi) (hsel : ∀ (j : Nat) (o : Oper) cs b, ops[j]? = some o → o.op ≠ .select cs b)
    (hs : Region.sinkB md ops n = true) (hc : Region.chainB md ops n = true) (hn : n < ops.size) (hin : i < n) (hdone : ∀ listed a, L listed a → ∀ j ∈ Region.ready md ops listed, n ≤ j) :
    ∀ (f : Nat) (listed : Array Bool) (a : Act), HeadInv md ops n listed →
      (∀ j oj, ops[j]? = some oj → j ≠ i → listed.getD j true = false → (∀ e ∈ oj.after, Region.binds md e = true → e.on ≠ i) → oi.apart ops oj = true) →
      i ∈ Region.ready md ops listed → YieldsIn P ops C oi v a → headQ P md ops C n L f (listed.setIfInBounds i true) (a.put oi.dst v) → headQ P md ops C n L (f + 1) listed a := by
  intro f
  induction f with
  | zero =>
    intro listed a inv _ hr hy H
    have hun := (mem_ready.1 hr).1
    refine ⟨List.ne_nil_of_mem hr, fun j hj => ?_⟩
    have hjn : j < n := Nat.lt_of_not_le fun h => tail_waits hs hc hn inv _ i rfl hin hun j h hj
    refine ⟨hjn, ?_⟩
    by_cases hji : j = i
    · subst hji; exact hy.qOp hi H
    · exact absurd (hdone _ _ H j (ready_mono hj hji)) (by omega)
  | succ f ih =>
    intro listed a inv hfree hr hy H
    have hun := (mem_ready.1 hr).1
    refine ⟨List.ne_nil_of_mem hr, fun j hj => ?_⟩
    have hjn : j < n := Nat.lt_of_not_le fun h => tail_waits hs hc hn inv _ i rfl hin hun j h hj
    refine ⟨hjn, ?_⟩
    by_cases hji : j = i
    · subst hji; exact hy.qOp hi H
    · obtain ⟨hjun, oj, hoj, hall⟩ := mem_ready.1 hj
      have hnot : ∀ e ∈ oj.after, Region.binds md e = true → e.on ≠ i := fun e he hb heq => by
        have h1 := hall e he hb
        rw [heq, getD_both hun] at h1
        cases h1
      have h2 := qOp_put hoj (hfree j oj hoj hji hjun hnot) (fun cs b => hsel i oi cs b hi) (fun cs b => hsel j oj cs b hoj) hy (H.2 j (ready_mono hj hji)).2
      refine qOp_mono (fun a' h3 => ih (listed.setIfInBounds j true) a' (inv.set hj hjn) (fun k ok hk hki hku hno => hfree k ok hk hki ?_ hno) (ready_mono hr (Ne.symm hji)) h3.1 (by rw [Array.setIfInBounds_comm _ _ hji]; exact h3.2)) h2
      by_cases hjk : j = k
      · subst hjk; exact hjun
      · rwa [getD_set_ne true hjk] at hku

theorem headQ_lex {n g : Nat} {Lq : Act → Prop} (hsel : Region.noSelect ops = true) (hs : Region.sinkB md ops n = true) (hc : Region.chainB md ops n = true) (hn : n < ops.size) :
    ∀ (l : List Oper) (k : Nat) (listed : Array Bool) (a : Act), (∀ j, j < l.length → l[j]? = ops[k + j]?) → k + l.length = n → HeadInv md ops n listed →
    Region.lexHead md ops g l.length k listed = true → wpQuiet P ops C Lq l a → headQ P md ops C n (fun listed' a' => Region.seqB md ops g n listed' = true ∧ Lq a') l.length listed a
  | [], k, listed, a, _, hk, _, hB, h => by
    have : k = n := by simpa using hk
    subst this
    exact ⟨by simpa [Region.lexHead] using hB, h⟩
  | o :: l, k, listed, a, hl, hk, inv, hB, h => by
    have h0 : ops[k]? = some o := by simpa using (hl 0 (by simp)).symm
    simp only [List.length_cons, Region.lexHead, Bool.and_eq_true] at hB
    obtain ⟨⟨hr, hf⟩, hB'⟩ := hB
    simp only [List.length_cons] at hk
    have hr' : k ∈ Region.ready md ops listed := by simpa using hr
    obtain ⟨v, hy, hK⟩ := yieldsIn_of_qOp (K := wpQuiet P ops C Lq l) h0 (by unfold qOp; simp only [h0]; exact h)
    exact headQ_first h0 (Region.noSelect_spec hsel) hs hc hn (by omega) (fun listed' a' hL => seqB_ready hL.1) l.length listed a inv (Region.free_spec h0 hf) hr' hy
      (headQ_lex hsel hs hc hn l (k + 1) _ _ (fun j hj => by have := hl (j + 1) (by simp; omega); simpa [Nat.add_assoc, Nat.add_comm 1 j] using this) (by omega) (inv.set hr' (by omega)) hB' hK)
end

theorem wpQuiet_mono' {P : Program} {ops : Array Oper} {C : World → Prop} {Q Q' : Act → Prop} (hq : ∀ a, Q a → Q' a) : ∀ (l : List Oper) (a : Act), wpQuiet P ops C Q l a → wpQuiet P ops C Q' l a
  | [], a, h => hq a h
  | o :: rest, a, h => by
    unfold wpQuiet at h ⊢
    split
    · rename_i hw
      rw [if_pos hw] at h
      exact Oper.quiet_mono (fun a h => wpQuiet_mono' hq rest a h) h
    · rename_i hw
      rw [if_neg hw] at h
      exact wpQuiet_mono' hq rest _ h

/-- the first n in one walk; what stands behind them in a row, in every world in which nothing that was there has turned -/
theorem wp_region_und_tail {P : Program} {id : Nat} {Q : Exit → Act → World → Prop} {a : Act} {w : World} {l : List Oper} (n : Nat) (hm : P.follows .mixedOrders = true) (hB : Region.lexTailB .any l.toArray n = true)
    (h : wpQuiet P l.toArray (fun w' => ∃ x : Und w, w' = und w x) (fun a' => ∀ X, Below w.heap.size w X → wpList P l.toArray Q (l.drop n) a' X) (l.take n) a) : (Code.region id l.toArray true).wp P Q a w := by
  simp only [Region.lexTailB, Bool.and_eq_true, decide_eq_true_eq] at hB
  obtain ⟨⟨⟨⟨hsel, hn⟩, hs⟩, hc⟩, hlex⟩ := hB
  have hn' : n < l.length := by simpa using hn
  have htl : (l.take n).length = n := by simp; omega
  have hdl : (l.drop n).length = l.toArray.size - n := by simp
  have inv0 : HeadInv .any l.toArray n (Array.replicate l.toArray.size false) :=
    ⟨by simp, fun j oj _ hl => (by rw [getD_replicate_false] at hl; cases hl), fun t _ ht => getD_in (by simpa using ht) (getD_replicate_false _ _)⟩
  have H := headQ_lex (md := .any) (g := l.toArray.size - n) hsel hs hc hn (l.take n) 0 _ a (fun j hj => by
    have hj' : j < n := by rw [htl] at hj; exact hj
    simp [hj']) (by simpa using htl) inv0 (by rw [htl]; exact hlex) (wpQuiet_mono' (Q' := fun a' => ∀ w', (∃ x : Und w, w' = und w x) → wpList P l.toArray Q (l.drop n) a' w') (fun a' hq w' ⟨x, hx⟩ => by subst hx; exact hq _ x.h) _ _ h)
  refine wp_region_any hm ?_
  have := headQ_any (Q := Q) (C := fun w' => ∃ x : Und w, w' = und w x) (g := l.toArray.size - n) (fun listed a' w' hw' hL => by
    have := wpAny_of_seq (md := .any) (Q' := Q) (l.drop n) n listed a' w' (fun j => by simp [List.getElem?_drop]) (by rw [hdl]; exact hL.1) (hL.2 w' hw')
    rwa [hdl] at this) _ _ _ _ ⟨⟨w.drew, (Below.refl _ _).drew⟩, rfl⟩ H
  rw [htl, show n + (l.toArray.size - n) = l.toArray.size by omega] at this
  exact this
end Go.Proofs.YtbhmdnjammnlnaaGreatDoor

/-
  Regions that draw their order and whose operations hand back new things (a call that makes a slice, an alloc, an append): one walk in the order of the text serves every order. What an operation gives, and which earlier operation's things it takes, is told ahead by a plan. No program in sight. No conditions.
-/
namespace Go.Proofs.YtbhmdnjammnlnaaGreatDoor
open Go.RowKit
namespace Mm

abbrev Sig := Nat → List Thing
/-- what operation i gives: of its operands' values and the things it takes, a value and things -/
abbrev Rel := List Value → List Thing → Value → List Thing → Prop
def sigUpd (takes : Nat → List Nat) (σ : Sig) (i : Nat) (ds : List Thing) : Sig := fun k => bif k == i then ds else bif (takes i).contains k then [] else σ k

section
variable {P : Program} {ops : Array Oper} {md : Region.Mode} {C : Sig → World → Prop} {D : World → Prop} {rel : Nat → Option Rel} {takes : Nat → List Nat}

def ups (P : Program) (C' : Value → World → Prop) : Result Next → Prop
  | .ok (.value u) w' => C' u w'
  | .ok .skip w' => C' undef w'
  | .ok (.enter f args) w' => Calls P f args w' (fun e w'' => ∃ v, e = .returned v ∧ C' v w'')
  | .ok (.row row args) w' => Rows P row args w' fun v w'' => C' v w''
  | _ => False
def valUpon (w : World) (v : Value) : Result Next → Prop
  | .ok (.value u) w' => w' = w ∧ u = v
  | .ok .skip w' => w' = w ∧ undef = v
  | _ => False
def GDet (P : Program) (D : World → Prop) (o : Oper) (a : Act) (v : Value) : Prop := ∀ w, D w → valUpon w v ((execOp a.eval o).run P w)
def GValid (P : Program) (C : Sig → World → Prop) (takes : Nat → List Nat) (i : Nat) (o : Oper) (a : Act) (σ : Sig) (r : Value → List Thing → Prop) : Prop :=
  ∀ σ' w, C σ' w → (∀ k ∈ takes i, σ' k = σ k) → ups P (fun v w' => ∃ ds, r v ds ∧ C (sigUpd takes σ' i ds) w') ((execOp a.eval o).run P w)
abbrev GRelAt (takes : Nat → List Nat) (r : Rel) (i : Nat) (o : Oper) (a : Act) (σ : Sig) : Value → List Thing → Prop := r (o.op.operands.toList.map a.eval) ((takes i).flatMap σ)

/-- what operation i may bring in state (a, σ): its value, and how the things turn -/
def GStatus (P : Program) (ops : Array Oper) (C : Sig → World → Prop) (D : World → Prop) (rel : Nat → Option Rel) (takes : Nat → List Nat) (i : Nat) (o : Oper) (a : Act) (σ : Sig) (O : Value → (Sig → Sig) → Prop) : Prop :=
  (Region.wanted o (yielded ops a.tmps) = false ∧ O = fun u f => u = undef ∧ f = id) ∨
  (Region.wanted o (yielded ops a.tmps) = true ∧ rel i = none ∧ ∃ v, GDet P D o a v ∧ O = fun u f => u = v ∧ f = id) ∨
  (Region.wanted o (yielded ops a.tmps) = true ∧ ∃ r, rel i = some r ∧ GValid P C takes i o a σ (GRelAt takes r i o a σ) ∧ (∃ v ds, GRelAt takes r i o a σ v ds) ∧ O = fun u f => ∃ ds, GRelAt takes r i o a σ u ds ∧ f = fun s => sigUpd takes s i ds)

def gOp (P : Program) (ops : Array Oper) (C : Sig → World → Prop) (D : World → Prop) (rel : Nat → Option Rel) (takes : Nat → List Nat) (i : Nat) (K : Act → Sig → Prop) (a : Act) (σ : Sig) : Prop :=
  match ops[i]? with
  | none => K a σ
  | some o => ∃ O, GStatus P ops C D rel takes i o a σ O ∧ ∀ v f, O v f → K (a.put o.dst v) (f σ)

theorem gOp_mono {i : Nat} {a : Act} {σ : Sig} {K K' : Act → Sig → Prop} (h : ∀ a s, K a s → K' a s) (hh : gOp P ops C D rel takes i K a σ) : gOp P ops C D rel takes i K' a σ := by
  unfold gOp at *
  split
  · exact h _ _ (by simpa [*] using hh)
  · rename_i o ho
    simp only [ho] at hh
    obtain ⟨O, h1, h2⟩ := hh
    exact ⟨O, h1, fun v f hO => h _ _ (h2 v f hO)⟩

theorem GDet.uniq {o : Oper} {a : Act} {v u : Value} {w : World} (hw : D w) (h : GDet P D o a v) (k : GDet P D o a u) : v = u := by
  have h1 := h w hw
  have h2 := k w hw
  generalize (execOp a.eval o).run P w = r at *
  cases r with
  | ok n w' => cases n <;> simp only [valUpon] at h1 h2 <;> first | exact h1.2.symm.trans h2.2 | exact h1.elim
  | halt x w' => exact h1.elim

theorem GStatus.func {i : Nat} {o : Oper} {a : Act} {σ : Sig} {O O' : Value → (Sig → Sig) → Prop} (hD : ∃ w, D w) (h : GStatus P ops C D rel takes i o a σ O) (k : GStatus P ops C D rel takes i o a σ O') : O = O' := by
  obtain ⟨w, hw⟩ := hD
  rcases h with ⟨h1, h2⟩ | ⟨h1, hr, v, h2, h3⟩ | ⟨h1, r, hr, h2, h3, h4⟩ <;> rcases k with ⟨k1, k2⟩ | ⟨k1, kr, u, k2, k3⟩ | ⟨k1, s, kr, k2, k3, k4⟩
  · rw [h2, k2]
  · rw [h1] at k1; cases k1
  · rw [h1] at k1; cases k1
  · rw [h1] at k1; cases k1
  · rw [h3, k3, GDet.uniq hw h2 k2]
  · rw [hr] at kr; cases kr
  · rw [h1] at k1; cases k1
  · rw [hr] at kr; cases kr
  · rw [hr] at kr; injection kr with kr; subst kr; rw [h4, k4]

theorem GStatus.ex {i : Nat} {o : Oper} {a : Act} {σ : Sig} {O : Value → (Sig → Sig) → Prop} (h : GStatus P ops C D rel takes i o a σ O) : ∃ v f, O v f := by
  rcases h with ⟨_, h2⟩ | ⟨_, _, v, _, h3⟩ | ⟨_, r, _, _, ⟨v, ds, h3⟩, h4⟩
  · exact ⟨undef, id, by rw [h2]; exact ⟨rfl, rfl⟩⟩
  · exact ⟨v, id, by rw [h3]; exact ⟨rfl, rfl⟩⟩
  · exact ⟨v, _, by rw [h4]; exact ⟨ds, h3, rfl⟩⟩

/-- the shape of what turns: nothing, or i's own -/
theorem GStatus.turn {i : Nat} {o : Oper} {a : Act} {σ : Sig} {O : Value → (Sig → Sig) → Prop} (h : GStatus P ops C D rel takes i o a σ O) {v : Value} {f : Sig → Sig} (hO : O v f) : f = id ∨ ∃ ds, f = fun s => sigUpd takes s i ds := by
  rcases h with ⟨_, h2⟩ | ⟨_, _, _, _, h3⟩ | ⟨_, r, _, _, _, h4⟩
  · rw [h2] at hO; exact .inl hO.2
  · rw [h3] at hO; exact .inl hO.2
  · rw [h4] at hO; obtain ⟨ds, _, h⟩ := hO; exact .inr ⟨ds, h⟩

def Indep (takes : Nat → List Nat) (i j : Nat) : Prop := i ≠ j ∧ i ∉ takes j ∧ j ∉ takes i ∧ ∀ k, k ∈ takes i → k ∉ takes j
theorem Indep.symm {i j : Nat} (h : Indep takes i j) : Indep takes j i := ⟨Ne.symm h.1, h.2.2.1, h.2.1, fun k hk hi => h.2.2.2 k hi hk⟩

theorem sigUpd_far {σ : Sig} {i j : Nat} {ds : List Thing} (h : Indep takes i j) {k : Nat} (hk : k ∈ takes j) : sigUpd takes σ i ds k = σ k := by
  unfold sigUpd
  have h1 : (k == i) = false := by rw [beq_eq_false_iff_ne]; rintro rfl; exact h.2.1 hk
  have h2 : (takes i).contains k = false := by
    cases hc : (takes i).contains k
    · rfl
    · exact absurd hk (h.2.2.2 k (by simpa using hc))
  rw [h1, h2]; rfl
theorem sigUpd_comm {σ : Sig} {i j : Nat} {ds es : List Thing} (h : Indep takes i j) : sigUpd takes (sigUpd takes σ i ds) j es = sigUpd takes (sigUpd takes σ j es) i ds := by
  funext k
  unfold sigUpd
  by_cases hi : k = i
  · subst hi
    have h1 : (k == j) = false := by rw [beq_eq_false_iff_ne]; exact h.1
    have h2 : (takes j).contains k = false := by
      cases hc : (takes j).contains k
      · rfl
      · exact absurd (by simpa using hc) h.2.1
    rw [h1, h2]; simp
  · have hi' : (k == i) = false := by rw [beq_eq_false_iff_ne]; exact hi
    rw [hi']
    by_cases hj : k = j
    · subst hj
      have h2 : (takes i).contains k = false := by
        cases hc : (takes i).contains k
        · rfl
        · exact absurd (by simpa using hc) h.2.2.1
      rw [h2]; simp
    · have hj' : (k == j) = false := by rw [beq_eq_false_iff_ne]; exact hj
      rw [hj']
      cases (takes i).contains k <;> cases (takes j).contains k <;> rfl

theorem map_eval_put {o oj : Oper} {a : Act} {v : Value} (h : ∀ d, oj.dst = some d → d ∉ o.looksAt ops) : o.op.operands.toList.map (a.put oj.dst v).eval = o.op.operands.toList.map a.eval := by
  refine List.map_congr_left fun x hx => Act.eval_put fun d hd hxd => h d hd ?_
  subst hxd
  exact List.mem_append_left _ (List.mem_filterMap.2 ⟨.tmp d, hx, rfl⟩)

theorem GStatus.keep {i : Nat} {o oj : Oper} {a : Act} {σ σ' : Sig} {O : Value → (Sig → Sig) → Prop} (h : GStatus P ops C D rel takes i o a σ O) (hs : ∀ cs b, o.op ≠ .select cs b) (hl : ∀ d, oj.dst = some d → d ∉ o.looksAt ops) (u : Value)
    (hσ : ∀ k, k ∈ takes i → σ' k = σ k) : GStatus P ops C D rel takes i o (a.put oj.dst u) σ' O := by
  have e1 := execOp_put o hs a oj.dst u hl
  have e2 := wanted_put o a oj.dst u hl
  have e3 := map_eval_put (a := a) (v := u) hl
  have e4 : (takes i).flatMap σ' = (takes i).flatMap σ := by
    rw [List.flatMap_def, List.flatMap_def]; exact congrArg List.flatten (List.map_congr_left hσ)
  have e5 : ∀ r : Rel, GRelAt takes r i o (a.put oj.dst u) σ' = GRelAt takes r i o a σ := fun r => by unfold GRelAt; rw [e3, e4]
  rcases h with ⟨h1, h2⟩ | ⟨h1, hr, v, h2, h3⟩ | ⟨h1, r, hr, h2, h3, h4⟩
  · exact .inl ⟨by rw [e2]; exact h1, h2⟩
  · refine .inr (.inl ⟨by rw [e2]; exact h1, hr, v, ?_, h3⟩)
    unfold GDet at *
    rw [e1]; exact h2
  · refine .inr (.inr ⟨by rw [e2]; exact h1, r, hr, ?_, ?_, ?_⟩)
    · unfold GValid at *
      rw [e1, e5]
      exact fun s w hc hk => h2 s w hc (fun k hk' => (hk k hk').trans (hσ k hk'))
    · rw [e5]; exact h3
    · rw [e5]; exact h4

/-- operations i and j do not meet: what j does ahead of i, it does behind it -/
theorem gOp_put {i j : Nat} {oi oj : Oper} {O : Value → (Sig → Sig) → Prop} (hD : ∃ w, D w) (hj : ops[j]? = some oj) (hap : oi.apart ops oj = true) (hin : Indep takes i j)
    (hsi : ∀ cs b, oi.op ≠ .select cs b) (hsj : ∀ cs b, oj.op ≠ .select cs b) {K : Act → Sig → Prop} {a : Act} {σ : Sig}
    (hy : GStatus P ops C D rel takes i oi a σ O) (h : ∀ v f, O v f → gOp P ops C D rel takes j K (a.put oi.dst v) (f σ)) :
    gOp P ops C D rel takes j (fun a' s => GStatus P ops C D rel takes i oi a' s O ∧ ∀ v f, O v f → K (a'.put oi.dst v) (f s)) a σ := by
  obtain ⟨h1, h2, h3⟩ := Oper.apart_spec hap
  -- j's status in the state ahead of i
  have back : ∀ v f, O v f → ∃ O', GStatus P ops C D rel takes j oj a σ O' ∧ ∀ u g, O' u g → K ((a.put oi.dst v).put oj.dst u) (g (f σ)) := fun v f hO => by
    have := h v f hO
    unfold gOp at this
    simp only [hj] at this
    obtain ⟨O', k1, k2⟩ := this
    refine ⟨O', ?_, k2⟩
    have e1 := execOp_put oj hsj a oi.dst v h1
    have e2 := wanted_put oj a oi.dst v h1
    have e3 := map_eval_put (a := a) (v := v) h1
    have hσ : ∀ k, k ∈ takes j → f σ k = σ k := fun k hk => by
      rcases hy.turn hO with rfl | ⟨ds, rfl⟩
      · rfl
      · exact sigUpd_far hin hk
    have e4 : (takes j).flatMap (f σ) = (takes j).flatMap σ := by
      rw [List.flatMap_def, List.flatMap_def]; exact congrArg List.flatten (List.map_congr_left hσ)
    have e5 : ∀ r : Rel, GRelAt takes r j oj (a.put oi.dst v) (f σ) = GRelAt takes r j oj a σ := fun r => by unfold GRelAt; rw [e3, e4]
    rcases k1 with ⟨q1, q2⟩ | ⟨q1, hr, x, q2, q3⟩ | ⟨q1, r, hr, q2, q3, q4⟩
    · exact .inl ⟨by rw [← e2]; exact q1, q2⟩
    · refine .inr (.inl ⟨by rw [← e2]; exact q1, hr, x, ?_, q3⟩)
      unfold GDet at *
      rw [← e1]; exact q2
    · refine .inr (.inr ⟨by rw [← e2]; exact q1, r, hr, ?_, ?_, ?_⟩)
      · unfold GValid at *
        rw [← e5, ← e1]
        exact fun s w hc hk => q2 s w hc (fun k hk' => (hk k hk').trans (hσ k hk').symm)
      · rw [← e5]; exact q3
      · rw [← e5]; exact q4
  obtain ⟨v0, f0, hO0⟩ := hy.ex
  obtain ⟨O', k1, _⟩ := back v0 f0 hO0
  unfold gOp
  simp only [hj]
  refine ⟨O', k1, fun u g hg => ⟨hy.keep hsi h3 u (fun k hk => ?_), fun v f hO => ?_⟩⟩
  · rcases k1.turn hg with rfl | ⟨ds, rfl⟩
    · rfl
    · exact sigUpd_far hin.symm hk
  · obtain ⟨O2, m1, m2⟩ := back v f hO
    rw [k1.func hD m1] at hg
    have := m2 u g hg
    rw [Act.put_comm a v u h2] at this
    have e : g (f σ) = f (g σ) := by
      rcases hy.turn hO with rfl | ⟨ds, rfl⟩
      · rfl
      · rcases m1.turn hg with rfl | ⟨es, rfl⟩
        · rfl
        · exact sigUpd_comm hin
    rw [e] at this
    exact this

theorem gOp_of {i : Nat} {oi : Oper} {a : Act} {σ : Sig} {O : Value → (Sig → Sig) → Prop} {K : Act → Sig → Prop} (hi : ops[i]? = some oi) (hy : GStatus P ops C D rel takes i oi a σ O) (h : ∀ v f, O v f → K (a.put oi.dst v) (f σ)) : gOp P ops C D rel takes i K a σ := by
  unfold gOp
  simp only [hi]
  exact ⟨O, hy, h⟩

theorem wpOp_of_gOp (hCD : ∀ σ w, C σ w → D w) {i : Nat} {a : Act} {σ : Sig} {K : Act → Sig → Prop} {K' : Act → World → Prop} {Q' : Exit → Act → World → Prop} {w : World} (hC : C σ w) (h : ∀ a s w', C s w' → K a s → K' a w') (hh : gOp P ops C D rel takes i K a σ) : wpOp P ops Q' i K' a w := by
  unfold gOp at hh
  unfold wpOp
  split
  · rename_i ho; simp only [ho] at hh; exact h _ _ _ hC hh
  · rename_i o ho
    simp only [ho] at hh
    obtain ⟨O, k1, k2⟩ := hh
    rcases k1 with ⟨h1, h2⟩ | ⟨h1, _, v, h2, h3⟩ | ⟨h1, r, _, h2, _, h4⟩
    · rw [h1]
      simp only [Bool.false_eq_true, if_false]
      exact h _ _ _ hC (k2 undef id (by rw [h2]; exact ⟨rfl, rfl⟩))
    · rw [h1]
      simp only [if_true]
      refine .inl ?_
      have h5 := h2 w (hCD _ _ hC)
      have h6 : K (a.put o.dst v) σ := k2 v id (by rw [h3]; exact ⟨rfl, rfl⟩)
      unfold Oper.wp
      generalize (execOp a.eval o).run P w = R at *
      cases R with
      | ok n w' =>
        cases n <;> simp only [valUpon] at h5 <;> simp only [Oper.upon]
        · obtain ⟨rfl, rfl⟩ := h5; exact h _ _ _ hC h6
        · obtain ⟨rfl, rfl⟩ := h5; exact h _ _ _ hC h6
      | halt x w' => exact h5.elim
    · rw [h1]
      simp only [if_true]
      refine .inl ?_
      have h5 := h2 σ w hC (fun _ _ => rfl)
      have h6 : ∀ v ds, GRelAt takes r i o a σ v ds → K (a.put o.dst v) (sigUpd takes σ i ds) := fun v ds hd => k2 v (fun s => sigUpd takes s i ds) (by rw [h4]; exact ⟨ds, hd, rfl⟩)
      unfold Oper.wp
      generalize (execOp a.eval o).run P w = R at *
      cases R with
      | ok n w' =>
        cases n <;> simp only [ups] at h5 <;> simp only [Oper.upon]
        · obtain ⟨ds, h7, h8⟩ := h5; exact h _ _ _ h8 (h6 _ _ h7)
        · obtain ⟨ds, h7, h8⟩ := h5; exact h _ _ _ h8 (h6 _ _ h7)
        · exact h5.mono fun e w'' ⟨v, he, ds, h7, h8⟩ => by subst he; exact h _ _ _ h8 (h6 _ _ h7)
        · exact Rows.mono h5 fun v w'' ⟨ds, h7, h8⟩ => h _ _ _ h8 (h6 _ _ h7)
      | halt x w' => exact h5.elim

/-- the walk in the order of the text -/
def wpGive (P : Program) (ops : Array Oper) (C : Sig → World → Prop) (D : World → Prop) (rel : Nat → Option Rel) (takes : Nat → List Nat) (Q : Act → Sig → Prop) : Nat → List Oper → Act → Sig → Prop
  | _, [], a, σ => Q a σ
  | i, o :: rest, a, σ => ∃ O, GStatus P ops C D rel takes i o a σ O ∧ ∀ v f, O v f → wpGive P ops C D rel takes Q (i + 1) rest (a.put o.dst v) (f σ)

/-- for so many rounds, whatever comes up -/
def headG (P : Program) (md : Region.Mode) (ops : Array Oper) (C : Sig → World → Prop) (D : World → Prop) (rel : Nat → Option Rel) (takes : Nat → List Nat) (n : Nat) (L : Array Bool → Act → Sig → Prop) : Nat → Array Bool → Act → Sig → Prop
  | 0, listed, a, σ => L listed a σ
  | f + 1, listed, a, σ => Region.ready md ops listed ≠ [] ∧ ∀ i ∈ Region.ready md ops listed, i < n ∧ gOp P ops C D rel takes i (headG P md ops C D rel takes n L f (listed.setIfInBounds i true)) a σ

theorem headG_any (hCD : ∀ σ w, C σ w → D w) {n g : Nat} {L : Array Bool → Act → Sig → Prop} {Q : Exit → Act → World → Prop} (hL : ∀ listed a s w, C s w → L listed a s → wpAny P md ops Q g listed a w) :
    ∀ (f : Nat) (listed : Array Bool) (a : Act) (s : Sig) (w : World), C s w → headG P md ops C D rel takes n L f listed a s → wpAny P md ops Q (f + g) listed a w
  | 0, listed, a, s, w, hw, h => by rw [Nat.zero_add]; exact hL _ _ _ _ hw h
  | f + 1, listed, a, s, w, hw, h => by
    rw [show f + 1 + g = (f + g) + 1 by omega]
    exact ⟨fun h0 => absurd h0 h.1, fun i hi => wpOp_of_gOp hCD hw (fun a' s' w' hw' h' => headG_any hCD hL f _ a' s' w' hw' h') (h.2 i hi).2⟩

theorem headG_first (hD : ∃ w, D w) {n i : Nat} {oi : Oper} {O : Value → (Sig → Sig) → Prop} {L : Array Bool → Act → Sig → Prop} (hi : ops[i]? = some oi) (hsel : ∀ (j : Nat) (o : Oper) cs b, ops[j]? = some o → o.op ≠ .select cs b)
    (hw : ∀ listed, HeadInv md ops n listed → listed.getD i true = false → ∀ j ∈ Region.ready md ops listed, j < n) (hin : i < n) (hdone : ∀ listed a s, L listed a s → ∀ j ∈ Region.ready md ops listed, n ≤ j) :
    ∀ (f : Nat) (listed : Array Bool) (a : Act) (σ : Sig), HeadInv md ops n listed →
      (∀ j oj, ops[j]? = some oj → j ≠ i → listed.getD j true = false → (∀ e ∈ oj.after, Region.binds md e = true → e.on ≠ i) → oi.apart ops oj = true ∧ Indep takes i j) →
      i ∈ Region.ready md ops listed → GStatus P ops C D rel takes i oi a σ O → (∀ v f', O v f' → headG P md ops C D rel takes n L f (listed.setIfInBounds i true) (a.put oi.dst v) (f' σ)) → headG P md ops C D rel takes n L (f + 1) listed a σ := by
  intro f
  induction f with
  | zero =>
    intro listed a σ inv _ hr hy H
    have hun := (mem_ready.1 hr).1
    obtain ⟨v0, f0, hO0⟩ := hy.ex
    refine ⟨List.ne_nil_of_mem hr, fun j hj => ?_⟩
    have hjn : j < n := hw _ inv hun j hj
    refine ⟨hjn, ?_⟩
    by_cases hji : j = i
    · subst hji; exact gOp_of hi hy H
    · exact absurd (hdone _ _ _ (H v0 f0 hO0) j (ready_mono hj hji)) (by omega)
  | succ f ih =>
    intro listed a σ inv hfree hr hy H
    have hun := (mem_ready.1 hr).1
    refine ⟨List.ne_nil_of_mem hr, fun j hj => ?_⟩
    have hjn : j < n := hw _ inv hun j hj
    refine ⟨hjn, ?_⟩
    by_cases hji : j = i
    · subst hji; exact gOp_of hi hy H
    · obtain ⟨hjun, oj, hoj, hall⟩ := mem_ready.1 hj
      have hnot : ∀ e ∈ oj.after, Region.binds md e = true → e.on ≠ i := fun e he hb heq => by
        have h1 := hall e he hb
        rw [heq, getD_both hun] at h1
        cases h1
      have hfj := hfree j oj hoj hji hjun hnot
      have h2 := gOp_put hD hoj hfj.1 hfj.2 (fun cs b => hsel i oi cs b hi) (fun cs b => hsel j oj cs b hoj) hy (fun v f' hO => ((H v f' hO).2 j (ready_mono hj hji)).2)
      refine gOp_mono (fun a' s' h3 => ih (listed.setIfInBounds j true) a' s' (inv.set hj hjn) (fun k ok hk hki hku hno => hfree k ok hk hki ?_ hno) (ready_mono hr (Ne.symm hji)) h3.1 (fun v f' hO => by rw [Array.setIfInBounds_comm _ _ hji]; exact h3.2 v f' hO)) h2
      by_cases hjk : j = k
      · subst hjk; exact hjun
      · rwa [getD_set_ne true hjk] at hku

/-- the plan's own check: who comes later than k and does not wait for it, does not meet it -/
def planB (takes : Nat → List Nat) (ops : Array Oper) (md : Region.Mode) : Bool :=
  (List.range ops.size).all fun k => (List.range ops.size).all fun j => Nat.ble j k || (match ops[j]? with | some oj => oj.after.any (fun e => Region.binds md e && e.on == k) | none => true) ||
    (!(takes j).contains k && !(takes k).contains j && (takes k).all fun x => !(takes j).contains x)
theorem planB_spec (h : planB takes ops md = true) {k j : Nat} {oj : Oper} (hj : ops[j]? = some oj) (hkj : k < j) (hno : ∀ e ∈ oj.after, Region.binds md e = true → e.on ≠ k) : Indep takes k j := by
  unfold planB at h
  simp only [List.all_eq_true, List.mem_range] at h
  have hjs := (Array.getElem?_eq_some_iff.1 hj).1
  have h1 := h k (by omega) j hjs
  simp only [hj, Bool.or_eq_true] at h1
  rcases h1 with (h1 | h1) | h1
  · have := Nat.le_of_ble_eq_true h1; omega
  · obtain ⟨x, hx, h2⟩ := Array.any_eq_true.1 h1
    simp only [Bool.and_eq_true, beq_iff_eq] at h2
    exact absurd h2.2 (hno _ (Array.getElem_mem hx) h2.1)
  · simp only [Bool.and_eq_true, Bool.not_eq_true', List.all_eq_true] at h1
    refine ⟨by omega, fun hk => ?_, fun hk => ?_, fun x hx hx' => ?_⟩
    · have := h1.1.1; simp [hk] at this
    · have := h1.1.2; simp [hk] at this
    · have := h1.2 x hx; simp [hx'] at this

theorem headG_lex (hD : ∃ w, D w) {n g : Nat} {Lq : Act → Sig → Prop} (hsel : Region.noSelect ops = true) (hw : ∀ i, i < n → ∀ listed, HeadInv md ops n listed → listed.getD i true = false → ∀ j ∈ Region.ready md ops listed, j < n)
    (hpl : planB takes ops md = true) :
    ∀ (l : List Oper) (k : Nat) (listed : Array Bool) (a : Act) (σ : Sig), (∀ j, j < l.length → l[j]? = ops[k + j]?) → k + l.length = n → HeadInv md ops n listed → (∀ j, j < k → listed.getD j true = true) →
    Region.lexHead md ops g l.length k listed = true → wpGive P ops C D rel takes Lq k l a σ → headG P md ops C D rel takes n (fun listed' a' s' => Region.seqB md ops g n listed' = true ∧ Lq a' s') l.length listed a σ
  | [], k, listed, a, σ, _, hk, _, _, hB, h => by
    have : k = n := by simpa using hk
    subst this
    exact ⟨by simpa [Region.lexHead] using hB, h⟩
  | o :: l, k, listed, a, σ, hl, hk, inv, hlo, hB, h => by
    have h0 : ops[k]? = some o := by simpa using (hl 0 (by simp)).symm
    simp only [List.length_cons, Region.lexHead, Bool.and_eq_true] at hB
    obtain ⟨⟨hr, hf⟩, hB'⟩ := hB
    simp only [List.length_cons] at hk
    have hr' : k ∈ Region.ready md ops listed := by simpa using hr
    obtain ⟨O, hy, hK⟩ := h
    refine headG_first hD h0 (Region.noSelect_spec hsel) (hw k (by omega)) (by omega) (fun listed' a' s' hL => seqB_ready hL.1) l.length listed a σ inv (fun j oj hj hjk hun hno => ⟨Region.free_spec h0 hf j oj hj hjk hun hno, planB_spec hpl hj ?_ hno⟩) hr' hy (fun v f hO =>
      headG_lex hD hsel hw hpl l (k + 1) _ _ _ (fun j hj => by have := hl (j + 1) (by simp; omega); simpa [Nat.add_assoc, Nat.add_comm 1 j] using this) (by omega) (inv.set hr' (by omega)) (fun j hj => ?_) hB' (hK v f hO))
    · rcases Nat.lt_or_ge k j with h | h
      · exact h
      · have := hlo j (by omega)
        rw [hun] at this; cases this
    · by_cases hjk : k = j
      · subst hjk
        have hs : k < listed.size := by rw [inv.size]; exact (Array.getElem?_eq_some_iff.1 h0).1
        simp [hs]
      · rw [getD_set_ne true hjk]; exact hlo j (by omega)
end

section
variable {P : Program} {F : List Nat} {rel : Nat → Option Rel} {takes : Nat → List Nat}
/-- the things of all operations (the number N: the things that were there) -/
def sigAll (N : Nat) (σ : Sig) : List Thing := (List.range (N + 1)).flatMap σ
def GC (F : List Nat) (w : World) (N : Nat) (σ : Sig) (X : World) : Prop := SepF F w X (sigAll N σ)

theorem wp_region_give {id : Nat} {Q : Exit → Act → World → Prop} {a : Act} {w : World} {l : List Oper} (n : Nat) (rel : Nat → Option Rel) (takes : Nat → List Nat) {D : World → Prop} (σ : Sig) (hCD : ∀ X us, SepF F w X us → D X)
    (hm : P.follows .mixedOrders = true) (hB : Region.lexTailB .any l.toArray n = true) (hP : planB takes l.toArray .any = true) (hS : SepF F w w.drew (sigAll l.length σ))
    (h : wpGive P l.toArray (GC F w l.length) D rel takes (fun a' σ' => ∀ X, SepF F w X (sigAll l.length σ') → wpList P l.toArray Q (l.drop n) a' X) 0 (l.take n) a σ) : (Code.region id l.toArray true).wp P Q a w := by
  simp only [Region.lexTailB, Bool.and_eq_true, decide_eq_true_eq] at hB
  obtain ⟨⟨⟨⟨hsel, hn⟩, hs⟩, hc⟩, hlex⟩ := hB
  have hn' : n < l.length := by simpa using hn
  have htl : (l.take n).length = n := by simp; omega
  have hdl : (l.drop n).length = l.toArray.size - n := by simp
  have inv0 : HeadInv .any l.toArray n (Array.replicate l.toArray.size false) :=
    ⟨by simp, fun j oj _ hl => (by rw [getD_replicate_false] at hl; cases hl), fun t _ ht => getD_in (by simpa using ht) (getD_replicate_false _ _)⟩
  have hD : ∃ w, D w := ⟨_, hCD _ _ hS⟩
  have H := headG_lex (md := .any) (g := l.toArray.size - n) hD hsel (fun i hi listed inv hun j hj => Nat.lt_of_not_le fun h => tail_waits hs hc hn inv _ i rfl hi hun j h hj) hP (l.take n) 0 _ a σ (fun j hj => by
    have hj' : j < n := by rw [htl] at hj; exact hj
    simp [hj']) (by simpa using htl) inv0 (fun j hj => by omega) (by rw [htl]; exact hlex) h
  refine wp_region_any hm ?_
  have := headG_any (Q := Q) (C := GC F w l.length) (D := D) (g := l.toArray.size - n) (fun s X hX => hCD X _ hX) (fun listed a' s' w' hw' hL => by
    have := wpAny_of_seq (md := .any) (Q' := Q) (l.drop n) n listed a' w' (fun j => by simp [List.getElem?_drop]) (by rw [hdl]; exact hL.1) (hL.2 w' hw')
    rwa [hdl] at this) _ _ _ _ _ hS H
  rw [htl, show n + (l.toArray.size - n) = l.toArray.size by omega] at this
  exact this

theorem lexHead_of_from (md : Region.Mode) (ops : Array Oper) : ∀ (fuel k : Nat) (listed : Array Bool), Region.lexFrom md ops fuel k listed = true → Region.lexHead md ops 0 fuel k listed = true
  | 0, k, listed, h => by simpa [Region.lexHead, Region.lexFrom, Region.seqB] using h
  | f + 1, k, listed, h => by
    simp only [Region.lexFrom, Region.lexHead, Bool.and_eq_true] at h ⊢
    exact ⟨h.1, lexHead_of_from md ops f _ _ h.2⟩
/-- the same, all of the region in the walk -/
theorem wp_region_give_all {id : Nat} {Q : Exit → Act → World → Prop} {a : Act} {w : World} {l : List Oper} (rel : Nat → Option Rel) (takes : Nat → List Nat) {D : World → Prop} (σ : Sig) (hCD : ∀ X us, SepF F w X us → D X)
    (hm : P.follows .mixedOrders = true) (hB : Region.lexB .any l.toArray = true) (hP : planB takes l.toArray .any = true) (hS : SepF F w w.drew (sigAll l.length σ))
    (h : wpGive P l.toArray (GC F w l.length) D rel takes (fun a' σ' => ∀ X, SepF F w X (sigAll l.length σ') → Q .normal a' X) 0 l a σ) : (Code.region id l.toArray true).wp P Q a w := by
  simp only [Region.lexB, Bool.and_eq_true] at hB
  have inv0 : HeadInv .any l.toArray l.length (Array.replicate l.toArray.size false) :=
    ⟨by simp, fun j oj _ hl => (by rw [getD_replicate_false] at hl; cases hl), fun t h1 ht => by simp at ht; omega⟩
  have hD : ∃ w, D w := ⟨_, hCD _ _ hS⟩
  have H := headG_lex (md := .any) (n := l.length) (g := 0) (Lq := fun a' σ' => ∀ X, SepF F w X (sigAll l.length σ') → Q .normal a' X) hD hB.1 (fun i hi listed inv hun j hj => by
    obtain ⟨_, o, ho, _⟩ := mem_ready.1 hj
    simpa using (Array.getElem?_eq_some_iff.1 ho).1) hP l 0 _ a σ (fun j hj => by simp) (by simp) inv0 (fun j hj => by omega) (lexHead_of_from _ _ _ _ _ (by simpa using hB.2)) h
  refine wp_region_any hm ?_
  have := headG_any (Q := Q) (C := GC F w l.length) (D := D) (g := 0) (fun s X hX => hCD X _ hX) (fun listed a' s' w' hw' hL => ⟨by simpa [Region.seqB] using hL.1, hL.2 w' hw'⟩) _ _ _ _ _ hS H
  simpa using this

/-- nothing that was there has turned -/
theorem sep_und {w X : World} {us : List Thing} (h : SepF [] w X us) : ∃ x : Und w, X = und w x := ⟨⟨X, h.bel0⟩, rfl⟩
end

section
variable {P : Program} {ops : Array Oper} {C : Sig → World → Prop} {D : World → Prop} {rel : Nat → Option Rel} {takes : Nat → List Nat} {Q : Act → Sig → Prop} {i : Nat} {o : Oper} {rest : List Oper} {a : Act} {σ : Sig}
theorem give_nil (h : Q a σ) : wpGive P ops C D rel takes Q i [] a σ := h
theorem give_skip (hw : Region.wanted o (yielded ops a.tmps) = false) (h : wpGive P ops C D rel takes Q (i + 1) rest (a.put o.dst undef) σ) : wpGive P ops C D rel takes Q i (o :: rest) a σ :=
  ⟨_, .inl ⟨hw, rfl⟩, fun v f ⟨h1, h2⟩ => by subst h1; subst h2; exact h⟩
def Op.enters : Op → Bool
  | .move _ | .assign _ | .pick .. | .nilCheck .. | .load .. | .fieldAddr .. | .field .. | .indexAddr .. | .index .. | .build .. | .binOp .. | .unOp .. | .convert .. | .slice .. | .extract .. => false
  | .call c => match c.callee with
    | .builtin .len | .builtin .cap | .builtin .max | .builtin .min => false
    | _ => true
  | _ => true
theorem noE {s : Sem Value} {P : Program} {w w' : World} {f : FuncId} {args : Array Value} : (do pure (Next.value (← s)) : Sem Next).run P w ≠ .ok (.enter f args) w' := by
  intro e
  simp only [Sem.run_bind, Sem.run_pure] at e
  cases h : s.run P w <;> rw [h] at e <;> simp [Result.andThen] at e
theorem noP {P : Program} {w w' : World} {n : Next} : (runtimePanic .nilDeref : Sem Next).run P w ≠ .ok n w' := by
  simp [runtimePanic, go_sem]
theorem no_enter {o : Oper} (h : Op.enters o.op = false) (ρ : Operand → Value) (P : Program) (w w' : World) (f : FuncId) (args : Array Value) : (execOp ρ o).run P w ≠ .ok (.enter f args) w' := by
  unfold execOp
  cases ho : o.op <;> rw [ho] at h <;> simp only [Op.enters, reduceCtorEq] at h <;> try exact noE
  · simp
  · simp
  · intro e
    simp only [Sem.run_bind, Sem.run_pure] at e
    revert e
    generalize (asBool _).run P w = r
    cases r <;> simp [Result.andThen]
  · rename_i x
    dsimp only
    split
    · exact noP
    · exact noP
    · exact noP
    · split
      · exact noP
      · intro e
        simp only [Sem.run_bind] at e
        generalize Sem.run P program w = r1 at e
        cases r1 with
        | halt h1 w1 => simp [Result.andThen] at e
        | ok a1 w1 =>
          simp only [Result.andThen_ok] at e
          generalize Sem.run P _ w1 = r2 at e
          cases r2 with
          | halt h1 w2 => simp [Result.andThen] at e
          | ok a2 w2 =>
            simp only [Result.andThen_ok] at e
            split at e
            · simp only [Sem.run_bind, Sem.run_pure] at e
              generalize Sem.run P (unsupported _) w2 = r3 at e
              cases r3 <;> simp [Result.andThen] at e
            · simp at e
      · simp
    · simp
  · rename_i c
    cases hc : c.callee <;> rw [hc] at h <;> try cases h
    rename_i b
    cases b <;> (try cases h) <;> (simp only [resolve, hc, invoke, builtin, Sem.run_bind, Sem.run_pure, Result.andThen_ok]; intro e; revert e; generalize Sem.run P _ w = r; cases r <;> simp [Result.andThen])
theorem det_of_quiet {v : Value} (h : Op.enters o.op = false) (hq : ∀ w, D w → o.quietAt P a D w v) : GDet P D o a v := fun w hw => by
  have h1 := hq w hw
  unfold Oper.quietAt at h1
  have h2 := no_enter h a.eval P w
  generalize (execOp a.eval o).run P w = R at *
  cases R with
  | ok n w' =>
    cases n <;> simp only [Oper.quietUpon] at h1
    · exact h1
    · exact ⟨h1.1, h1.2.symm⟩
    · exact absurd rfl (h2 _ _ _)
  | halt x w' => exact h1.elim
theorem give_det (hw : Region.wanted o (yielded ops a.tmps) = true) (hr : rel i = none) (hc : Op.enters o.op = false) (h : ∀ K : Act → Prop, (∀ a, wpGive P ops C D rel takes Q (i + 1) rest a σ → K a) → o.quiet P a D K) : wpGive P ops C D rel takes Q i (o :: rest) a σ := by
  obtain ⟨v, h1, h2⟩ := h _ fun _ h => h
  exact ⟨_, .inr (.inl ⟨hw, hr, v, det_of_quiet hc h1, rfl⟩), fun u f ⟨h3, h4⟩ => by subst h3; subst h4; exact h2⟩
theorem give_rel {r : Rel} (hw : Region.wanted o (yielded ops a.tmps) = true) (hr : rel i = some r) (hv : GValid P C takes i o a σ (GRelAt takes r i o a σ)) (hin : ∃ v ds, GRelAt takes r i o a σ v ds)
    (h : ∀ v ds, GRelAt takes r i o a σ v ds → wpGive P ops C D rel takes Q (i + 1) rest (a.put o.dst v) (sigUpd takes σ i ds)) : wpGive P ops C D rel takes Q i (o :: rest) a σ :=
  ⟨_, .inr (.inr ⟨hw, r, hr, hv, hin, rfl⟩), fun v f ⟨ds, h3, h4⟩ => by subst h4; exact h v ds h3⟩
end

/-- what one operation that gives must bring: its value in slot d, and the things, in the place of those that it takes -/
def GvQ (F : List Nat) (w : World) (r : Value → List Thing → Prop) (d : Nat) (df : List Deferred) (rest : List Thing) (x : Exit) (a' : Act) (w' : World) : Prop :=
  x = .normal ∧ a'.defers = df ∧ ∃ ds, r (a'.tmps.getD d undef) ds ∧ SepF F w w' (ds ++ rest)

theorem flatMap_filter_not {β : Type} (p : β → Bool) (f : β → List Thing) : ∀ l : List β, l.flatMap (fun k => bif p k then [] else f k) = (l.filter fun k => !p k).flatMap f
  | [] => rfl
  | x :: l => by
    rw [List.flatMap_cons, flatMap_filter_not p f l, List.filter_cons]
    cases p x <;> simp
theorem flatMap_subN {l m : List Thing} (h : l.Sublist m) : (l.flatMap (·.fp)).Sublist (m.flatMap (·.fp)) := by
  induction h with
  | slnil => exact List.Sublist.refl _
  | cons x h ih => rw [List.flatMap_cons]; exact ih.trans (List.sublist_append_right _ _)
  | cons_cons x h ih => rw [List.flatMap_cons, List.flatMap_cons]; exact List.Sublist.append_left ih _
theorem flatMap_sub {β : Type} (f : β → List Thing) {l m : List β} (h : l.Sublist m) : (l.flatMap f).Sublist (m.flatMap f) := by
  induction h with
  | slnil => exact List.Sublist.refl _
  | cons x h ih => rw [List.flatMap_cons]; exact ih.trans (List.sublist_append_right _ _)
  | cons_cons x h ih => rw [List.flatMap_cons, List.flatMap_cons]; exact List.Sublist.append_left ih _
section
variable {takes : Nat → List Nat} {σ : Sig} {i N : Nat} {ds : List Thing}
theorem sigAll_upd (hi : i ≤ N) : (sigAll N (sigUpd takes σ i ds)).Perm (ds ++ sigAll N (sigUpd takes σ i [])) := by
  unfold sigAll
  have hnd : (List.range (N + 1)).Nodup := List.nodup_range
  have hm : i ∈ List.range (N + 1) := by rw [List.mem_range]; omega
  obtain ⟨s, t, hst⟩ := List.append_of_mem hm
  rw [hst] at hnd ⊢
  have hs : i ∉ s := fun h => (List.nodup_append.1 hnd).2.2 i h i (by simp) rfl
  have ht : i ∉ t := by
    have := (List.nodup_append.1 hnd).2.1
    rw [List.nodup_cons] at this
    exact this.1
  have e : ∀ l : List Nat, i ∉ l → l.flatMap (sigUpd takes σ i ds) = l.flatMap (sigUpd takes σ i []) := fun l hl => by
    rw [List.flatMap_def, List.flatMap_def]
    refine congrArg List.flatten (List.map_congr_left fun k hk => ?_)
    have : (k == i) = false := by rw [beq_eq_false_iff_ne]; rintro rfl; exact hl hk
    unfold sigUpd
    rw [this]; rfl
  have ei : ∀ es, sigUpd takes σ i es i = es := fun es => by unfold sigUpd; simp
  rw [List.flatMap_append, List.flatMap_cons, List.flatMap_append, List.flatMap_cons, e s hs, e t ht, ei, ei, List.nil_append]
  exact List.perm_append_comm_assoc _ _ _
theorem sigAll_take (hn : (takes i).Nodup) (hk : ∀ k ∈ takes i, k ≤ N) : ∃ l', l'.Perm (sigAll N σ) ∧ ((takes i).flatMap σ ++ sigAll N (sigUpd takes σ i [])).Sublist l' := by
  refine ⟨(takes i).flatMap σ ++ ((List.range (N + 1)).filter fun k => !(takes i).contains k).flatMap σ, ?_, ?_⟩
  · rw [← List.flatMap_append]
    refine List.Perm.flatMap_right _ ?_
    rw [List.perm_ext_iff_of_nodup ?_ List.nodup_range]
    · intro k
      rw [List.mem_append, List.mem_filter, List.mem_range]
      by_cases h : k ∈ takes i
      · have := hk k h
        simp [h]; omega
      · simp [h]
    · rw [List.nodup_append]
      refine ⟨hn, List.nodup_range.sublist List.filter_sublist, fun a ha b hb e => ?_⟩
      subst e
      rw [List.mem_filter] at hb
      simp [ha] at hb
  · refine List.Sublist.append_left ?_ _
    unfold sigAll
    have e : sigUpd takes σ i [] = fun k => bif (k == i || (takes i).contains k) then [] else σ k := by
      funext k
      unfold sigUpd
      cases (k == i) <;> cases (takes i).contains k <;> rfl
    rw [e, flatMap_filter_not]
    refine flatMap_sub _ ?_
    rw [show (fun k : Nat => !(k == i || (takes i).contains k)) = fun k => (!(k == i)) && (!(takes i).contains k) by funext k; rw [Bool.not_or], ← List.filter_filter]
    exact List.filter_sublist
end
theorem SepF.subE {F : List Nat} {w0 wr : World} {ts us : List Thing} (h : SepF F w0 wr ts) (hs : us.Sublist ts) : SepF F w0 wr us :=
  ⟨h.chg, h.nd.sublist (flatMap_subN hs), fun b hb => h.new b ((flatMap_subN hs).subset hb), fun t ht => h.hold t (hs.subset ht)⟩
theorem SepF.permE {F : List Nat} {w0 wr : World} {ts us : List Thing} (h : SepF F w0 wr ts) (hp : us.Perm ts) : SepF F w0 wr us :=
  h.conv (List.Perm.flatMap_right _ hp) fun u hu => h.hold u (hp.mem_iff.1 hu)
theorem SepF.sigTake {F : List Nat} {w X : World} {takes : Nat → List Nat} {σ : Sig} {i N : Nat} (h : SepF F w X (sigAll N σ)) (hn : (takes i).Nodup) (hk : ∀ k ∈ takes i, k ≤ N) : SepF F w X ((takes i).flatMap σ ++ sigAll N (sigUpd takes σ i [])) := by
  obtain ⟨l', h1, h2⟩ := sigAll_take (σ := σ) hn hk
  exact (h.permE h1).subE h2
section
variable {P : Program} {F : List Nat} {w : World} {N : Nat} {ops : Array Oper} {D : World → Prop} {rel : Nat → Option Rel} {takes : Nat → List Nat} {Q : Act → Sig → Prop} {i : Nat} {o : Oper} {rest : List Oper} {a : Act} {σ : Sig}
theorem put_get {a : Act} {d : Nat} (hs : d < a.tmps.size) (v : Value) : (a.put (some d) v).tmps.getD d undef = v := by
  simp [Act.put, hs]
theorem gvalid_of {r : Value → List Thing → Prop} (d : Nat) (hd : o.dst = some d) (hs : d < a.tmps.size) (hw : Region.wanted o (yielded ops a.tmps) = true) (hi : i ≤ N) (hn : (takes i).Nodup) (hk : ∀ k ∈ takes i, k ≤ N)
    (h : ∀ others X, SepF F w X ((takes i).flatMap σ ++ others) → wpList P ops (GvQ F w r d a.defers others) [o] a X) : GValid P (GC F w N) takes i o a σ r := by
  intro σ' X hC hag
  have e4 : (takes i).flatMap σ' = (takes i).flatMap σ := by
    rw [List.flatMap_def, List.flatMap_def]; exact congrArg List.flatten (List.map_congr_left hag)
  have h0 : SepF F w X (sigAll N σ') := hC
  have h1 := h0.sigTake hn hk
  rw [e4] at h1
  have h2 := h _ X h1
  have fin : ∀ u w', GvQ F w r d a.defers (sigAll N (sigUpd takes σ' i [])) .normal (a.put o.dst u) w' → ∃ ds, r u ds ∧ GC F w N (sigUpd takes σ' i ds) w' := fun u w' ⟨_, _, ds, h3, h4⟩ => by
    rw [hd, put_get hs] at h3
    exact ⟨ds, h3, h4.permE (sigAll_upd hi)⟩
  unfold wpList at h2
  rw [if_pos hw] at h2
  have h3 : o.wp P a X (fun a' w' => GvQ F w r d a.defers (sigAll N (sigUpd takes σ' i [])) .normal a' w') (GvQ F w r d a.defers (sigAll N (sigUpd takes σ' i []))) := by
    first
      | exact h2
      | exact h2.elim id fun h => by obtain ⟨_, a', w', h, _⟩ := h; cases h
  unfold Oper.wp at h3
  generalize (execOp a.eval o).run P X = R at *
  cases R with
  | ok n w' =>
    cases n <;> simp only [Oper.upon] at h3 <;> simp only [ups] <;> first | exact fin _ _ h3 | skip
    · refine h3.mono fun e w'' he => ?_
      cases e with
      | returned v => exact ⟨v, rfl, fin _ _ he⟩
      | panicked c => exact absurd he.1 (by simp)
      | outgrown => obtain ⟨a', w', h, _⟩ := he; cases h
    · have := h3.2.1
      rw [hd] at this
      exact absurd this (by simp [Act.put])
    · exact Rows.mono h3 fun v w'' he => fin _ _ he
  | halt x w' => cases x <;> simp only [Oper.upon] at h3; exact absurd h3.1 (by simp)

theorem give_op {R : Rel} (d : Nat) (hw : Region.wanted o (yielded ops a.tmps) = true) (hr : rel i = some R) (hd : o.dst = some d) (hs : d < a.tmps.size) (hi : i ≤ N) (hn : (takes i).Nodup) (hk : ∀ k ∈ takes i, k ≤ N)
    (hin : ∃ v ds, R (o.op.operands.toList.map a.eval) ((takes i).flatMap σ) v ds)
    (h : ∀ others X, SepF F w X ((takes i).flatMap σ ++ others) → wpList P ops (GvQ F w (R (o.op.operands.toList.map a.eval) ((takes i).flatMap σ)) d a.defers others) [o] a X)
    (hnext : ∀ v ds, R (o.op.operands.toList.map a.eval) ((takes i).flatMap σ) v ds → wpGive P ops (GC F w N) D rel takes Q (i + 1) rest (a.put (some d) v) (sigUpd takes σ i ds)) : wpGive P ops (GC F w N) D rel takes Q i (o :: rest) a σ :=
  give_rel hw hr (gvalid_of d hd hs hw hi hn hk h) hin (fun v ds hv => by rw [hd]; exact hnext v ds hv)
end

section
variable {P : Program} {F : List Nat} {w : World} {N : Nat} {ops : Array Oper} {D : World → Prop} {rel : Nat → Option Rel} {takes : Nat → List Nat} {Q : Act → Sig → Prop} {i : Nat} {o : Oper} {rest : List Oper} {a : Act} {σ : Sig}
/-- an operation that takes nothing -/
theorem give_op0 {R : Rel} (d : Nat) (hw : Region.wanted o (yielded ops a.tmps) = true) (hr : rel i = some R) (hd : o.dst = some d) (hs : Nat.blt d a.tmps.size = true) (hi : Nat.ble i N = true) (ht : takes i = [])
    (hin : ∃ v ds, R (o.op.operands.toList.map a.eval) [] v ds)
    (h : ∀ others X, SepF F w X others → wpList P ops (GvQ F w (R (o.op.operands.toList.map a.eval) []) d a.defers others) [o] a X)
    (hnext : ∀ v ds, R (o.op.operands.toList.map a.eval) [] v ds → wpGive P ops (GC F w N) D rel takes Q (i + 1) rest (a.put (some d) v) (sigUpd takes σ i ds)) : wpGive P ops (GC F w N) D rel takes Q i (o :: rest) a σ := by
  have e : (takes i).flatMap σ = [] := by rw [ht]; rfl
  refine give_op d hw hr hd (by simpa [Nat.blt_eq] using hs) (Nat.le_of_ble_eq_true hi) (by rw [ht]; exact List.nodup_nil) (by rw [ht]; intro k hk; cases hk) ?_ ?_ ?_
  · rw [e]; exact hin
  · rw [e]; exact h
  · rw [e]; exact hnext
/-- an operation that takes what operation k gave -/
theorem give_op1 {R : Rel} (d k : Nat) (hw : Region.wanted o (yielded ops a.tmps) = true) (hr : rel i = some R) (hd : o.dst = some d) (hs : Nat.blt d a.tmps.size = true) (hi : Nat.ble i N = true) (ht : takes i = [k]) (hk : Nat.ble k N = true)
    (tk : List Thing) (htk : σ k = tk)
    (hin : ∃ v ds, R (o.op.operands.toList.map a.eval) tk v ds)
    (h : ∀ others X, SepF F w X (tk ++ others) → wpList P ops (GvQ F w (R (o.op.operands.toList.map a.eval) tk) d a.defers others) [o] a X)
    (hnext : ∀ v ds, R (o.op.operands.toList.map a.eval) tk v ds → wpGive P ops (GC F w N) D rel takes Q (i + 1) rest (a.put (some d) v) (sigUpd takes σ i ds)) : wpGive P ops (GC F w N) D rel takes Q i (o :: rest) a σ := by
  have e : (takes i).flatMap σ = tk := by rw [ht, ← htk]; simp
  refine give_op d hw hr hd (by simpa [Nat.blt_eq] using hs) (Nat.le_of_ble_eq_true hi) (by rw [ht]; simp) (by rw [ht]; intro x hx; rw [List.mem_singleton.1 hx]; exact Nat.le_of_ble_eq_true hk) ?_ ?_ ?_
  · rw [e]; exact hin
  · rw [e]; exact h
  · rw [e]; exact hnext
end
theorem sep_eq {F : List Nat} {w0 wr : World} {ts us : List Thing} (h : SepF F w0 wr ts) (e : ts = us) : SepF F w0 wr us := e ▸ h
theorem SepF.startDrew (w : World) : SepF [] w w.drew [] := ⟨Chg.of_below (Below.refl _ _).drew, by simp, by simp, by simp⟩
/-- things of a call behind the things that were there -/
theorem SepF.join {F : List Nat} {w0 wr W : World} {ts us : List Thing} (h : SepF F w0 wr ts) (hS : SepF [] wr W us) : SepF F w0 W (us ++ ts) := by
  have h1 := h.step hS.bel0
  refine ⟨h1.chg, ?_, fun b hb => ?_, fun u hu => ?_⟩
  · rw [List.flatMap_append, List.nodup_append]
    refine ⟨hS.nd, h.nd, fun x hx y hy e => ?_⟩
    subst e
    have h2 := h.lt x hy
    rcases hS.new x hx with h3 | h3
    · cases h3
    · omega
  · rw [List.flatMap_append] at hb
    rcases List.mem_append.1 hb with hb | hb
    · rcases hS.new b hb with h3 | h3
      · cases h3
      · have := h.chg.size; exact .inr (by omega)
    · exact h.new b hb
  · rcases List.mem_append.1 hu with hu | hu
    · exact hS.hold u hu
    · exact h1.hold u hu
/-- what operations give -/
def gSl {α : Type} (E : Rep α) (e : TypeId) (xs : List α) : Rel := fun _ _ v ds => ∃ A n c fp, v = .slice A n c ∧ ds = [tsl E e xs (.slice A n c) fp] ∧ Hid (n = xs.length)
def gPtr (T : TypeId) (cs : List Value) : Rel := fun _ _ v ds => ∃ g, v = .pointer (some ⟨g, 0, none⟩) ∧ ds = [tblk g T cs]
def gEmp (e : TypeId) : Rel := fun _ _ v ds => ∃ g, v = .slice (some ⟨g, 0, none⟩) 0 0 ∧ ds = [tblk g e []]
def gVal (x : Value) : Rel := fun _ _ v ds => v = x ∧ ds = []
theorem gSl_in {α : Type} {E : Rep α} {e : TypeId} {xs : List α} {vals : List Value} {tk : List Thing} : ∃ v ds, gSl E e xs vals tk v ds := ⟨_, _, none, xs.length, 0, [], rfl, rfl, rfl⟩
theorem gPtr_in {T : TypeId} {cs vals : List Value} {tk : List Thing} : ∃ v ds, gPtr T cs vals tk v ds := ⟨_, _, 0, rfl, rfl⟩
theorem gEmp_in {e : TypeId} {vals : List Value} {tk : List Thing} : ∃ v ds, gEmp e vals tk v ds := ⟨_, _, 0, rfl, rfl⟩
theorem gVal_in {x : Value} {vals : List Value} {tk : List Thing} : ∃ v ds, gVal x vals tk v ds := ⟨_, _, rfl, rfl⟩
section
variable {F : List Nat} {w X W : World} {others : List Thing} {vals : List Value} {tk : List Thing} {d : Nat} {df : List Deferred} {a' : Act}
theorem gvq_sl {α : Type} {E : Rep α} {e : TypeId} {xs : List α} {A : Option Addr} {n c : Nat} {fp : List Nat} (h : SepF F w X others) (hb : Below X.heap.size X W) (hs : SlOwn E e W xs (.slice A n c) fp) (hnd : fp.Nodup) (hnew : ∀ b, b ∈ fp → X.heap.size ≤ b)
    (hv : a'.tmps.getD d undef = .slice A n c) (hdf : a'.defers = df) : GvQ F w (gSl E e xs vals tk) d df others .normal a' W := by
  obtain ⟨A', n', c', h1, h2, _⟩ := hs.form
  injection h1 with e1 e2 e3
  exact ⟨rfl, hdf, _, ⟨A, n, c, fp, hv, rfl, e2.trans h2⟩, h.add hb (t := tsl E e xs (.slice A n c) fp) hs hnd hnew⟩
theorem gvq_ptr {T : TypeId} {cs : List Value} {g : Nat} (h : SepF F w X others) (hg : X.heap.size = g) (hv : a'.tmps.getD d undef = .pointer (some ⟨g, 0, none⟩)) (hdf : a'.defers = df) : GvQ F w (gPtr T cs vals tk) d df others .normal a' (X.alloc (.cells cs.toArray T)) :=
  ⟨rfl, hdf, _, ⟨_, hv, rfl⟩, h.alloc' hg T cs⟩
theorem gvq_emp {e : TypeId} {g : Nat} (h : SepF F w X others) (hg : X.heap.size = g) (hv : a'.tmps.getD d undef = .slice (some ⟨g, 0, none⟩) 0 0) (hdf : a'.defers = df) : GvQ F w (gEmp e vals tk) d df others .normal a' (X.alloc (.cells #[] e)) :=
  ⟨rfl, hdf, _, ⟨_, hv, rfl⟩, h.alloc' hg e []⟩
theorem gvq_val {x : Value} (h : SepF F w X others) (hb : Below X.heap.size X W) (hv : a'.tmps.getD d undef = x) (hdf : a'.defers = df) : GvQ F w (gVal x vals tk) d df others .normal a' W :=
  ⟨rfl, hdf, [], ⟨hv, rfl⟩, h.step hb⟩
end
end Mm
end Go.Proofs.YtbhmdnjammnlnaaGreatDoor

/-
  Contracts: slices.Clone where the elements lead nowhere. No conditions.
-/
namespace Go.Proofs.YtbhmdnjammnlnaaGreatDoor
open Go.RowKit
theorem Tryz.info_clSample : (Tryz.prog.info? 124).map (fun i => (i.zero, i.size, i.bytes)) = some (some (.agg #[.int .i64 0, .int .i64 0]), 2, 16) := by kernel_rfl
set_option maxHeartbeats 1000000 in
theorem clSample_c (l : List Sample) (A : Option Addr) (n c : Nat) (w : World) (B : Nat) (hl : Mm.SlAt smp w B l A n c) (hn : n ≤ 1048576) :
    Calls Tryz.prog 96 #[.slice A n c] w (Mm.NewSl smp 124 w l) := by
  have hlen := Lib.hid hl.1
  have hcap := hl.2.1
  have hq : ∀ (w : World) (a : Option Addr) (n c n' c' : Nat), (binOp .eql 62 (.slice a n c) (.slice none n' c')).run Tryz.prog w = .ok (.bool a.isNone) w := fun w a n c n' c' => Lib.run_eql_slice_nil w _ _ a n c n' c' Tryz.underlying62
  cases A with
  | none =>
    have hc : c = 0 := hl.2.2.2.1 rfl
    have hl0 : l = [] := List.length_eq_zero_iff.1 (by rw [hlen.out]; omega)
    subst hl0
    clear hl
    go_enter Tryz.func96, Tryz.ntmps96
    go_wp2
    go_ret
    exact (Mm.Acc.nil (Below.refl _ _)).newsl
  | some a =>
    have HC := Lib.hid (Mm.flat_cells' (E := smp) (enc := (fun x : Sample => ([.int .i64 x.At, .int .i64 x.Value] : List Value))) (fun x cs h => h.1) hl)
    have HLN := Lib.hid (Mm.flat_len (E := smp) (enc := (fun x : Sample => ([.int .i64 x.At, .int .i64 x.Value] : List Value))) (fun x cs h => h.1) hl)
    have HOK : Hid (∀ (w' : World) x, x ∈ l → (smp).own w' x ((fun x : Sample => ([.int .i64 x.At, .int .i64 x.Value] : List Value)) x) []) := fun w' x hx => by
      obtain ⟨i, hi, rfl⟩ := List.mem_iff_getElem.1 hx
      obtain ⟨y, b, off, cs, hy, _, _, ha, _⟩ := hl.get (k := i) (by rw [← hlen.out]; exact hi)
      rw [List.getElem?_eq_getElem hi] at hy
      injection hy with hy
      subst hy
      exact ⟨rfl, ha.2, rfl⟩
    have H1 : Hid (∀ u : Value, u ∈ l.flatMap (fun x : Sample => ([.int .i64 x.At, .int .i64 x.Value] : List Value)) → u.oneCell' = true) := fun u hu => by
      obtain ⟨x, hx, hu⟩ := List.mem_flatMap.1 hu
      exact smp.one (HOK.out w x hx) u hu
    clear hl
    obtain ⟨i0, hi, hz0, hz1, hz2⟩ := info_parts Tryz.info_clSample
    go_enter Tryz.func96, Tryz.ntmps96
    go_wp2_with (at_builtin; refine wpList_append_own_at _ rfl _ _ 62 rfl w.heap.size 124 i0 (.agg #[.int .i64 0, .int .i64 0]) 2 16 Tryz.underlying62 hi hz0 hz1 hz2 rfl (by decide) _ _ _ rfl (World.ownsRow_made w #[] 0 (Nat.le_refl _) (Nat.zero_le _) rfl) a n c (l.flatMap (fun x : Sample => ([.int .i64 x.At, .int .i64 x.Value] : List Value))) rfl HLN.out (fun j u hj => Lib.cell?_alloc_some _ (HC.out j u hj)) H1.out (by unfold maxLen; omega) (by omega) (by simp) ?_; intro v' w1 hown hgrow hnil hat)
    have HA := Lib.hid (Mm.clone_post (E := smp) (e := 124) (Nat.zero_add _) (List.nil_append _) hown hgrow (fun x hx => HOK.out _ x hx) hlen.out)
    clear hown hgrow hat hnil
    go_wp2
    go_ret
    exact HA.out.newsl
theorem Tryz.info_clInt : (Tryz.prog.info? 3).map (fun i => (i.zero, i.size, i.bytes)) = some (some (.int .i64 0), 1, 8) := by kernel_rfl
set_option maxHeartbeats 1000000 in
theorem clInt_c (l : List Int) (A : Option Addr) (n c : Nat) (w : World) (B : Nat) (hl : Mm.SlAt Mm.int w B l A n c) (hn : n ≤ 1048576) :
    Calls Tryz.prog 171 #[.slice A n c] w (Mm.NewSl Mm.int 3 w l) := by
  have hlen := Lib.hid hl.1
  have hcap := hl.2.1
  have hq : ∀ (w : World) (a : Option Addr) (n c n' c' : Nat), (binOp .eql 133 (.slice a n c) (.slice none n' c')).run Tryz.prog w = .ok (.bool a.isNone) w := fun w a n c n' c' => Lib.run_eql_slice_nil w _ _ a n c n' c' Tryz.underlying133
  cases A with
  | none =>
    have hc : c = 0 := hl.2.2.2.1 rfl
    have hl0 : l = [] := List.length_eq_zero_iff.1 (by rw [hlen.out]; omega)
    subst hl0
    clear hl
    go_enter Tryz.func171, Tryz.ntmps171
    go_wp2
    go_ret
    exact (Mm.Acc.nil (Below.refl _ _)).newsl
  | some a =>
    have HC := Lib.hid (Mm.flat_cells' (E := Mm.int) (enc := (fun x : Int => ([.int .i64 x] : List Value))) (fun x cs h => h.1) hl)
    have HLN := Lib.hid (Mm.flat_len (E := Mm.int) (enc := (fun x : Int => ([.int .i64 x] : List Value))) (fun x cs h => h.1) hl)
    have HOK : Hid (∀ (w' : World) x, x ∈ l → (Mm.int).own w' x ((fun x : Int => ([.int .i64 x] : List Value)) x) []) := fun w' x hx => by
      obtain ⟨i, hi, rfl⟩ := List.mem_iff_getElem.1 hx
      obtain ⟨y, b, off, cs, hy, _, _, ha, _⟩ := hl.get (k := i) (by rw [← hlen.out]; exact hi)
      rw [List.getElem?_eq_getElem hi] at hy
      injection hy with hy
      subst hy
      exact ⟨rfl, ha.2, rfl⟩
    have H1 : Hid (∀ u : Value, u ∈ l.flatMap (fun x : Int => ([.int .i64 x] : List Value)) → u.oneCell' = true) := fun u hu => by
      obtain ⟨x, hx, hu⟩ := List.mem_flatMap.1 hu
      exact Mm.int.one (HOK.out w x hx) u hu
    clear hl
    obtain ⟨i0, hi, hz0, hz1, hz2⟩ := info_parts Tryz.info_clInt
    go_enter Tryz.func171, Tryz.ntmps171
    go_wp2_with (at_builtin; refine wpList_append_own_at _ rfl _ _ 133 rfl w.heap.size 3 i0 (.int .i64 0) 1 8 Tryz.underlying133 hi hz0 hz1 hz2 rfl (by decide) _ _ _ rfl (World.ownsRow_made w #[] 0 (Nat.le_refl _) (Nat.zero_le _) rfl) a n c (l.flatMap (fun x : Int => ([.int .i64 x] : List Value))) rfl HLN.out (fun j u hj => Lib.cell?_alloc_some _ (HC.out j u hj)) H1.out (by unfold maxLen; omega) (by omega) (by simp) ?_; intro v' w1 hown hgrow hnil hat)
    have HA := Lib.hid (Mm.clone_post (E := Mm.int) (e := 3) (Nat.zero_add _) (List.nil_append _) hown hgrow (fun x hx => HOK.out _ x hx) hlen.out)
    clear hown hgrow hat hnil
    go_wp2
    go_ret
    exact HA.out.newsl
end Go.Proofs.YtbhmdnjammnlnaaGreatDoor
