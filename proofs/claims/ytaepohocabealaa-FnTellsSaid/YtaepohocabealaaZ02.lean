/-
  Joined texts, in build order: Mk, Ty, To, P1, Pc, Pt, Wa, Op, Qt, Ts, Sx. Each part says what it proves; no conditions beyond those that a part names.
-/
import Derived.Test.YtaepohocabealaaZ01
import Derived.Test.YtaepohocabealaaRows
import Derived.WalkKit
import Derived.WalkLawsBesides
import Derived.WalkSpells
import Derived.Outline
import Derived.IntWalk
import Derived.Lib.Hide
import Derived.ProofKit
import Derived.OpenShut
import Derived.Deep.Slices
import Derived.StillTail
import Derived.Deep.DeepFit
import Derived.Deep.RegionLaw
import Derived.Deep.LoopGhost
import Derived.Deep.DeepCutAuto
/-
  What a marking makes of the program's types. No program in sight. No conditions.
-/
namespace Go.Proofs.Ytaepohocabealaa
namespace Pl
def mkText (k : Int) : ByteArray := ⟨(109 :: digs k.toNat k.toNat []).toArray⟩
def mkInt (_ : Int) (k : Int) : Int := k
def mkBool (_ : Bool) (k : Int) : Bool := k % 3 == 0
def mkStr (_ : ByteArray) (k : Int) : ByteArray := mkText k
def cnt1 {α : Type} (_ : α) : Int := 1
theorem cnt1_nn {α : Type} (x : α) : 0 ≤ cnt1 x := by unfold cnt1; omega
def mkSample (_ : Sample) (k : Int) : Sample := ⟨k, (k + 1)⟩
def cntSample (_ : Sample) : Int := 1 + 1
theorem cntSample_nn (x : Sample) : 0 ≤ cntSample x := by
  unfold cntSample; omega
def mkWindow (_ : Window) (k : Int) : Window := ⟨k, (k + 1), ((k + 1) + 1), (((k + 1) + 1) + 1), ((((k + 1) + 1) + 1) + 1)⟩
def cntWindow (_ : Window) : Int := 1 + 1 + 1 + 1 + 1
theorem cntWindow_nn (x : Window) : 0 ≤ cntWindow x := by
  unfold cntWindow; omega
def mkTold (_ : Told) (k : Int) : Told := ⟨k, (k + 1), Pl.mkText (((k + 1) + 1))⟩
def cntTold (_ : Told) : Int := 1 + 1 + 1
theorem cntTold_nn (x : Told) : 0 ≤ cntTold x := by
  unfold cntTold; omega
def mkNote (_ : Note) (k : Int) : Note := ⟨(k % 3 == 0), ⟨(k + 1), ((k + 1) + 1), Pl.mkText ((((k + 1) + 1) + 1))⟩⟩
def cntNote (_ : Note) : Int := 1 + 1 + 1 + 1
theorem cntNote_nn (x : Note) : 0 ≤ cntNote x := by
  unfold cntNote; omega
def mkTellStep (_ : TellStep) (k : Int) : TellStep := ⟨k, (k + 1), Pl.mkText (((k + 1) + 1))⟩
def cntTellStep (_ : TellStep) : Int := 1 + 1 + 1
theorem cntTellStep_nn (x : TellStep) : 0 ≤ cntTellStep x := by
  unfold cntTellStep; omega
def mkSnapStep (_ : SnapStep) (k : Int) : SnapStep := ⟨k, (k + 1), ((k + 1) + 1), (((k + 1) + 1) + 1)⟩
def cntSnapStep (_ : SnapStep) : Int := 1 + 1 + 1 + 1
theorem cntSnapStep_nn (x : SnapStep) : 0 ≤ cntSnapStep x := by
  unfold cntSnapStep; omega
def mkSay (_ : Say) (k : Int) : Say := ⟨Pl.mkText (k), (k + 1), ((k + 1) + 1)⟩
def cntSay (_ : Say) : Int := 1 + 1 + 1
theorem cntSay_nn (x : Say) : 0 ≤ cntSay x := by
  unfold cntSay; omega
def mkLabel (_ : Label) (k : Int) : Label := ⟨Pl.mkText (k), Pl.mkText ((k + 1))⟩
def cntLabel (_ : Label) : Int := 1 + 1
theorem cntLabel_nn (x : Label) : 0 ≤ cntLabel x := by
  unfold cntLabel; omega
def mkEntry (_ : Entry) (k : Int) : Entry := ⟨k, Pl.mkText ((k + 1))⟩
def cntEntry (_ : Entry) : Int := 1 + 1
theorem cntEntry_nn (x : Entry) : 0 ≤ cntEntry x := by
  unfold cntEntry; omega
def mkStart (_ : Start) (k : Int) : Start := ⟨k, (k + 1)⟩
def cntStart (_ : Start) : Int := 1 + 1
theorem cntStart_nn (x : Start) : 0 ≤ cntStart x := by
  unfold cntStart; omega
def mkLetter (_ : Letter) (k : Int) : Letter := ⟨k, (k + 1), ((k + 1) + 1), ((((k + 1) + 1) + 1) % 3 == 0), ((((k + 1) + 1) + 1) + 1)⟩
def cntLetter (_ : Letter) : Int := 1 + 1 + 1 + 1 + 1
theorem cntLetter_nn (x : Letter) : 0 ≤ cntLetter x := by
  unfold cntLetter; omega
def mkVoteStep (_ : VoteStep) (k : Int) : VoteStep := ⟨k, (k + 1)⟩
def cntVoteStep (_ : VoteStep) : Int := 1 + 1
theorem cntVoteStep_nn (x : VoteStep) : 0 ≤ cntVoteStep x := by
  unfold cntVoteStep; omega
def mkReplStep (_ : ReplStep) (k : Int) : ReplStep := ⟨k, (k + 1), Pl.mkText (((k + 1) + 1))⟩
def cntReplStep (_ : ReplStep) : Int := 1 + 1 + 1
theorem cntReplStep_nn (x : ReplStep) : 0 ≤ cntReplStep x := by
  unfold cntReplStep; omega
def mkHouseStep (_ : HouseStep) (k : Int) : HouseStep := ⟨k, (k + 1), ⟨Pl.mkText (((k + 1) + 1)), (((k + 1) + 1) + 1), ((((k + 1) + 1) + 1) + 1)⟩⟩
def cntHouseStep (_ : HouseStep) : Int := 1 + 1 + 1 + 1 + 1
theorem cntHouseStep_nn (x : HouseStep) : 0 ≤ cntHouseStep x := by
  unfold cntHouseStep; omega
def mkToken (_ : Token) (k : Int) : Token := ⟨k, (k + 1)⟩
def cntToken (_ : Token) : Int := 1 + 1
theorem cntToken_nn (x : Token) : 0 ≤ cntToken x := by
  unfold cntToken; omega
def mkRow (x : Row) (k : Int) : Row := ⟨Pl.mkText (k), (Mm.mkL Pl.mkSample Pl.cntSample) x.Samples (k + 1)⟩
def cntRow (x : Row) : Int := 1 + (Mm.cntL Pl.cntSample) x.Samples
theorem cntRow_nn (x : Row) : 0 ≤ cntRow x := by
  have h1 := Mm.cntL_nn (cnt := cntSample) (cntSample_nn) x.Samples
  unfold cntRow; omega
def mkHead (x : Head) (k : Int) : Head := ⟨(Mm.mkL Pl.mkRow Pl.cntRow) x.Rows k, (k + (Mm.cntL Pl.cntRow) x.Rows)⟩
def cntHead (x : Head) : Int := (Mm.cntL Pl.cntRow) x.Rows + 1
theorem cntHead_nn (x : Head) : 0 ≤ cntHead x := by
  have h0 := Mm.cntL_nn (cnt := cntRow) (cntRow_nn) x.Rows
  unfold cntHead; omega
def mkItem (x : Item) (k : Int) : Item := ⟨(Mm.mkL Pl.mkLabel Pl.cntLabel) x.Labels k, (k + (Mm.cntL Pl.cntLabel) x.Labels)⟩
def cntItem (x : Item) : Int := (Mm.cntL Pl.cntLabel) x.Labels + 1
theorem cntItem_nn (x : Item) : 0 ≤ cntItem x := by
  have h0 := Mm.cntL_nn (cnt := cntLabel) (cntLabel_nn) x.Labels
  unfold cntItem; omega
def mkTotal (x : Total) (k : Int) : Total := ⟨(Mm.mkL Pl.mkLabel Pl.cntLabel) x.Labels k, (k + (Mm.cntL Pl.cntLabel) x.Labels), ((k + (Mm.cntL Pl.cntLabel) x.Labels) + 1), (((k + (Mm.cntL Pl.cntLabel) x.Labels) + 1) + 1), ((((k + (Mm.cntL Pl.cntLabel) x.Labels) + 1) + 1) + 1)⟩
def cntTotal (x : Total) : Int := (Mm.cntL Pl.cntLabel) x.Labels + 1 + 1 + 1 + 1
theorem cntTotal_nn (x : Total) : 0 ≤ cntTotal x := by
  have h0 := Mm.cntL_nn (cnt := cntLabel) (cntLabel_nn) x.Labels
  unfold cntTotal; omega
def mkSketch (x : Sketch) (k : Int) : Sketch := ⟨(Mm.mkL (Mm.mkL Pl.mkInt Pl.cnt1) (Mm.cntL Pl.cnt1)) x.Rows k, (k + (Mm.cntL (Mm.cntL Pl.cnt1)) x.Rows)⟩
def cntSketch (x : Sketch) : Int := (Mm.cntL (Mm.cntL Pl.cnt1)) x.Rows + 1
theorem cntSketch_nn (x : Sketch) : 0 ≤ cntSketch x := by
  have h0 := Mm.cntL_nn (cnt := (Mm.cntL cnt1)) (Mm.cntL_nn (cnt := cnt1) (cnt1_nn)) x.Rows
  unfold cntSketch; omega
def mkHeavy (x : Heavy) (k : Int) : Heavy := ⟨(Mm.mkL Pl.mkStr Pl.cnt1) x.Names k, (Mm.mkL Pl.mkInt Pl.cnt1) x.Counts (k + (Mm.cntL Pl.cnt1) x.Names), ((k + (Mm.cntL Pl.cnt1) x.Names) + (Mm.cntL Pl.cnt1) x.Counts), (((k + (Mm.cntL Pl.cnt1) x.Names) + (Mm.cntL Pl.cnt1) x.Counts) + 1)⟩
def cntHeavy (x : Heavy) : Int := (Mm.cntL Pl.cnt1) x.Names + (Mm.cntL Pl.cnt1) x.Counts + 1 + 1
theorem cntHeavy_nn (x : Heavy) : 0 ≤ cntHeavy x := by
  have h0 := Mm.cntL_nn (cnt := cnt1) (cnt1_nn) x.Names
  have h1 := Mm.cntL_nn (cnt := cnt1) (cnt1_nn) x.Counts
  unfold cntHeavy; omega
def mkPiece (x : Piece) (k : Int) : Piece := ⟨k, Pl.mkText ((k + 1)), (Mm.mkL Pl.mkInt Pl.cnt1) x.Index ((k + 1) + 1)⟩
def cntPiece (x : Piece) : Int := 1 + 1 + (Mm.cntL Pl.cnt1) x.Index
theorem cntPiece_nn (x : Piece) : 0 ≤ cntPiece x := by
  have h2 := Mm.cntL_nn (cnt := cnt1) (cnt1_nn) x.Index
  unfold cntPiece; omega
def mkLog (x : Log) (k : Int) : Log := ⟨(Mm.mkL Pl.mkPiece Pl.cntPiece) x.Pieces k, (k + (Mm.cntL Pl.cntPiece) x.Pieces)⟩
def cntLog (x : Log) : Int := (Mm.cntL Pl.cntPiece) x.Pieces + 1
theorem cntLog_nn (x : Log) : 0 ≤ cntLog x := by
  have h0 := Mm.cntL_nn (cnt := cntPiece) (cntPiece_nn) x.Pieces
  unfold cntLog; omega
def mkHouse (x : House) (k : Int) : House := ⟨(Mm.mkL Pl.mkLog Pl.cntLog) x.Logs k, (Mm.mkL Pl.mkHead Pl.cntHead) x.Heads (k + (Mm.cntL Pl.cntLog) x.Logs), (Mm.mkL Pl.mkHead Pl.cntHead) x.Kept ((k + (Mm.cntL Pl.cntLog) x.Logs) + (Mm.cntL Pl.cntHead) x.Heads)⟩
def cntHouse (x : House) : Int := (Mm.cntL Pl.cntLog) x.Logs + (Mm.cntL Pl.cntHead) x.Heads + (Mm.cntL Pl.cntHead) x.Kept
theorem cntHouse_nn (x : House) : 0 ≤ cntHouse x := by
  have h0 := Mm.cntL_nn (cnt := cntLog) (cntLog_nn) x.Logs
  have h1 := Mm.cntL_nn (cnt := cntHead) (cntHead_nn) x.Heads
  have h2 := Mm.cntL_nn (cnt := cntHead) (cntHead_nn) x.Kept
  unfold cntHouse; omega
def mkTell (x : Tell) (k : Int) : Tell := ⟨(Mm.mkL (Mm.mkL Pl.mkStr Pl.cnt1) (Mm.cntL Pl.cnt1)) x.Texts k, (Mm.mkL Pl.mkInt Pl.cnt1) x.Heard (k + (Mm.cntL (Mm.cntL Pl.cnt1)) x.Texts), (Mm.mkL Pl.mkNote Pl.cntNote) x.Line ((k + (Mm.cntL (Mm.cntL Pl.cnt1)) x.Texts) + (Mm.cntL Pl.cnt1) x.Heard), (Mm.mkL Pl.mkTold Pl.cntTold) x.Log (((k + (Mm.cntL (Mm.cntL Pl.cnt1)) x.Texts) + (Mm.cntL Pl.cnt1) x.Heard) + (Mm.cntL Pl.cntNote) x.Line), (Mm.mkL Pl.mkInt Pl.cnt1) x.Next ((((k + (Mm.cntL (Mm.cntL Pl.cnt1)) x.Texts) + (Mm.cntL Pl.cnt1) x.Heard) + (Mm.cntL Pl.cntNote) x.Line) + (Mm.cntL Pl.cntTold) x.Log)⟩
def cntTell (x : Tell) : Int := (Mm.cntL (Mm.cntL Pl.cnt1)) x.Texts + (Mm.cntL Pl.cnt1) x.Heard + (Mm.cntL Pl.cntNote) x.Line + (Mm.cntL Pl.cntTold) x.Log + (Mm.cntL Pl.cnt1) x.Next
theorem cntTell_nn (x : Tell) : 0 ≤ cntTell x := by
  have h0 := Mm.cntL_nn (cnt := (Mm.cntL cnt1)) (Mm.cntL_nn (cnt := cnt1) (cnt1_nn)) x.Texts
  have h1 := Mm.cntL_nn (cnt := cnt1) (cnt1_nn) x.Heard
  have h2 := Mm.cntL_nn (cnt := cntNote) (cntNote_nn) x.Line
  have h3 := Mm.cntL_nn (cnt := cntTold) (cntTold_nn) x.Log
  have h4 := Mm.cntL_nn (cnt := cnt1) (cnt1_nn) x.Next
  unfold cntTell; omega
def mkBank (x : Bank) (k : Int) : Bank := ⟨(Mm.mkL Pl.mkInt Pl.cnt1) x.Coins k, (Mm.mkL (Mm.mkL Pl.mkInt Pl.cnt1) (Mm.cntL Pl.cnt1)) x.Ways (k + (Mm.cntL Pl.cnt1) x.Coins), (Mm.mkL Pl.mkInt Pl.cnt1) x.Kept ((k + (Mm.cntL Pl.cnt1) x.Coins) + (Mm.cntL (Mm.cntL Pl.cnt1)) x.Ways), (Mm.mkL (Mm.mkL Pl.mkBool Pl.cnt1) (Mm.cntL Pl.cnt1)) x.Heard (((k + (Mm.cntL Pl.cnt1) x.Coins) + (Mm.cntL (Mm.cntL Pl.cnt1)) x.Ways) + (Mm.cntL Pl.cnt1) x.Kept), (Mm.mkL (Mm.mkL Pl.mkInt Pl.cnt1) (Mm.cntL Pl.cnt1)) x.Found ((((k + (Mm.cntL Pl.cnt1) x.Coins) + (Mm.cntL (Mm.cntL Pl.cnt1)) x.Ways) + (Mm.cntL Pl.cnt1) x.Kept) + (Mm.cntL (Mm.cntL Pl.cnt1)) x.Heard)⟩
def cntBank (x : Bank) : Int := (Mm.cntL Pl.cnt1) x.Coins + (Mm.cntL (Mm.cntL Pl.cnt1)) x.Ways + (Mm.cntL Pl.cnt1) x.Kept + (Mm.cntL (Mm.cntL Pl.cnt1)) x.Heard + (Mm.cntL (Mm.cntL Pl.cnt1)) x.Found
theorem cntBank_nn (x : Bank) : 0 ≤ cntBank x := by
  have h0 := Mm.cntL_nn (cnt := cnt1) (cnt1_nn) x.Coins
  have h1 := Mm.cntL_nn (cnt := (Mm.cntL cnt1)) (Mm.cntL_nn (cnt := cnt1) (cnt1_nn)) x.Ways
  have h2 := Mm.cntL_nn (cnt := cnt1) (cnt1_nn) x.Kept
  have h3 := Mm.cntL_nn (cnt := (Mm.cntL cnt1)) (Mm.cntL_nn (cnt := cnt1) (cnt1_nn)) x.Heard
  have h4 := Mm.cntL_nn (cnt := (Mm.cntL cnt1)) (Mm.cntL_nn (cnt := cnt1) (cnt1_nn)) x.Found
  unfold cntBank; omega
def mkNode (x : Node) (k : Int) : Node := ⟨k, (k + 1), ((k + 1) + 1), (Mm.mkL Pl.mkInt Pl.cnt1) x.Heard (((k + 1) + 1) + 1), ((((k + 1) + 1) + 1) + (Mm.cntL Pl.cnt1) x.Heard)⟩
def cntNode (x : Node) : Int := 1 + 1 + 1 + (Mm.cntL Pl.cnt1) x.Heard + 1
theorem cntNode_nn (x : Node) : 0 ≤ cntNode x := by
  have h3 := Mm.cntL_nn (cnt := cnt1) (cnt1_nn) x.Heard
  unfold cntNode; omega
def mkPoll (x : Poll) (k : Int) : Poll := ⟨(Mm.mkL Pl.mkNode Pl.cntNode) x.Nodes k, (Mm.mkL Pl.mkLetter Pl.cntLetter) x.Letters (k + (Mm.cntL Pl.cntNode) x.Nodes), (Mm.mkL (Mm.mkL Pl.mkInt Pl.cnt1) (Mm.cntL Pl.cnt1)) x.Leaders ((k + (Mm.cntL Pl.cntNode) x.Nodes) + (Mm.cntL Pl.cntLetter) x.Letters)⟩
def cntPoll (x : Poll) : Int := (Mm.cntL Pl.cntNode) x.Nodes + (Mm.cntL Pl.cntLetter) x.Letters + (Mm.cntL (Mm.cntL Pl.cnt1)) x.Leaders
theorem cntPoll_nn (x : Poll) : 0 ≤ cntPoll x := by
  have h0 := Mm.cntL_nn (cnt := cntNode) (cntNode_nn) x.Nodes
  have h1 := Mm.cntL_nn (cnt := cntLetter) (cntLetter_nn) x.Letters
  have h2 := Mm.cntL_nn (cnt := (Mm.cntL cnt1)) (Mm.cntL_nn (cnt := cnt1) (cnt1_nn)) x.Leaders
  unfold cntPoll; omega
def mkRepl (x : Repl) (k : Int) : Repl := ⟨(Mm.mkL (Mm.mkL Pl.mkEntry Pl.cntEntry) (Mm.cntL Pl.cntEntry)) x.Logs k, (Mm.mkL Pl.mkBool Pl.cnt1) x.Down (k + (Mm.cntL (Mm.cntL Pl.cntEntry)) x.Logs), ((k + (Mm.cntL (Mm.cntL Pl.cntEntry)) x.Logs) + (Mm.cntL Pl.cnt1) x.Down), (((k + (Mm.cntL (Mm.cntL Pl.cntEntry)) x.Logs) + (Mm.cntL Pl.cnt1) x.Down) + 1), (Mm.mkL Pl.mkInt Pl.cnt1) x.InSync ((((k + (Mm.cntL (Mm.cntL Pl.cntEntry)) x.Logs) + (Mm.cntL Pl.cnt1) x.Down) + 1) + 1), (Mm.mkL Pl.mkEntry Pl.cntEntry) x.Certain (((((k + (Mm.cntL (Mm.cntL Pl.cntEntry)) x.Logs) + (Mm.cntL Pl.cnt1) x.Down) + 1) + 1) + (Mm.cntL Pl.cnt1) x.InSync)⟩
def cntRepl (x : Repl) : Int := (Mm.cntL (Mm.cntL Pl.cntEntry)) x.Logs + (Mm.cntL Pl.cnt1) x.Down + 1 + 1 + (Mm.cntL Pl.cnt1) x.InSync + (Mm.cntL Pl.cntEntry) x.Certain
theorem cntRepl_nn (x : Repl) : 0 ≤ cntRepl x := by
  have h0 := Mm.cntL_nn (cnt := (Mm.cntL cntEntry)) (Mm.cntL_nn (cnt := cntEntry) (cntEntry_nn)) x.Logs
  have h1 := Mm.cntL_nn (cnt := cnt1) (cnt1_nn) x.Down
  have h4 := Mm.cntL_nn (cnt := cnt1) (cnt1_nn) x.InSync
  have h5 := Mm.cntL_nn (cnt := cntEntry) (cntEntry_nn) x.Certain
  unfold cntRepl; omega
def topSketch (x : Sketch) (k : Int) : Sketch := ⟨(Mm.mkL (Mm.mkL Pl.mkInt Pl.cnt1) (Mm.cntL Pl.cnt1)) x.Rows k, x.Total⟩
def ctopSketch (x : Sketch) : Int := (Mm.cntL (Mm.cntL Pl.cnt1)) x.Rows
def topHeavy (x : Heavy) (k : Int) : Heavy := ⟨(Mm.mkL Pl.mkStr Pl.cnt1) x.Names k, (Mm.mkL Pl.mkInt Pl.cnt1) x.Counts (k + (Mm.cntL Pl.cnt1) x.Names), x.Gone, x.Total⟩
def ctopHeavy (x : Heavy) : Int := (Mm.cntL Pl.cnt1) x.Names + (Mm.cntL Pl.cnt1) x.Counts
def topHead (x : Head) (k : Int) : Head := ⟨(Mm.mkL Pl.mkRow Pl.cntRow) x.Rows k, x.Offset⟩
def ctopHead (x : Head) : Int := (Mm.cntL Pl.cntRow) x.Rows
def topLog (x : Log) (k : Int) : Log := ⟨(Mm.mkL Pl.mkPiece Pl.cntPiece) x.Pieces k, x.Begin⟩
def ctopLog (x : Log) : Int := (Mm.cntL Pl.cntPiece) x.Pieces
def topTell (x : Tell) (k : Int) : Tell := ⟨(Mm.mkL (Mm.mkL Pl.mkStr Pl.cnt1) (Mm.cntL Pl.cnt1)) x.Texts k, (Mm.mkL Pl.mkInt Pl.cnt1) x.Heard (k + (Mm.cntL (Mm.cntL Pl.cnt1)) x.Texts), (Mm.mkL Pl.mkNote Pl.cntNote) x.Line ((k + (Mm.cntL (Mm.cntL Pl.cnt1)) x.Texts) + (Mm.cntL Pl.cnt1) x.Heard), (Mm.mkL Pl.mkTold Pl.cntTold) x.Log (((k + (Mm.cntL (Mm.cntL Pl.cnt1)) x.Texts) + (Mm.cntL Pl.cnt1) x.Heard) + (Mm.cntL Pl.cntNote) x.Line), (Mm.mkL Pl.mkInt Pl.cnt1) x.Next ((((k + (Mm.cntL (Mm.cntL Pl.cnt1)) x.Texts) + (Mm.cntL Pl.cnt1) x.Heard) + (Mm.cntL Pl.cntNote) x.Line) + (Mm.cntL Pl.cntTold) x.Log)⟩
def ctopTell (x : Tell) : Int := (Mm.cntL (Mm.cntL Pl.cnt1)) x.Texts + (Mm.cntL Pl.cnt1) x.Heard + (Mm.cntL Pl.cntNote) x.Line + (Mm.cntL Pl.cntTold) x.Log + (Mm.cntL Pl.cnt1) x.Next
def topBank (x : Bank) (k : Int) : Bank := ⟨(Mm.mkL Pl.mkInt Pl.cnt1) x.Coins k, (Mm.mkL (Mm.mkL Pl.mkInt Pl.cnt1) (Mm.cntL Pl.cnt1)) x.Ways (k + (Mm.cntL Pl.cnt1) x.Coins), (Mm.mkL Pl.mkInt Pl.cnt1) x.Kept ((k + (Mm.cntL Pl.cnt1) x.Coins) + (Mm.cntL (Mm.cntL Pl.cnt1)) x.Ways), (Mm.mkL (Mm.mkL Pl.mkBool Pl.cnt1) (Mm.cntL Pl.cnt1)) x.Heard (((k + (Mm.cntL Pl.cnt1) x.Coins) + (Mm.cntL (Mm.cntL Pl.cnt1)) x.Ways) + (Mm.cntL Pl.cnt1) x.Kept), (Mm.mkL (Mm.mkL Pl.mkInt Pl.cnt1) (Mm.cntL Pl.cnt1)) x.Found ((((k + (Mm.cntL Pl.cnt1) x.Coins) + (Mm.cntL (Mm.cntL Pl.cnt1)) x.Ways) + (Mm.cntL Pl.cnt1) x.Kept) + (Mm.cntL (Mm.cntL Pl.cnt1)) x.Heard)⟩
def ctopBank (x : Bank) : Int := (Mm.cntL Pl.cnt1) x.Coins + (Mm.cntL (Mm.cntL Pl.cnt1)) x.Ways + (Mm.cntL Pl.cnt1) x.Kept + (Mm.cntL (Mm.cntL Pl.cnt1)) x.Heard + (Mm.cntL (Mm.cntL Pl.cnt1)) x.Found
def topHouse (x : House) (k : Int) : House := ⟨(Mm.mkL Pl.mkLog Pl.cntLog) x.Logs k, (Mm.mkL Pl.mkHead Pl.cntHead) x.Heads (k + (Mm.cntL Pl.cntLog) x.Logs), (Mm.mkL Pl.mkHead Pl.cntHead) x.Kept ((k + (Mm.cntL Pl.cntLog) x.Logs) + (Mm.cntL Pl.cntHead) x.Heads)⟩
def ctopHouse (x : House) : Int := (Mm.cntL Pl.cntLog) x.Logs + (Mm.cntL Pl.cntHead) x.Heads + (Mm.cntL Pl.cntHead) x.Kept
def topPoll (x : Poll) (k : Int) : Poll := ⟨(Mm.mkL Pl.mkNode Pl.cntNode) x.Nodes k, (Mm.mkL Pl.mkLetter Pl.cntLetter) x.Letters (k + (Mm.cntL Pl.cntNode) x.Nodes), (Mm.mkL (Mm.mkL Pl.mkInt Pl.cnt1) (Mm.cntL Pl.cnt1)) x.Leaders ((k + (Mm.cntL Pl.cntNode) x.Nodes) + (Mm.cntL Pl.cntLetter) x.Letters)⟩
def ctopPoll (x : Poll) : Int := (Mm.cntL Pl.cntNode) x.Nodes + (Mm.cntL Pl.cntLetter) x.Letters + (Mm.cntL (Mm.cntL Pl.cnt1)) x.Leaders
def topRepl (x : Repl) (k : Int) : Repl := ⟨(Mm.mkL (Mm.mkL Pl.mkEntry Pl.cntEntry) (Mm.cntL Pl.cntEntry)) x.Logs k, (Mm.mkL Pl.mkBool Pl.cnt1) x.Down (k + (Mm.cntL (Mm.cntL Pl.cntEntry)) x.Logs), x.Leader, x.Epoch, (Mm.mkL Pl.mkInt Pl.cnt1) x.InSync ((k + (Mm.cntL (Mm.cntL Pl.cntEntry)) x.Logs) + (Mm.cntL Pl.cnt1) x.Down), (Mm.mkL Pl.mkEntry Pl.cntEntry) x.Certain (((k + (Mm.cntL (Mm.cntL Pl.cntEntry)) x.Logs) + (Mm.cntL Pl.cnt1) x.Down) + (Mm.cntL Pl.cnt1) x.InSync)⟩
def ctopRepl (x : Repl) : Int := (Mm.cntL (Mm.cntL Pl.cntEntry)) x.Logs + (Mm.cntL Pl.cnt1) x.Down + (Mm.cntL Pl.cnt1) x.InSync + (Mm.cntL Pl.cntEntry) x.Certain
end Pl
namespace Pl
theorem cntLb {α : Type} {cnt f : α → Int} (h : ∀ x, cnt x ≤ 8 * (1 + f x)) : ∀ l : List α, Mm.cntL cnt l ≤ 8 * szl f l
  | [] => by simp [Mm.cntL, szl, sumI]
  | x :: t => by
    have h1 := h x
    have h2 := cntLb h t
    show cnt x + Mm.cntL cnt t ≤ 8 * (((t.length + 1 : Nat) : Int) + (f x + sumI f t))
    unfold szl at h2
    omega
theorem cntbSample (x : Sample) : cntSample x ≤ 8 * (1 + Pl.sz0 x) := by
  unfold cntSample sz0
  omega
theorem cntbWindow (x : Window) : cntWindow x ≤ 8 * (1 + Pl.sz0 x) := by
  unfold cntWindow sz0
  omega
theorem cntbTold (x : Told) : cntTold x ≤ 8 * (1 + Pl.szTold x) := by
  have s2 := szStr_nn x.Text
  unfold cntTold szTold
  omega
theorem cntbNote (x : Note) : cntNote x ≤ 8 * (1 + Pl.szNote x) := by
  have s3 := szStr_nn x.What.Text
  unfold cntNote szNote szTold
  omega
theorem cntbTellStep (x : TellStep) : cntTellStep x ≤ 8 * (1 + Pl.szTellStep x) := by
  have s2 := szStr_nn x.Text
  unfold cntTellStep szTellStep
  omega
theorem cntbSnapStep (x : SnapStep) : cntSnapStep x ≤ 8 * (1 + Pl.sz0 x) := by
  unfold cntSnapStep sz0
  omega
theorem cntbSay (x : Say) : cntSay x ≤ 8 * (1 + Pl.szSay x) := by
  have s0 := szStr_nn x.Name
  unfold cntSay szSay
  omega
theorem cntbLabel (x : Label) : cntLabel x ≤ 8 * (1 + Pl.szLabel x) := by
  have s0 := szStr_nn x.Name
  have s1 := szStr_nn x.Value
  unfold cntLabel szLabel
  omega
theorem cntbEntry (x : Entry) : cntEntry x ≤ 8 * (1 + Pl.szEntry x) := by
  have s1 := szStr_nn x.Text
  unfold cntEntry szEntry
  omega
theorem cntbStart (x : Start) : cntStart x ≤ 8 * (1 + Pl.sz0 x) := by
  unfold cntStart sz0
  omega
theorem cntbLetter (x : Letter) : cntLetter x ≤ 8 * (1 + Pl.sz0 x) := by
  unfold cntLetter sz0
  omega
theorem cntbVoteStep (x : VoteStep) : cntVoteStep x ≤ 8 * (1 + Pl.sz0 x) := by
  unfold cntVoteStep sz0
  omega
theorem cntbReplStep (x : ReplStep) : cntReplStep x ≤ 8 * (1 + Pl.szReplStep x) := by
  have s2 := szStr_nn x.Text
  unfold cntReplStep szReplStep
  omega
theorem cntbHouseStep (x : HouseStep) : cntHouseStep x ≤ 8 * (1 + Pl.szHouseStep x) := by
  have s2 := szStr_nn x.What.Name
  unfold cntHouseStep szHouseStep szSay
  omega
theorem cntbToken (x : Token) : cntToken x ≤ 8 * (1 + Pl.sz0 x) := by
  unfold cntToken sz0
  omega
theorem cntbRow (x : Row) : cntRow x ≤ 8 * (1 + Pl.szRow x) := by
  have s0 := szStr_nn x.Name
  have h1 := Pl.cntLb (cnt := Pl.cntSample) (f := Pl.sz0) (Pl.cntbSample) x.Samples
  have s1 := Pl.szl_nn (f := Pl.sz0) (Pl.sz0_nn) x.Samples
  unfold cntRow szRow
  omega
theorem cntbHead (x : Head) : cntHead x ≤ 8 * (1 + Pl.szHead x) := by
  have h0 := Pl.cntLb (cnt := Pl.cntRow) (f := Pl.szRow) (Pl.cntbRow) x.Rows
  have s0 := Pl.szl_nn (f := Pl.szRow) (Pl.szRow_nn) x.Rows
  unfold cntHead szHead
  omega
theorem cntbItem (x : Item) : cntItem x ≤ 8 * (1 + Pl.szItem x) := by
  have h0 := Pl.cntLb (cnt := Pl.cntLabel) (f := Pl.szLabel) (Pl.cntbLabel) x.Labels
  have s0 := Pl.szl_nn (f := Pl.szLabel) (Pl.szLabel_nn) x.Labels
  unfold cntItem szItem
  omega
theorem cntbTotal (x : Total) : cntTotal x ≤ 8 * (1 + Pl.szTotal x) := by
  have h0 := Pl.cntLb (cnt := Pl.cntLabel) (f := Pl.szLabel) (Pl.cntbLabel) x.Labels
  have s0 := Pl.szl_nn (f := Pl.szLabel) (Pl.szLabel_nn) x.Labels
  unfold cntTotal szTotal
  omega
theorem cntbSketch (x : Sketch) : cntSketch x ≤ 8 * (1 + Pl.szSketch x) := by
  have h0 := Pl.cntLb (cnt := (Mm.cntL Pl.cnt1)) (f := (Pl.szl Pl.sz0)) (fun x => by have := Pl.cntLb (cnt := Pl.cnt1) (f := Pl.sz0) (fun x => by have := Pl.sz0_nn x; unfold Pl.cnt1; omega) x; omega) x.Rows
  have s0 := Pl.szl_nn (f := (Pl.szl Pl.sz0)) (Pl.szl_nn (f := Pl.sz0) (Pl.sz0_nn)) x.Rows
  unfold cntSketch szSketch
  omega
theorem cntbHeavy (x : Heavy) : cntHeavy x ≤ 8 * (1 + Pl.szHeavy x) := by
  have h0 := Pl.cntLb (cnt := Pl.cnt1) (f := Pl.szStr) (fun x => by have := Pl.szStr_nn x; unfold Pl.cnt1; omega) x.Names
  have s0 := Pl.szl_nn (f := Pl.szStr) (Pl.szStr_nn) x.Names
  have h1 := Pl.cntLb (cnt := Pl.cnt1) (f := Pl.sz0) (fun x => by have := Pl.sz0_nn x; unfold Pl.cnt1; omega) x.Counts
  have s1 := Pl.szl_nn (f := Pl.sz0) (Pl.sz0_nn) x.Counts
  unfold cntHeavy szHeavy
  omega
theorem cntbPiece (x : Piece) : cntPiece x ≤ 8 * (1 + Pl.szPiece x) := by
  have s1 := szStr_nn x.Bytes
  have h2 := Pl.cntLb (cnt := Pl.cnt1) (f := Pl.sz0) (fun x => by have := Pl.sz0_nn x; unfold Pl.cnt1; omega) x.Index
  have s2 := Pl.szl_nn (f := Pl.sz0) (Pl.sz0_nn) x.Index
  unfold cntPiece szPiece
  omega
theorem cntbLog (x : Log) : cntLog x ≤ 8 * (1 + Pl.szLog x) := by
  have h0 := Pl.cntLb (cnt := Pl.cntPiece) (f := Pl.szPiece) (Pl.cntbPiece) x.Pieces
  have s0 := Pl.szl_nn (f := Pl.szPiece) (Pl.szPiece_nn) x.Pieces
  unfold cntLog szLog
  omega
theorem cntbHouse (x : House) : cntHouse x ≤ 8 * (1 + Pl.szHouse x) := by
  have h0 := Pl.cntLb (cnt := Pl.cntLog) (f := Pl.szLog) (Pl.cntbLog) x.Logs
  have s0 := Pl.szl_nn (f := Pl.szLog) (Pl.szLog_nn) x.Logs
  have h1 := Pl.cntLb (cnt := Pl.cntHead) (f := Pl.szHead) (Pl.cntbHead) x.Heads
  have s1 := Pl.szl_nn (f := Pl.szHead) (Pl.szHead_nn) x.Heads
  have h2 := Pl.cntLb (cnt := Pl.cntHead) (f := Pl.szHead) (Pl.cntbHead) x.Kept
  have s2 := Pl.szl_nn (f := Pl.szHead) (Pl.szHead_nn) x.Kept
  unfold cntHouse szHouse
  omega
theorem cntbTell (x : Tell) : cntTell x ≤ 8 * (1 + Pl.szTell x) := by
  have h0 := Pl.cntLb (cnt := (Mm.cntL Pl.cnt1)) (f := (Pl.szl Pl.szStr)) (fun x => by have := Pl.cntLb (cnt := Pl.cnt1) (f := Pl.szStr) (fun x => by have := Pl.szStr_nn x; unfold Pl.cnt1; omega) x; omega) x.Texts
  have s0 := Pl.szl_nn (f := (Pl.szl Pl.szStr)) (Pl.szl_nn (f := Pl.szStr) (Pl.szStr_nn)) x.Texts
  have h1 := Pl.cntLb (cnt := Pl.cnt1) (f := Pl.sz0) (fun x => by have := Pl.sz0_nn x; unfold Pl.cnt1; omega) x.Heard
  have s1 := Pl.szl_nn (f := Pl.sz0) (Pl.sz0_nn) x.Heard
  have h2 := Pl.cntLb (cnt := Pl.cntNote) (f := Pl.szNote) (Pl.cntbNote) x.Line
  have s2 := Pl.szl_nn (f := Pl.szNote) (Pl.szNote_nn) x.Line
  have h3 := Pl.cntLb (cnt := Pl.cntTold) (f := Pl.szTold) (Pl.cntbTold) x.Log
  have s3 := Pl.szl_nn (f := Pl.szTold) (Pl.szTold_nn) x.Log
  have h4 := Pl.cntLb (cnt := Pl.cnt1) (f := Pl.sz0) (fun x => by have := Pl.sz0_nn x; unfold Pl.cnt1; omega) x.Next
  have s4 := Pl.szl_nn (f := Pl.sz0) (Pl.sz0_nn) x.Next
  unfold cntTell szTell
  omega
theorem cntbBank (x : Bank) : cntBank x ≤ 8 * (1 + Pl.szBank x) := by
  have h0 := Pl.cntLb (cnt := Pl.cnt1) (f := Pl.sz0) (fun x => by have := Pl.sz0_nn x; unfold Pl.cnt1; omega) x.Coins
  have s0 := Pl.szl_nn (f := Pl.sz0) (Pl.sz0_nn) x.Coins
  have h1 := Pl.cntLb (cnt := (Mm.cntL Pl.cnt1)) (f := (Pl.szl Pl.sz0)) (fun x => by have := Pl.cntLb (cnt := Pl.cnt1) (f := Pl.sz0) (fun x => by have := Pl.sz0_nn x; unfold Pl.cnt1; omega) x; omega) x.Ways
  have s1 := Pl.szl_nn (f := (Pl.szl Pl.sz0)) (Pl.szl_nn (f := Pl.sz0) (Pl.sz0_nn)) x.Ways
  have h2 := Pl.cntLb (cnt := Pl.cnt1) (f := Pl.sz0) (fun x => by have := Pl.sz0_nn x; unfold Pl.cnt1; omega) x.Kept
  have s2 := Pl.szl_nn (f := Pl.sz0) (Pl.sz0_nn) x.Kept
  have h3 := Pl.cntLb (cnt := (Mm.cntL Pl.cnt1)) (f := (Pl.szl Pl.sz0)) (fun x => by have := Pl.cntLb (cnt := Pl.cnt1) (f := Pl.sz0) (fun x => by have := Pl.sz0_nn x; unfold Pl.cnt1; omega) x; omega) x.Heard
  have s3 := Pl.szl_nn (f := (Pl.szl Pl.sz0)) (Pl.szl_nn (f := Pl.sz0) (Pl.sz0_nn)) x.Heard
  have h4 := Pl.cntLb (cnt := (Mm.cntL Pl.cnt1)) (f := (Pl.szl Pl.sz0)) (fun x => by have := Pl.cntLb (cnt := Pl.cnt1) (f := Pl.sz0) (fun x => by have := Pl.sz0_nn x; unfold Pl.cnt1; omega) x; omega) x.Found
  have s4 := Pl.szl_nn (f := (Pl.szl Pl.sz0)) (Pl.szl_nn (f := Pl.sz0) (Pl.sz0_nn)) x.Found
  unfold cntBank szBank
  omega
theorem cntbNode (x : Node) : cntNode x ≤ 8 * (1 + Pl.szNode x) := by
  have h3 := Pl.cntLb (cnt := Pl.cnt1) (f := Pl.sz0) (fun x => by have := Pl.sz0_nn x; unfold Pl.cnt1; omega) x.Heard
  have s3 := Pl.szl_nn (f := Pl.sz0) (Pl.sz0_nn) x.Heard
  unfold cntNode szNode
  omega
theorem cntbPoll (x : Poll) : cntPoll x ≤ 8 * (1 + Pl.szPoll x) := by
  have h0 := Pl.cntLb (cnt := Pl.cntNode) (f := Pl.szNode) (Pl.cntbNode) x.Nodes
  have s0 := Pl.szl_nn (f := Pl.szNode) (Pl.szNode_nn) x.Nodes
  have h1 := Pl.cntLb (cnt := Pl.cntLetter) (f := Pl.sz0) (Pl.cntbLetter) x.Letters
  have s1 := Pl.szl_nn (f := Pl.sz0) (Pl.sz0_nn) x.Letters
  have h2 := Pl.cntLb (cnt := (Mm.cntL Pl.cnt1)) (f := (Pl.szl Pl.sz0)) (fun x => by have := Pl.cntLb (cnt := Pl.cnt1) (f := Pl.sz0) (fun x => by have := Pl.sz0_nn x; unfold Pl.cnt1; omega) x; omega) x.Leaders
  have s2 := Pl.szl_nn (f := (Pl.szl Pl.sz0)) (Pl.szl_nn (f := Pl.sz0) (Pl.sz0_nn)) x.Leaders
  unfold cntPoll szPoll
  omega
theorem cntbRepl (x : Repl) : cntRepl x ≤ 8 * (1 + Pl.szRepl x) := by
  have h0 := Pl.cntLb (cnt := (Mm.cntL Pl.cntEntry)) (f := (Pl.szl Pl.szEntry)) (fun x => by have := Pl.cntLb (cnt := Pl.cntEntry) (f := Pl.szEntry) (Pl.cntbEntry) x; omega) x.Logs
  have s0 := Pl.szl_nn (f := (Pl.szl Pl.szEntry)) (Pl.szl_nn (f := Pl.szEntry) (Pl.szEntry_nn)) x.Logs
  have h1 := Pl.cntLb (cnt := Pl.cnt1) (f := Pl.sz0) (fun x => by have := Pl.sz0_nn x; unfold Pl.cnt1; omega) x.Down
  have s1 := Pl.szl_nn (f := Pl.sz0) (Pl.sz0_nn) x.Down
  have h4 := Pl.cntLb (cnt := Pl.cnt1) (f := Pl.sz0) (fun x => by have := Pl.sz0_nn x; unfold Pl.cnt1; omega) x.InSync
  have s4 := Pl.szl_nn (f := Pl.sz0) (Pl.sz0_nn) x.InSync
  have h5 := Pl.cntLb (cnt := Pl.cntEntry) (f := Pl.szEntry) (Pl.cntbEntry) x.Certain
  have s5 := Pl.szl_nn (f := Pl.szEntry) (Pl.szEntry_nn) x.Certain
  unfold cntRepl szRepl
  omega
theorem ctopSketch_nn (x : Sketch) : 0 ≤ ctopSketch x := by
  have h0 := Mm.cntL_nn (cnt := (Mm.cntL Pl.cnt1)) (Mm.cntL_nn (cnt := Pl.cnt1) (Pl.cnt1_nn)) x.Rows
  unfold ctopSketch; omega
theorem ctopbSketch (x : Sketch) : ctopSketch x ≤ 8 * Pl.szSketch x := by
  have h0 := Pl.cntLb (cnt := (Mm.cntL Pl.cnt1)) (f := (Pl.szl Pl.sz0)) (fun x => by have := Pl.cntLb (cnt := Pl.cnt1) (f := Pl.sz0) (fun x => by have := Pl.sz0_nn x; unfold Pl.cnt1; omega) x; omega) x.Rows
  unfold ctopSketch szSketch; omega
theorem ctopHeavy_nn (x : Heavy) : 0 ≤ ctopHeavy x := by
  have h0 := Mm.cntL_nn (cnt := Pl.cnt1) (Pl.cnt1_nn) x.Names
  have h1 := Mm.cntL_nn (cnt := Pl.cnt1) (Pl.cnt1_nn) x.Counts
  unfold ctopHeavy; omega
theorem ctopbHeavy (x : Heavy) : ctopHeavy x ≤ 8 * Pl.szHeavy x := by
  have h0 := Pl.cntLb (cnt := Pl.cnt1) (f := Pl.szStr) (fun x => by have := Pl.szStr_nn x; unfold Pl.cnt1; omega) x.Names
  have h1 := Pl.cntLb (cnt := Pl.cnt1) (f := Pl.sz0) (fun x => by have := Pl.sz0_nn x; unfold Pl.cnt1; omega) x.Counts
  unfold ctopHeavy szHeavy; omega
theorem ctopHead_nn (x : Head) : 0 ≤ ctopHead x := by
  have h0 := Mm.cntL_nn (cnt := Pl.cntRow) (Pl.cntRow_nn) x.Rows
  unfold ctopHead; omega
theorem ctopbHead (x : Head) : ctopHead x ≤ 8 * Pl.szHead x := by
  have h0 := Pl.cntLb (cnt := Pl.cntRow) (f := Pl.szRow) (Pl.cntbRow) x.Rows
  unfold ctopHead szHead; omega
theorem ctopLog_nn (x : Log) : 0 ≤ ctopLog x := by
  have h0 := Mm.cntL_nn (cnt := Pl.cntPiece) (Pl.cntPiece_nn) x.Pieces
  unfold ctopLog; omega
theorem ctopbLog (x : Log) : ctopLog x ≤ 8 * Pl.szLog x := by
  have h0 := Pl.cntLb (cnt := Pl.cntPiece) (f := Pl.szPiece) (Pl.cntbPiece) x.Pieces
  unfold ctopLog szLog; omega
theorem ctopTell_nn (x : Tell) : 0 ≤ ctopTell x := by
  have h0 := Mm.cntL_nn (cnt := (Mm.cntL Pl.cnt1)) (Mm.cntL_nn (cnt := Pl.cnt1) (Pl.cnt1_nn)) x.Texts
  have h1 := Mm.cntL_nn (cnt := Pl.cnt1) (Pl.cnt1_nn) x.Heard
  have h2 := Mm.cntL_nn (cnt := Pl.cntNote) (Pl.cntNote_nn) x.Line
  have h3 := Mm.cntL_nn (cnt := Pl.cntTold) (Pl.cntTold_nn) x.Log
  have h4 := Mm.cntL_nn (cnt := Pl.cnt1) (Pl.cnt1_nn) x.Next
  unfold ctopTell; omega
theorem ctopbTell (x : Tell) : ctopTell x ≤ 8 * Pl.szTell x := by
  have h0 := Pl.cntLb (cnt := (Mm.cntL Pl.cnt1)) (f := (Pl.szl Pl.szStr)) (fun x => by have := Pl.cntLb (cnt := Pl.cnt1) (f := Pl.szStr) (fun x => by have := Pl.szStr_nn x; unfold Pl.cnt1; omega) x; omega) x.Texts
  have h1 := Pl.cntLb (cnt := Pl.cnt1) (f := Pl.sz0) (fun x => by have := Pl.sz0_nn x; unfold Pl.cnt1; omega) x.Heard
  have h2 := Pl.cntLb (cnt := Pl.cntNote) (f := Pl.szNote) (Pl.cntbNote) x.Line
  have h3 := Pl.cntLb (cnt := Pl.cntTold) (f := Pl.szTold) (Pl.cntbTold) x.Log
  have h4 := Pl.cntLb (cnt := Pl.cnt1) (f := Pl.sz0) (fun x => by have := Pl.sz0_nn x; unfold Pl.cnt1; omega) x.Next
  unfold ctopTell szTell; omega
theorem ctopBank_nn (x : Bank) : 0 ≤ ctopBank x := by
  have h0 := Mm.cntL_nn (cnt := Pl.cnt1) (Pl.cnt1_nn) x.Coins
  have h1 := Mm.cntL_nn (cnt := (Mm.cntL Pl.cnt1)) (Mm.cntL_nn (cnt := Pl.cnt1) (Pl.cnt1_nn)) x.Ways
  have h2 := Mm.cntL_nn (cnt := Pl.cnt1) (Pl.cnt1_nn) x.Kept
  have h3 := Mm.cntL_nn (cnt := (Mm.cntL Pl.cnt1)) (Mm.cntL_nn (cnt := Pl.cnt1) (Pl.cnt1_nn)) x.Heard
  have h4 := Mm.cntL_nn (cnt := (Mm.cntL Pl.cnt1)) (Mm.cntL_nn (cnt := Pl.cnt1) (Pl.cnt1_nn)) x.Found
  unfold ctopBank; omega
theorem ctopbBank (x : Bank) : ctopBank x ≤ 8 * Pl.szBank x := by
  have h0 := Pl.cntLb (cnt := Pl.cnt1) (f := Pl.sz0) (fun x => by have := Pl.sz0_nn x; unfold Pl.cnt1; omega) x.Coins
  have h1 := Pl.cntLb (cnt := (Mm.cntL Pl.cnt1)) (f := (Pl.szl Pl.sz0)) (fun x => by have := Pl.cntLb (cnt := Pl.cnt1) (f := Pl.sz0) (fun x => by have := Pl.sz0_nn x; unfold Pl.cnt1; omega) x; omega) x.Ways
  have h2 := Pl.cntLb (cnt := Pl.cnt1) (f := Pl.sz0) (fun x => by have := Pl.sz0_nn x; unfold Pl.cnt1; omega) x.Kept
  have h3 := Pl.cntLb (cnt := (Mm.cntL Pl.cnt1)) (f := (Pl.szl Pl.sz0)) (fun x => by have := Pl.cntLb (cnt := Pl.cnt1) (f := Pl.sz0) (fun x => by have := Pl.sz0_nn x; unfold Pl.cnt1; omega) x; omega) x.Heard
  have h4 := Pl.cntLb (cnt := (Mm.cntL Pl.cnt1)) (f := (Pl.szl Pl.sz0)) (fun x => by have := Pl.cntLb (cnt := Pl.cnt1) (f := Pl.sz0) (fun x => by have := Pl.sz0_nn x; unfold Pl.cnt1; omega) x; omega) x.Found
  unfold ctopBank szBank; omega
theorem ctopHouse_nn (x : House) : 0 ≤ ctopHouse x := by
  have h0 := Mm.cntL_nn (cnt := Pl.cntLog) (Pl.cntLog_nn) x.Logs
  have h1 := Mm.cntL_nn (cnt := Pl.cntHead) (Pl.cntHead_nn) x.Heads
  have h2 := Mm.cntL_nn (cnt := Pl.cntHead) (Pl.cntHead_nn) x.Kept
  unfold ctopHouse; omega
theorem ctopbHouse (x : House) : ctopHouse x ≤ 8 * Pl.szHouse x := by
  have h0 := Pl.cntLb (cnt := Pl.cntLog) (f := Pl.szLog) (Pl.cntbLog) x.Logs
  have h1 := Pl.cntLb (cnt := Pl.cntHead) (f := Pl.szHead) (Pl.cntbHead) x.Heads
  have h2 := Pl.cntLb (cnt := Pl.cntHead) (f := Pl.szHead) (Pl.cntbHead) x.Kept
  unfold ctopHouse szHouse; omega
theorem ctopPoll_nn (x : Poll) : 0 ≤ ctopPoll x := by
  have h0 := Mm.cntL_nn (cnt := Pl.cntNode) (Pl.cntNode_nn) x.Nodes
  have h1 := Mm.cntL_nn (cnt := Pl.cntLetter) (Pl.cntLetter_nn) x.Letters
  have h2 := Mm.cntL_nn (cnt := (Mm.cntL Pl.cnt1)) (Mm.cntL_nn (cnt := Pl.cnt1) (Pl.cnt1_nn)) x.Leaders
  unfold ctopPoll; omega
theorem ctopbPoll (x : Poll) : ctopPoll x ≤ 8 * Pl.szPoll x := by
  have h0 := Pl.cntLb (cnt := Pl.cntNode) (f := Pl.szNode) (Pl.cntbNode) x.Nodes
  have h1 := Pl.cntLb (cnt := Pl.cntLetter) (f := Pl.sz0) (Pl.cntbLetter) x.Letters
  have h2 := Pl.cntLb (cnt := (Mm.cntL Pl.cnt1)) (f := (Pl.szl Pl.sz0)) (fun x => by have := Pl.cntLb (cnt := Pl.cnt1) (f := Pl.sz0) (fun x => by have := Pl.sz0_nn x; unfold Pl.cnt1; omega) x; omega) x.Leaders
  unfold ctopPoll szPoll; omega
theorem ctopRepl_nn (x : Repl) : 0 ≤ ctopRepl x := by
  have h0 := Mm.cntL_nn (cnt := (Mm.cntL Pl.cntEntry)) (Mm.cntL_nn (cnt := Pl.cntEntry) (Pl.cntEntry_nn)) x.Logs
  have h1 := Mm.cntL_nn (cnt := Pl.cnt1) (Pl.cnt1_nn) x.Down
  have h2 := Mm.cntL_nn (cnt := Pl.cnt1) (Pl.cnt1_nn) x.InSync
  have h3 := Mm.cntL_nn (cnt := Pl.cntEntry) (Pl.cntEntry_nn) x.Certain
  unfold ctopRepl; omega
theorem ctopbRepl (x : Repl) : ctopRepl x ≤ 8 * Pl.szRepl x := by
  have h0 := Pl.cntLb (cnt := (Mm.cntL Pl.cntEntry)) (f := (Pl.szl Pl.szEntry)) (fun x => by have := Pl.cntLb (cnt := Pl.cntEntry) (f := Pl.szEntry) (Pl.cntbEntry) x; omega) x.Logs
  have h1 := Pl.cntLb (cnt := Pl.cnt1) (f := Pl.sz0) (fun x => by have := Pl.sz0_nn x; unfold Pl.cnt1; omega) x.Down
  have h2 := Pl.cntLb (cnt := Pl.cnt1) (f := Pl.sz0) (fun x => by have := Pl.sz0_nn x; unfold Pl.cnt1; omega) x.InSync
  have h3 := Pl.cntLb (cnt := Pl.cntEntry) (f := Pl.szEntry) (Pl.cntbEntry) x.Certain
  unfold ctopRepl szRepl; omega
end Pl
namespace Pl
theorem digs_len : ∀ (f k : Nat) (acc : List UInt8), (digs f k acc).length ≤ acc.length + f
  | 0, _, acc => by simp [digs]
  | f + 1, k, acc => by
    unfold digs
    split
    · omega
    · have := digs_len f (k / 10) (UInt8.ofNat (48 + k % 10) :: acc)
      rw [List.length_cons] at this
      omega
theorem mkText_len (k : Int) (h0 : 0 ≤ k) (h1 : k ≤ 1000000000000) : (mkText k).size ≤ maxLen := by
  unfold mkText
  have := digs_len k.toNat k.toNat []
  show (109 :: digs k.toNat k.toNat []).toArray.size ≤ maxLen
  rw [List.size_toArray, List.length_cons]
  unfold maxLen
  simp only [List.length_nil] at this
  omega
end Pl
end Go.Proofs.Ytaepohocabealaa

/-
  How the program's types lie in memory. No conditions.
-/
namespace Go.Proofs.Ytaepohocabealaa
def rTold : Mm.Rep Told := Mm.flat 3 (fun x => [.int .i64 x.Who, .int .i64 x.No, .string x.Text]) (fun x => Mm.I64 x.Who ∧ Mm.I64 x.No ∧ x.Text.size ≤ maxLen) (fun _ => rfl) (fun _ u hu => by
  simp at hu; rcases hu with rfl | rfl | rfl <;> rfl)
theorem rTold_at {w : World} {B : Nat} {x : Told} {cs : List Value} (h : rTold.at_ w B x cs) : cs = [.int .i64 x.Who, .int .i64 x.No, .string x.Text] ∧ Mm.I64 x.Who ∧ Mm.I64 x.No ∧ x.Text.size ≤ maxLen := h
theorem rTold_own {w : World} {x : Told} {cs : List Value} {fp : List Nat} (h : rTold.own w x cs fp) : cs = [.int .i64 x.Who, .int .i64 x.No, .string x.Text] ∧ (Mm.I64 x.Who ∧ Mm.I64 x.No ∧ x.Text.size ≤ maxLen) ∧ fp = [] := h
theorem rTold_own_mk {w : World} {x : Told} (h : Mm.I64 x.Who ∧ Mm.I64 x.No ∧ x.Text.size ≤ maxLen) : rTold.own w x [.int .i64 x.Who, .int .i64 x.No, .string x.Text] [] := ⟨rfl, h, rfl⟩
def rNote : Mm.Rep Note := Mm.flat 4 (fun x => [.bool x.Back, .int .i64 x.What.Who, .int .i64 x.What.No, .string x.What.Text]) (fun x => Mm.I64 x.What.Who ∧ Mm.I64 x.What.No ∧ x.What.Text.size ≤ maxLen) (fun _ => rfl) (fun _ u hu => by
  simp at hu; rcases hu with rfl | rfl | rfl | rfl <;> rfl)
theorem rNote_at {w : World} {B : Nat} {x : Note} {cs : List Value} (h : rNote.at_ w B x cs) : cs = [.bool x.Back, .int .i64 x.What.Who, .int .i64 x.What.No, .string x.What.Text] ∧ Mm.I64 x.What.Who ∧ Mm.I64 x.What.No ∧ x.What.Text.size ≤ maxLen := h
theorem rNote_own {w : World} {x : Note} {cs : List Value} {fp : List Nat} (h : rNote.own w x cs fp) : cs = [.bool x.Back, .int .i64 x.What.Who, .int .i64 x.What.No, .string x.What.Text] ∧ (Mm.I64 x.What.Who ∧ Mm.I64 x.What.No ∧ x.What.Text.size ≤ maxLen) ∧ fp = [] := h
theorem rNote_own_mk {w : World} {x : Note} (h : Mm.I64 x.What.Who ∧ Mm.I64 x.What.No ∧ x.What.Text.size ≤ maxLen) : rNote.own w x [.bool x.Back, .int .i64 x.What.Who, .int .i64 x.What.No, .string x.What.Text] [] := ⟨rfl, h, rfl⟩
def rTellStep : Mm.Rep TellStep := Mm.flat 3 (fun x => [.int .i64 x.Kind, .int .i64 x.K, .string x.Text]) (fun x => Mm.I64 x.Kind ∧ Mm.I64 x.K ∧ x.Text.size ≤ maxLen) (fun _ => rfl) (fun _ u hu => by
  simp at hu; rcases hu with rfl | rfl | rfl <;> rfl)
theorem rTellStep_at {w : World} {B : Nat} {x : TellStep} {cs : List Value} (h : rTellStep.at_ w B x cs) : cs = [.int .i64 x.Kind, .int .i64 x.K, .string x.Text] ∧ Mm.I64 x.Kind ∧ Mm.I64 x.K ∧ x.Text.size ≤ maxLen := h
theorem rTellStep_own {w : World} {x : TellStep} {cs : List Value} {fp : List Nat} (h : rTellStep.own w x cs fp) : cs = [.int .i64 x.Kind, .int .i64 x.K, .string x.Text] ∧ (Mm.I64 x.Kind ∧ Mm.I64 x.K ∧ x.Text.size ≤ maxLen) ∧ fp = [] := h
theorem rTellStep_own_mk {w : World} {x : TellStep} (h : Mm.I64 x.Kind ∧ Mm.I64 x.K ∧ x.Text.size ≤ maxLen) : rTellStep.own w x [.int .i64 x.Kind, .int .i64 x.K, .string x.Text] [] := ⟨rfl, h, rfl⟩
def ints : Mm.Rep (List Int) := Mm.slice Mm.int 3
def strs : Mm.Rep (List ByteArray) := Mm.slice Mm.str 9
def strss : Mm.Rep (List (List ByteArray)) := Mm.slice strs 40
def rNoteS : Mm.Rep (List Note) := Mm.slice rNote 94
def rToldS : Mm.Rep (List Told) := Mm.slice rTold 52
def rTell : Mm.Rep Tell := Mm.iso (fun x => (x.Texts, (x.Heard, (x.Line, (x.Log, x.Next))))) (Mm.pair strss (Mm.pair ints (Mm.pair rNoteS (Mm.pair rToldS ints))))
theorem rTell_at {w : World} {B : Nat} {x : Tell} {cs : List Value} (h : rTell.at_ w B x cs) : ∃ A0 n0 c0 A1 n1 c1 A2 n2 c2 A3 n3 c3 A4 n4 c4, cs = [.slice A0 n0 c0, .slice A1 n1 c1, .slice A2 n2 c2, .slice A3 n3 c3, .slice A4 n4 c4] ∧ Mm.SlAt strs w B x.Texts A0 n0 c0 ∧ Mm.SlAt Mm.int w B x.Heard A1 n1 c1 ∧ Mm.SlAt rNote w B x.Line A2 n2 c2 ∧ Mm.SlAt rTold w B x.Log A3 n3 c3 ∧ Mm.SlAt Mm.int w B x.Next A4 n4 c4 := by
  obtain ⟨_, _, rfl, ⟨A0, n0, c0, rfl, h0⟩, ⟨_, _, rfl, ⟨A1, n1, c1, rfl, h1⟩, ⟨_, _, rfl, ⟨A2, n2, c2, rfl, h2⟩, ⟨_, _, rfl, ⟨A3, n3, c3, rfl, h3⟩, ⟨A4, n4, c4, rfl, h4⟩⟩⟩⟩⟩ := h
  exact ⟨A0, n0, c0, A1, n1, c1, A2, n2, c2, A3, n3, c3, A4, n4, c4, rfl, h0, h1, h2, h3, h4⟩
theorem rTell_at_mk {w : World} {B : Nat} {x : Tell} {A0 : Option Addr} {n0 c0 : Nat} {A1 : Option Addr} {n1 c1 : Nat} {A2 : Option Addr} {n2 c2 : Nat} {A3 : Option Addr} {n3 c3 : Nat} {A4 : Option Addr} {n4 c4 : Nat} (g0 : Mm.SlAt strs w B x.Texts A0 n0 c0) (g1 : Mm.SlAt Mm.int w B x.Heard A1 n1 c1) (g2 : Mm.SlAt rNote w B x.Line A2 n2 c2) (g3 : Mm.SlAt rTold w B x.Log A3 n3 c3) (g4 : Mm.SlAt Mm.int w B x.Next A4 n4 c4) : rTell.at_ w B x [.slice A0 n0 c0, .slice A1 n1 c1, .slice A2 n2 c2, .slice A3 n3 c3, .slice A4 n4 c4] :=
  ⟨_, _, rfl, ⟨A0, n0, c0, rfl, g0⟩, ⟨_, _, rfl, ⟨A1, n1, c1, rfl, g1⟩, ⟨_, _, rfl, ⟨A2, n2, c2, rfl, g2⟩, ⟨_, _, rfl, ⟨A3, n3, c3, rfl, g3⟩, ⟨A4, n4, c4, rfl, g4⟩⟩⟩⟩⟩
theorem rTell_own {w : World} {x : Tell} {cs : List Value} {fp : List Nat} (h : rTell.own w x cs fp) : ∃ A0 n0 c0 A1 n1 c1 A2 n2 c2 A3 n3 c3 A4 n4 c4 f0 f1 f2 f3 f4, cs = [.slice A0 n0 c0, .slice A1 n1 c1, .slice A2 n2 c2, .slice A3 n3 c3, .slice A4 n4 c4] ∧ fp = f0 ++ (f1 ++ (f2 ++ (f3 ++ f4))) ∧ Mm.SlOwn strs 40 w x.Texts (.slice A0 n0 c0) f0 ∧ Mm.SlOwn Mm.int 3 w x.Heard (.slice A1 n1 c1) f1 ∧ Mm.SlOwn rNote 94 w x.Line (.slice A2 n2 c2) f2 ∧ Mm.SlOwn rTold 52 w x.Log (.slice A3 n3 c3) f3 ∧ Mm.SlOwn Mm.int 3 w x.Next (.slice A4 n4 c4) f4 := by
  obtain ⟨_, _, _, _, rfl, rfl, ⟨v0, rfl, h0⟩, ⟨_, _, _, _, rfl, rfl, ⟨v1, rfl, h1⟩, ⟨_, _, _, _, rfl, rfl, ⟨v2, rfl, h2⟩, ⟨_, _, _, _, rfl, rfl, ⟨v3, rfl, h3⟩, ⟨v4, rfl, h4⟩⟩⟩⟩⟩ := h
  obtain ⟨A0, n0, c0, rfl, _⟩ := h0.form
  obtain ⟨A1, n1, c1, rfl, _⟩ := h1.form
  obtain ⟨A2, n2, c2, rfl, _⟩ := h2.form
  obtain ⟨A3, n3, c3, rfl, _⟩ := h3.form
  obtain ⟨A4, n4, c4, rfl, _⟩ := h4.form
  exact ⟨A0, n0, c0, A1, n1, c1, A2, n2, c2, A3, n3, c3, A4, n4, c4, _, _, _, _, _, rfl, by simp, h0, h1, h2, h3, h4⟩
theorem rTell_own_mk {w : World} {x : Tell} {A0 : Option Addr} {n0 c0 : Nat} {A1 : Option Addr} {n1 c1 : Nat} {A2 : Option Addr} {n2 c2 : Nat} {A3 : Option Addr} {n3 c3 : Nat} {A4 : Option Addr} {n4 c4 : Nat} {f0 f1 f2 f3 f4 : List Nat} (g0 : Mm.SlOwn strs 40 w x.Texts (.slice A0 n0 c0) f0) (g1 : Mm.SlOwn Mm.int 3 w x.Heard (.slice A1 n1 c1) f1) (g2 : Mm.SlOwn rNote 94 w x.Line (.slice A2 n2 c2) f2) (g3 : Mm.SlOwn rTold 52 w x.Log (.slice A3 n3 c3) f3) (g4 : Mm.SlOwn Mm.int 3 w x.Next (.slice A4 n4 c4) f4) : rTell.own w x [.slice A0 n0 c0, .slice A1 n1 c1, .slice A2 n2 c2, .slice A3 n3 c3, .slice A4 n4 c4] (f0 ++ (f1 ++ (f2 ++ (f3 ++ f4)))) := by
  have h : rTell.own w x _ _ := ⟨_, _, _, _, rfl, rfl, ⟨_, rfl, g0⟩, ⟨_, _, _, _, rfl, rfl, ⟨_, rfl, g1⟩, ⟨_, _, _, _, rfl, rfl, ⟨_, rfl, g2⟩, ⟨_, _, _, _, rfl, rfl, ⟨_, rfl, g3⟩, ⟨_, rfl, g4⟩⟩⟩⟩⟩
  simpa using h
def bools : Mm.Rep (List Bool) := Mm.slice Mm.bool 4
def rTellStepS : Mm.Rep (List TellStep) := Mm.slice rTellStep 46
theorem int_get {w : World} {B : Nat} {l : List Int} {A : Option Addr} {n c k : Nat} (h : Mm.SlAt Mm.int w B l A n c) (hk : k < n) :
    ∃ x b off, l[k]? = some x ∧ A = some ⟨b, off, none⟩ ∧ b < B ∧ Mm.I64 x ∧ w.cell? ⟨b, off + k, none⟩ = some (.int .i64 x) := by
  obtain ⟨x, b, off, cs, hx, hA, hb, ha, hc⟩ := h.get hk
  obtain ⟨rfl, g0⟩ := ha
  exact ⟨x, b, off, hx, hA, hb, g0, (by rw [show off + k = off + k * Mm.int.size + 0 by show _ = off + k * 1 + 0; omega]; exact hc 0 _ rfl)⟩
theorem int_get' {w : World} {B : Nat} {l : List Int} {b off n c k : Nat} (h : Mm.SlAt Mm.int w B l (some ⟨b, off, none⟩) n c) (hk : k < n) :
    ∃ x, l[k]? = some x ∧ b < B ∧ Mm.I64 x ∧ w.cell? ⟨b, off + k, none⟩ = some (.int .i64 x) := by
  obtain ⟨x, cs, hx, hb, ha, hc⟩ := h.get' hk
  obtain ⟨rfl, g0⟩ := ha
  exact ⟨x, hx, hb, g0, (by rw [show off + k = off + k * Mm.int.size + 0 by show _ = off + k * 1 + 0; omega]; exact hc 0 _ rfl)⟩
theorem int_ocell {w : World} {e : TypeId} {xs : List Int} {g n c i : Nat} {x : Int} {fp : List Nat} (h : Mm.SlOwn Mm.int e w xs (.slice (some ⟨g, 0, none⟩) n c) fp) (hnd : fp.Nodup) (hi : xs[i]? = some x) : w.cell? ⟨g, i, none⟩ = some (.int .i64 x) := by
  obtain ⟨cs, fx, hown, _, _, hc, _⟩ := h.inner hnd hi
  obtain ⟨rfl, _, _⟩ := hown
  exact ((by have e0 := hc 0 _ rfl; rwa [show i * Mm.int.size + 0 = i by show i * 1 + 0 = i; omega] at e0))
theorem str_get {w : World} {B : Nat} {l : List ByteArray} {A : Option Addr} {n c k : Nat} (h : Mm.SlAt Mm.str w B l A n c) (hk : k < n) :
    ∃ x b off, l[k]? = some x ∧ A = some ⟨b, off, none⟩ ∧ b < B ∧ x.size ≤ maxLen ∧ w.cell? ⟨b, off + k, none⟩ = some (.string x) := by
  obtain ⟨x, b, off, cs, hx, hA, hb, ha, hc⟩ := h.get hk
  obtain ⟨rfl, g0⟩ := ha
  exact ⟨x, b, off, hx, hA, hb, g0, (by rw [show off + k = off + k * Mm.str.size + 0 by show _ = off + k * 1 + 0; omega]; exact hc 0 _ rfl)⟩
theorem str_get' {w : World} {B : Nat} {l : List ByteArray} {b off n c k : Nat} (h : Mm.SlAt Mm.str w B l (some ⟨b, off, none⟩) n c) (hk : k < n) :
    ∃ x, l[k]? = some x ∧ b < B ∧ x.size ≤ maxLen ∧ w.cell? ⟨b, off + k, none⟩ = some (.string x) := by
  obtain ⟨x, cs, hx, hb, ha, hc⟩ := h.get' hk
  obtain ⟨rfl, g0⟩ := ha
  exact ⟨x, hx, hb, g0, (by rw [show off + k = off + k * Mm.str.size + 0 by show _ = off + k * 1 + 0; omega]; exact hc 0 _ rfl)⟩
theorem str_ocell {w : World} {e : TypeId} {xs : List ByteArray} {g n c i : Nat} {x : ByteArray} {fp : List Nat} (h : Mm.SlOwn Mm.str e w xs (.slice (some ⟨g, 0, none⟩) n c) fp) (hnd : fp.Nodup) (hi : xs[i]? = some x) : w.cell? ⟨g, i, none⟩ = some (.string x) := by
  obtain ⟨cs, fx, hown, _, _, hc, _⟩ := h.inner hnd hi
  obtain ⟨rfl, _, _⟩ := hown
  exact ((by have e0 := hc 0 _ rfl; rwa [show i * Mm.str.size + 0 = i by show i * 1 + 0 = i; omega] at e0))
theorem bool_get {w : World} {B : Nat} {l : List Bool} {A : Option Addr} {n c k : Nat} (h : Mm.SlAt Mm.bool w B l A n c) (hk : k < n) :
    ∃ x b off, l[k]? = some x ∧ A = some ⟨b, off, none⟩ ∧ b < B ∧ w.cell? ⟨b, off + k, none⟩ = some (.bool x) := by
  obtain ⟨x, b, off, cs, hx, hA, hb, ha, hc⟩ := h.get hk
  obtain ⟨rfl, _⟩ := ha
  exact ⟨x, b, off, hx, hA, hb, (by rw [show off + k = off + k * Mm.bool.size + 0 by show _ = off + k * 1 + 0; omega]; exact hc 0 _ rfl)⟩
theorem bool_get' {w : World} {B : Nat} {l : List Bool} {b off n c k : Nat} (h : Mm.SlAt Mm.bool w B l (some ⟨b, off, none⟩) n c) (hk : k < n) :
    ∃ x, l[k]? = some x ∧ b < B ∧ w.cell? ⟨b, off + k, none⟩ = some (.bool x) := by
  obtain ⟨x, cs, hx, hb, ha, hc⟩ := h.get' hk
  obtain ⟨rfl, _⟩ := ha
  exact ⟨x, hx, hb, (by rw [show off + k = off + k * Mm.bool.size + 0 by show _ = off + k * 1 + 0; omega]; exact hc 0 _ rfl)⟩
theorem bool_ocell {w : World} {e : TypeId} {xs : List Bool} {g n c i : Nat} {x : Bool} {fp : List Nat} (h : Mm.SlOwn Mm.bool e w xs (.slice (some ⟨g, 0, none⟩) n c) fp) (hnd : fp.Nodup) (hi : xs[i]? = some x) : w.cell? ⟨g, i, none⟩ = some (.bool x) := by
  obtain ⟨cs, fx, hown, _, _, hc, _⟩ := h.inner hnd hi
  obtain ⟨rfl, _, _⟩ := hown
  exact ((by have e0 := hc 0 _ rfl; rwa [show i * Mm.bool.size + 0 = i by show i * 1 + 0 = i; omega] at e0))
theorem strs_get {w : World} {B : Nat} {l : List (List ByteArray)} {A : Option Addr} {n c k : Nat} (h : Mm.SlAt strs w B l A n c) (hk : k < n) :
    ∃ x b off A' n' c', l[k]? = some x ∧ A = some ⟨b, off, none⟩ ∧ b < B ∧ Mm.SlAt Mm.str w B x A' n' c' ∧ w.cell? ⟨b, off + k, none⟩ = some (.slice A' n' c') := by
  obtain ⟨x, b, off, cs, hx, hA, hb, ha, hc⟩ := h.get hk
  obtain ⟨A', n', c', rfl, g0⟩ := ha
  exact ⟨x, b, off, A', n', c', hx, hA, hb, g0, (by rw [show off + k = off + k * strs.size + 0 by show _ = off + k * 1 + 0; omega]; exact hc 0 _ rfl)⟩
theorem strs_get' {w : World} {B : Nat} {l : List (List ByteArray)} {b off n c k : Nat} (h : Mm.SlAt strs w B l (some ⟨b, off, none⟩) n c) (hk : k < n) :
    ∃ x A' n' c', l[k]? = some x ∧ b < B ∧ Mm.SlAt Mm.str w B x A' n' c' ∧ w.cell? ⟨b, off + k, none⟩ = some (.slice A' n' c') := by
  obtain ⟨x, cs, hx, hb, ha, hc⟩ := h.get' hk
  obtain ⟨A', n', c', rfl, g0⟩ := ha
  exact ⟨x, A', n', c', hx, hb, g0, (by rw [show off + k = off + k * strs.size + 0 by show _ = off + k * 1 + 0; omega]; exact hc 0 _ rfl)⟩
theorem strs_ocell {w : World} {e : TypeId} {xs : List (List ByteArray)} {g n c i : Nat} {x : (List ByteArray)} {fp : List Nat} (h : Mm.SlOwn strs e w xs (.slice (some ⟨g, 0, none⟩) n c) fp) (hnd : fp.Nodup) (hi : xs[i]? = some x) : ∃ A' n' c', w.cell? ⟨g, i, none⟩ = some (.slice A' n' c') := by
  obtain ⟨cs, fx, hown, _, _, hc, _⟩ := h.inner hnd hi
  obtain ⟨v', rfl, ho⟩ := hown
  obtain ⟨A', n', c', rfl, _⟩ := ho.form
  exact ⟨A', n', c', (by have e0 := hc 0 _ rfl; rwa [show i * strs.size + 0 = i by show i * 1 + 0 = i; omega] at e0)⟩
theorem rTold_get {w : World} {B : Nat} {l : List Told} {A : Option Addr} {n c k : Nat} (h : Mm.SlAt rTold w B l A n c) (hk : k < n) :
    ∃ x b off, l[k]? = some x ∧ A = some ⟨b, off, none⟩ ∧ b < B ∧ Mm.I64 x.Who ∧ Mm.I64 x.No ∧ x.Text.size ≤ maxLen ∧ w.cell? ⟨b, off + k * 3, none⟩ = some (.int .i64 x.Who) ∧ w.cell? ⟨b, off + k * 3 + 1, none⟩ = some (.int .i64 x.No) ∧ w.cell? ⟨b, off + k * 3 + 2, none⟩ = some (.string x.Text) := by
  obtain ⟨x, b, off, cs, hx, hA, hb, ha, hc⟩ := h.get hk
  obtain ⟨rfl, g0, g1, g2⟩ := rTold_at ha
  exact ⟨x, b, off, hx, hA, hb, g0, g1, g2, hc 0 _ rfl, hc 1 _ rfl, hc 2 _ rfl⟩
theorem rTold_get' {w : World} {B : Nat} {l : List Told} {b off n c k : Nat} (h : Mm.SlAt rTold w B l (some ⟨b, off, none⟩) n c) (hk : k < n) :
    ∃ x, l[k]? = some x ∧ b < B ∧ Mm.I64 x.Who ∧ Mm.I64 x.No ∧ x.Text.size ≤ maxLen ∧ w.cell? ⟨b, off + k * 3, none⟩ = some (.int .i64 x.Who) ∧ w.cell? ⟨b, off + k * 3 + 1, none⟩ = some (.int .i64 x.No) ∧ w.cell? ⟨b, off + k * 3 + 2, none⟩ = some (.string x.Text) := by
  obtain ⟨x, cs, hx, hb, ha, hc⟩ := h.get' hk
  obtain ⟨rfl, g0, g1, g2⟩ := rTold_at ha
  exact ⟨x, hx, hb, g0, g1, g2, hc 0 _ rfl, hc 1 _ rfl, hc 2 _ rfl⟩
theorem rTold_ocell {w : World} {e : TypeId} {xs : List Told} {g n c i : Nat} {x : Told} {fp : List Nat} (h : Mm.SlOwn rTold e w xs (.slice (some ⟨g, 0, none⟩) n c) fp) (hnd : fp.Nodup) (hi : xs[i]? = some x) : w.cell? ⟨g, i * 3, none⟩ = some (.int .i64 x.Who) ∧ w.cell? ⟨g, i * 3 + 1, none⟩ = some (.int .i64 x.No) ∧ w.cell? ⟨g, i * 3 + 2, none⟩ = some (.string x.Text) := by
  obtain ⟨cs, fx, hown, _, _, hc, _⟩ := h.inner hnd hi
  obtain ⟨rfl, _⟩ := rTold_own hown
  exact ⟨hc 0 _ rfl, hc 1 _ rfl, hc 2 _ rfl⟩
theorem rNote_get {w : World} {B : Nat} {l : List Note} {A : Option Addr} {n c k : Nat} (h : Mm.SlAt rNote w B l A n c) (hk : k < n) :
    ∃ x b off, l[k]? = some x ∧ A = some ⟨b, off, none⟩ ∧ b < B ∧ Mm.I64 x.What.Who ∧ Mm.I64 x.What.No ∧ x.What.Text.size ≤ maxLen ∧ w.cell? ⟨b, off + k * 4, none⟩ = some (.bool x.Back) ∧ w.cell? ⟨b, off + k * 4 + 1, none⟩ = some (.int .i64 x.What.Who) ∧ w.cell? ⟨b, off + k * 4 + 2, none⟩ = some (.int .i64 x.What.No) ∧ w.cell? ⟨b, off + k * 4 + 3, none⟩ = some (.string x.What.Text) := by
  obtain ⟨x, b, off, cs, hx, hA, hb, ha, hc⟩ := h.get hk
  obtain ⟨rfl, g0, g1, g2⟩ := rNote_at ha
  exact ⟨x, b, off, hx, hA, hb, g0, g1, g2, hc 0 _ rfl, hc 1 _ rfl, hc 2 _ rfl, hc 3 _ rfl⟩
theorem rNote_get' {w : World} {B : Nat} {l : List Note} {b off n c k : Nat} (h : Mm.SlAt rNote w B l (some ⟨b, off, none⟩) n c) (hk : k < n) :
    ∃ x, l[k]? = some x ∧ b < B ∧ Mm.I64 x.What.Who ∧ Mm.I64 x.What.No ∧ x.What.Text.size ≤ maxLen ∧ w.cell? ⟨b, off + k * 4, none⟩ = some (.bool x.Back) ∧ w.cell? ⟨b, off + k * 4 + 1, none⟩ = some (.int .i64 x.What.Who) ∧ w.cell? ⟨b, off + k * 4 + 2, none⟩ = some (.int .i64 x.What.No) ∧ w.cell? ⟨b, off + k * 4 + 3, none⟩ = some (.string x.What.Text) := by
  obtain ⟨x, cs, hx, hb, ha, hc⟩ := h.get' hk
  obtain ⟨rfl, g0, g1, g2⟩ := rNote_at ha
  exact ⟨x, hx, hb, g0, g1, g2, hc 0 _ rfl, hc 1 _ rfl, hc 2 _ rfl, hc 3 _ rfl⟩
theorem rNote_ocell {w : World} {e : TypeId} {xs : List Note} {g n c i : Nat} {x : Note} {fp : List Nat} (h : Mm.SlOwn rNote e w xs (.slice (some ⟨g, 0, none⟩) n c) fp) (hnd : fp.Nodup) (hi : xs[i]? = some x) : w.cell? ⟨g, i * 4, none⟩ = some (.bool x.Back) ∧ w.cell? ⟨g, i * 4 + 1, none⟩ = some (.int .i64 x.What.Who) ∧ w.cell? ⟨g, i * 4 + 2, none⟩ = some (.int .i64 x.What.No) ∧ w.cell? ⟨g, i * 4 + 3, none⟩ = some (.string x.What.Text) := by
  obtain ⟨cs, fx, hown, _, _, hc, _⟩ := h.inner hnd hi
  obtain ⟨rfl, _⟩ := rNote_own hown
  exact ⟨hc 0 _ rfl, hc 1 _ rfl, hc 2 _ rfl, hc 3 _ rfl⟩
theorem rTellStep_get {w : World} {B : Nat} {l : List TellStep} {A : Option Addr} {n c k : Nat} (h : Mm.SlAt rTellStep w B l A n c) (hk : k < n) :
    ∃ x b off, l[k]? = some x ∧ A = some ⟨b, off, none⟩ ∧ b < B ∧ Mm.I64 x.Kind ∧ Mm.I64 x.K ∧ x.Text.size ≤ maxLen ∧ w.cell? ⟨b, off + k * 3, none⟩ = some (.int .i64 x.Kind) ∧ w.cell? ⟨b, off + k * 3 + 1, none⟩ = some (.int .i64 x.K) ∧ w.cell? ⟨b, off + k * 3 + 2, none⟩ = some (.string x.Text) := by
  obtain ⟨x, b, off, cs, hx, hA, hb, ha, hc⟩ := h.get hk
  obtain ⟨rfl, g0, g1, g2⟩ := rTellStep_at ha
  exact ⟨x, b, off, hx, hA, hb, g0, g1, g2, hc 0 _ rfl, hc 1 _ rfl, hc 2 _ rfl⟩
theorem rTellStep_get' {w : World} {B : Nat} {l : List TellStep} {b off n c k : Nat} (h : Mm.SlAt rTellStep w B l (some ⟨b, off, none⟩) n c) (hk : k < n) :
    ∃ x, l[k]? = some x ∧ b < B ∧ Mm.I64 x.Kind ∧ Mm.I64 x.K ∧ x.Text.size ≤ maxLen ∧ w.cell? ⟨b, off + k * 3, none⟩ = some (.int .i64 x.Kind) ∧ w.cell? ⟨b, off + k * 3 + 1, none⟩ = some (.int .i64 x.K) ∧ w.cell? ⟨b, off + k * 3 + 2, none⟩ = some (.string x.Text) := by
  obtain ⟨x, cs, hx, hb, ha, hc⟩ := h.get' hk
  obtain ⟨rfl, g0, g1, g2⟩ := rTellStep_at ha
  exact ⟨x, hx, hb, g0, g1, g2, hc 0 _ rfl, hc 1 _ rfl, hc 2 _ rfl⟩
theorem rTellStep_ocell {w : World} {e : TypeId} {xs : List TellStep} {g n c i : Nat} {x : TellStep} {fp : List Nat} (h : Mm.SlOwn rTellStep e w xs (.slice (some ⟨g, 0, none⟩) n c) fp) (hnd : fp.Nodup) (hi : xs[i]? = some x) : w.cell? ⟨g, i * 3, none⟩ = some (.int .i64 x.Kind) ∧ w.cell? ⟨g, i * 3 + 1, none⟩ = some (.int .i64 x.K) ∧ w.cell? ⟨g, i * 3 + 2, none⟩ = some (.string x.Text) := by
  obtain ⟨cs, fx, hown, _, _, hc, _⟩ := h.inner hnd hi
  obtain ⟨rfl, _⟩ := rTellStep_own hown
  exact ⟨hc 0 _ rfl, hc 1 _ rfl, hc 2 _ rfl⟩
end Go.Proofs.Ytaepohocabealaa

/-
  A struct behind a pointer, opened into its block and its slices, and shut again. No conditions.
-/
namespace Go.Proofs.Ytaepohocabealaa
open Go.RowKit
theorem open_Tell {F : List Nat} {w0 wr : World} {ts : List Mm.Thing} {g : Nat} {x : Tell} {fp : List Nat} (h : Mm.SepF F w0 wr (Mm.tptr rTell 31 g x fp :: ts)) :
    ∃ A0 n0 c0 A1 n1 c1 A2 n2 c2 A3 n3 c3 A4 n4 c4 f0 f1 f2 f3 f4, fp = f0 ++ (f1 ++ (f2 ++ (f3 ++ f4))) ∧ Mm.SepF F w0 wr (Mm.tblk g 31 [.slice A0 n0 c0, .slice A1 n1 c1, .slice A2 n2 c2, .slice A3 n3 c3, .slice A4 n4 c4] :: Mm.tsl strs 40 x.Texts (.slice A0 n0 c0) f0 :: Mm.tsl Mm.int 3 x.Heard (.slice A1 n1 c1) f1 :: Mm.tsl rNote 94 x.Line (.slice A2 n2 c2) f2 :: Mm.tsl rTold 52 x.Log (.slice A3 n3 c3) f3 :: Mm.tsl Mm.int 3 x.Next (.slice A4 n4 c4) f4 :: ts) := by
  have h0 := h.hold _ (List.mem_cons_self)
  obtain ⟨cs, hb, ho⟩ := h0
  obtain ⟨A0, n0, c0, A1, n1, c1, A2, n2, c2, A3, n3, c3, A4, n4, c4, f0, f1, f2, f3, f4, rfl, rfl, k0, k1, k2, k3, k4⟩ := rTell_own ho
  exact ⟨_, _, _, _, _, _, _, _, _, _, _, _, _, _, _, _, _, _, _, _, rfl, h.conv (by simp [Mm.tblk, Mm.tsl, Mm.tptr]) (List.forall_mem_cons.2 ⟨hb, List.forall_mem_cons.2 ⟨k0, List.forall_mem_cons.2 ⟨k1, List.forall_mem_cons.2 ⟨k2, List.forall_mem_cons.2 ⟨k3, List.forall_mem_cons.2 ⟨k4, fun u hu => h.hold u (List.mem_cons_of_mem _ hu)⟩⟩⟩⟩⟩⟩)⟩
theorem shut_Tell {F : List Nat} {w0 wr : World} {ts : List Mm.Thing} {g : Nat} {x : Tell} {A0 A1 A2 A3 A4 : Option Addr} {n0 c0 n1 c1 n2 c2 n3 c3 n4 c4 : Nat} {f0 f1 f2 f3 f4 : List Nat} (h : Mm.SepF F w0 wr (Mm.tblk g 31 [.slice A0 n0 c0, .slice A1 n1 c1, .slice A2 n2 c2, .slice A3 n3 c3, .slice A4 n4 c4] :: Mm.tsl strs 40 x.Texts (.slice A0 n0 c0) f0 :: Mm.tsl Mm.int 3 x.Heard (.slice A1 n1 c1) f1 :: Mm.tsl rNote 94 x.Line (.slice A2 n2 c2) f2 :: Mm.tsl rTold 52 x.Log (.slice A3 n3 c3) f3 :: Mm.tsl Mm.int 3 x.Next (.slice A4 n4 c4) f4 :: ts)) :
    Mm.SepF F w0 wr (Mm.tptr rTell 31 g x (f0 ++ (f1 ++ (f2 ++ (f3 ++ f4)))) :: ts) :=
  h.conv (by simp [Mm.tblk, Mm.tsl, Mm.tptr]) (List.forall_mem_cons.2 ⟨⟨_, h.at_ 0 rfl, rTell_own_mk (h.sl 1 rfl) (h.sl 2 rfl) (h.sl 3 rfl) (h.sl 4 rfl) (h.sl 5 rfl)⟩, fun u hu => h.hold u (by
    iterate 6 apply List.mem_cons_of_mem
    exact hu)⟩)
end Go.Proofs.Ytaepohocabealaa

/-
  Plain functions on lists of bytes: a word, a hash, a column. No program in sight. No conditions.
-/
namespace Go.Proofs.Ytaepohocabealaa
namespace Pl

/-- a byte that may stand in a word -/
def wbyte (d : Bool) (c : UInt8) : Bool := (decide (97 ≤ (c.toNat : Int)) && decide ((c.toNat : Int) ≤ 122)) || (d && (decide (48 ≤ (c.toNat : Int)) && decide ((c.toNat : Int) ≤ 57)))
def word (d : Bool) (l : List UInt8) : Bool := l.all (wbyte d) && (decide (1 ≤ (l.length : Int)) && decide ((l.length : Int) ≤ 8))
def isIn (n a b : Int) : Bool := decide (a ≤ n) && decide (n ≤ b)
def hash (l : List UInt8) : Int := l.foldl (fun h c => (31 * h + (c.toNat : Int)) % 1009) 7
def place0 (r : Int) (l : List UInt8) : Int := l.foldl (fun h c => ((2 * r + 29) * h + (c.toNat : Int)) % 10007) (r + 3)
def place (r : Int) (l : List UInt8) : Int := place0 r l % 11

theorem take_snoc (l : List UInt8) (k : Nat) (h : k < l.length) : l.take (k + 1) = l.take k ++ [l[k]] := by
  rw [List.take_succ_eq_append_getElem h]
theorem hash_bd (l : List UInt8) : 0 ≤ hash l ∧ hash l < 1009 := by
  unfold hash
  rw [← List.reverse_reverse l, List.foldl_reverse]
  cases l.reverse with
  | nil => simp
  | cons c t => simp only [List.foldr_cons]; omega
theorem hash_snoc (l : List UInt8) (c : UInt8) : hash (l ++ [c]) = (31 * hash l + (c.toNat : Int)) % 1009 := by
  unfold hash; rw [List.foldl_append]; rfl
theorem place0_bd (r : Int) (l : List UInt8) (h0 : 0 ≤ r) (h1 : r ≤ 2) : 0 ≤ place0 r l ∧ place0 r l < 10007 := by
  unfold place0
  rw [← List.reverse_reverse l, List.foldl_reverse]
  cases l.reverse with
  | nil => simp; omega
  | cons c t => simp only [List.foldr_cons]; omega
theorem place0_snoc (r : Int) (l : List UInt8) (c : UInt8) : place0 r (l ++ [c]) = ((2 * r + 29) * place0 r l + (c.toNat : Int)) % 10007 := by
  unfold place0; rw [List.foldl_append]; rfl
theorem place_mul (r h : Int) (h0 : 0 ≤ r) (h1 : r ≤ 2) (a : 0 ≤ h) (b : h < 10007) : 0 ≤ (2 * r + 29) * h ∧ (2 * r + 29) * h ≤ 350000 := by
  obtain rfl | rfl | rfl : r = 0 ∨ r = 1 ∨ r = 2 := by omega
  all_goals omega
theorem place_bd (r : Int) (l : List UInt8) : 0 ≤ place r l ∧ place r l < 11 := by
  unfold place; omega
theorem word_of_all (d : Bool) (l : List UInt8) (h : ∀ c ∈ l, wbyte d c = true) : word d l = isIn (l.length : Int) 1 8 := by
  unfold word isIn; rw [List.all_eq_true.2 h]; rfl
theorem word_of_bad (d : Bool) (l : List UInt8) (k : Nat) (hk : k < l.length) (h : wbyte d l[k] = false) : word d l = false := by
  unfold word
  rw [List.all_eq_false.2 ⟨l[k], List.getElem_mem hk, by rw [h]; simp⟩]; rfl
theorem word_bad {d : Bool} {s : ByteArray} {k : Nat} (hk : k < s.size) (h : wbyte d s[k] = false) : word d s.data.toList = false :=
  word_of_bad d s.data.toList k (by simpa using hk) h
theorem all_snoc {d : Bool} {l m : List UInt8} {c : UInt8} (he : m = l ++ [c]) (h : ∀ x ∈ l, wbyte d x = true) (hc : wbyte d c = true) : ∀ x ∈ m, wbyte d x = true := by
  subst he
  intro x hx
  rcases List.mem_append.1 hx with h1 | h1
  · exact h x h1
  · rw [List.mem_singleton.1 h1]; exact hc
theorem wb_no {d : Bool} {c : UInt8} (h : ¬ (97 ≤ (c.toNat : Int) ∧ (c.toNat : Int) ≤ 122)) (h2 : d = false ∨ ¬ (48 ≤ (c.toNat : Int) ∧ (c.toNat : Int) ≤ 57)) : wbyte d c = false := by
  unfold wbyte
  rcases h2 with rfl | h2
  · simp; omega
  · cases d <;> simp <;> omega
theorem wb_letter {d : Bool} {c : UInt8} (h : 97 ≤ (c.toNat : Int) ∧ (c.toNat : Int) ≤ 122) : wbyte d c = true := by
  unfold wbyte
  simp; omega
theorem wb_digit {c : UInt8} (h : 48 ≤ (c.toNat : Int) ∧ (c.toNat : Int) ≤ 57) : wbyte true c = true := by
  unfold wbyte
  simp; omega
theorem word_end {d : Bool} {l : List UInt8} {k : Nat} (hk : l.length ≤ k) (h : ∀ c ∈ l.take k, wbyte d c = true) : word d l = isIn (l.length : Int) 1 8 :=
  word_of_all d l (by rwa [List.take_of_length_le hk] at h)
theorem word_len {d : Bool} {l : List UInt8} (h : word d l = true) : 1 ≤ l.length ∧ l.length ≤ 8 := by
  unfold word at h; simp at h; omega
end Pl
end Go.Proofs.Ytaepohocabealaa

/-
  Plain functions on lists: a test of all elements, sums. No program in sight. No conditions.
-/
namespace Go.Proofs.Ytaepohocabealaa
namespace Pl
/-- every number below n is good -/
def allB (n : Nat) (g : Nat → Bool) : Bool := (List.range n).all g
theorem allB_iff {n : Nat} {g : Nat → Bool} : allB n g = true ↔ ∀ i, i < n → g i = true := by
  unfold allB; simp
theorem allB_no {n k : Nat} {g : Nat → Bool} (hk : k < n) (h : g k = false) : allB n g = false := by
  cases hb : allB n g with
  | false => rfl
  | true => rw [allB_iff.1 hb k hk] at h; cases h
theorem allB_yes {n : Nat} {g : Nat → Bool} (h : ∀ i, i < n → g i = true) : allB n g = true := allB_iff.2 h

theorem snocB {k : Nat} {p : Nat → Prop} (h : ∀ i, i < k → p i) (hk : p k) : ∀ i, i < k + 1 → p i := fun i hi => by
  rcases Nat.lt_succ_iff_lt_or_eq.1 hi with h1 | rfl
  · exact h i h1
  · exact hk
section
variable {α : Type} {p : α → Bool} {l : List α} {k : Nat} {x : α}
def upTo (p : α → Bool) (l : List α) (k : Nat) : Prop := ∀ i x, i < k → l[i]? = some x → p x = true
theorem upTo0 : upTo p l 0 := fun i _ h => absurd h (Nat.not_lt_zero i)
theorem upTo1 (h : upTo p l k) (hx : l[k]? = some x) (hp : p x = true) : upTo p l (k + 1) := fun i y hi hy => by
  by_cases e : i = k
  · subst e; rw [hx] at hy; injection hy with hy; rw [← hy]; exact hp
  · exact h i y (by omega) hy
theorem upToE (h : upTo p l k) (hk : l.length ≤ k) : l.all p = true := List.all_eq_true.2 fun y hy => by
  obtain ⟨i, hi, rfl⟩ := List.mem_iff_getElem.1 hy
  exact h i _ (by omega) (List.getElem?_eq_getElem hi)
theorem upToB (hx : l[k]? = some x) (hp : p x = false) : l.all p = false := List.all_eq_false.2 ⟨x, List.mem_of_getElem? hx, by rw [hp]; simp⟩
theorem all_at {p : α → Bool} {l : List α} (h : l.all p = true) {k : Nat} {x : α} (hx : l[k]? = some x) : p x = true := List.all_eq_true.1 h x (List.mem_of_getElem? hx)
end
def allIn (a b : Int) (l : List Int) : Bool := l.all fun x => isIn x a b
theorem isIn_iff {n a b : Int} : isIn n a b = true ↔ a ≤ n ∧ n ≤ b := by unfold isIn; simp
theorem isIn_no {n a b : Int} : isIn n a b = false ↔ ¬ (a ≤ n ∧ n ≤ b) := by
  unfold isIn; rw [← Bool.not_eq_true]; simp
theorem isIn_mk {n a b : Int} (h1 : a ≤ n) (h2 : n ≤ b) : isIn n a b = true := isIn_iff.2 ⟨h1, h2⟩
theorem allIn_at {a b : Int} {l : List Int} (h : allIn a b l = true) {k : Nat} {x : Int} (hx : l[k]? = some x) : a ≤ x ∧ x ≤ b := isIn_iff.1 (all_at h hx)
def sumTo (l : List Int) : Nat → Int
  | 0 => 0
  | k + 1 => sumTo l k + l.getD k 0
def sum (l : List Int) : Int := sumTo l l.length
theorem sumTo_next {l : List Int} {k : Nat} {x : Int} (hx : l[k]? = some x) : sumTo l (k + 1) = sumTo l k + x := by
  rw [sumTo, List.getD_eq_getElem?_getD, hx]; rfl
theorem getD_bd {l : List Int} {a b : Int} (h : allIn a b l = true) (h0 : a ≤ 0) (h1 : 0 ≤ b) (k : Nat) : a ≤ l.getD k 0 ∧ l.getD k 0 ≤ b := by
  rw [List.getD_eq_getElem?_getD]
  cases hx : l[k]? with
  | none => exact ⟨h0, h1⟩
  | some x => exact allIn_at h hx
theorem sumTo_bd {l : List Int} {a b : Int} (h : allIn a b l = true) (h0 : a ≤ 0) (h1 : 0 ≤ b) : ∀ k : Nat, a * k ≤ sumTo l k ∧ sumTo l k ≤ b * k
  | 0 => by simp [sumTo]
  | k + 1 => by
    have h2 := sumTo_bd h h0 h1 k
    have h3 := getD_bd h h0 h1 k
    rw [sumTo]
    push_cast
    rw [Int.mul_add, Int.mul_add, Int.mul_one, Int.mul_one]
    omega
theorem getD_upTo {l : List Int} {a b : Int} {k : Nat} (h : upTo (fun x => isIn x a b) l k) (h0 : a ≤ 0) (h1 : 0 ≤ b) {i : Nat} (hi : i < k) : a ≤ l.getD i 0 ∧ l.getD i 0 ≤ b := by
  rw [List.getD_eq_getElem?_getD]
  cases hx : l[i]? with
  | none => exact ⟨h0, h1⟩
  | some x => exact isIn_iff.1 (h i x hi hx)
theorem sumTo_bd' {l : List Int} {a b : Int} {k : Nat} (h : upTo (fun x => isIn x a b) l k) (h0 : a ≤ 0) (h1 : 0 ≤ b) : ∀ j : Nat, j ≤ k → a * j ≤ sumTo l j ∧ sumTo l j ≤ b * j
  | 0, _ => by simp [sumTo]
  | j + 1, hj => by
    have h2 := sumTo_bd' h h0 h1 j (by omega)
    have h3 := getD_upTo h h0 h1 (show j < k by omega)
    rw [sumTo]
    push_cast
    rw [Int.mul_add, Int.mul_add, Int.mul_one, Int.mul_one]
    omega
end Pl
end Go.Proofs.Ytaepohocabealaa

/-
  Plain functions: tellers. No program in sight. No conditions.
-/
namespace Go.Proofs.Ytaepohocabealaa
namespace Pl
def iAt (l : List Int) (k : Int) : Int := l.getD k.toNat 0
def tAt (t : Tell) (k : Int) : List ByteArray := t.Texts.getD k.toNat []
def judge (next no : Int) : Int := if no = next then 1 else if no < next then 2 else 3
def tsend (t : Tell) (m : Note) : Tell := if t.Line.length < 30 then { t with Line := t.Line ++ [m] } else t
def tback (t : Tell) (x : Told) : Tell := { t with Heard := t.Heard.set x.Who.toNat (if iAt t.Heard x.Who < x.No then x.No else iAt t.Heard x.Who) }
def tlog (t : Tell) (x : Told) : Tell := if x.No = iAt t.Next x.Who then { t with Log := t.Log ++ [x], Next := t.Next.set x.Who.toNat (iAt t.Next x.Who + 1) } else t
def ttake (t : Tell) (m : Note) : Tell :=
  if m.Back = true then tback t m.What else tsend (tlog t m.What) ⟨true, ⟨m.What.Who, iAt (tlog t m.What).Next m.What.Who, ByteArray.empty⟩⟩
def tput (t : Tell) (k : Int) (s : ByteArray) : Tell × Bool :=
  if 0 ≤ k ∧ k < t.Texts.length ∧ s.size ≤ 20 ∧ (tAt t k).length ≠ 20 then ({ t with Texts := t.Texts.set k.toNat (tAt t k ++ [s]) }, true) else (t, false)
def noteAt (t : Tell) (k : Int) : Note := t.Line.getD k.toNat ⟨false, ⟨0, 0, ByteArray.empty⟩⟩
def tstep (t : Tell) (s : TellStep) : Tell × Bool :=
  if s.Kind = 1 then tput t s.K s.Text
  else if s.Text.size ≠ 0 ∨ s.K < 0 then (t, false)
  else if s.Kind = 2 then
    if s.K < t.Texts.length ∧ iAt t.Heard s.K ≠ (tAt t s.K).length then (tsend t ⟨false, ⟨s.K, iAt t.Heard s.K, (tAt t s.K).getD (iAt t.Heard s.K).toNat ByteArray.empty⟩⟩, true) else (t, false)
  else if 3 ≤ s.Kind ∧ s.Kind ≤ 5 ∧ s.K < t.Line.length then
    if s.Kind = 5 then (if t.Line.length = 30 then (t, false) else ({ t with Line := t.Line ++ [noteAt t s.K] }, true))
    else if s.Kind = 3 then (ttake { t with Line := t.Line.eraseIdx s.K.toNat } (noteAt t s.K), true)
    else ({ t with Line := t.Line.eraseIdx s.K.toNat }, true)
  else (t, false)
/-- a message fits a state -/
def MsgOk (t : Tell) (m : Note) : Prop := 0 ≤ m.What.Who ∧ m.What.Who < t.Texts.length ∧ 0 ≤ m.What.No ∧ ∀ l, t.Texts[m.What.Who.toNat]? = some l → m.What.No ≤ l.length ∧ (m.Back = false → m.What.No < l.length)
/-- what every state that is played meets -/
structure TWf (t : Tell) : Prop where
  n4 : t.Texts.length ≤ 4
  heard : t.Heard.length = t.Texts.length
  next : t.Next.length = t.Texts.length
  line : t.Line.length ≤ 30
  log : (t.Log.length : Int) = sum t.Next
  texts : ∀ (k : Nat) (l : List ByteArray), t.Texts[k]? = some l → l.length ≤ 20
  nx : ∀ (k : Nat) (a : Int) (l : List ByteArray), t.Next[k]? = some a → t.Texts[k]? = some l → 0 ≤ a ∧ a ≤ l.length
  hd : ∀ (k : Nat) (a : Int) (l : List ByteArray), t.Heard[k]? = some a → t.Texts[k]? = some l → 0 ≤ a ∧ a ≤ l.length
  msg : ∀ m, m ∈ t.Line → MsgOk t m
theorem TWf.send {t : Tell} (h : TWf t) {m : Note} (hm : MsgOk t m) : TWf (tsend t m) := by
  unfold tsend
  split
  · rename_i hl
    exact ⟨h.n4, h.heard, h.next, by simp only [List.length_append, List.length_singleton]; omega, h.log, h.texts, h.nx, h.hd, fun x hx => by
      rcases List.mem_append.1 hx with hx | hx
      · exact h.msg x hx
      · rw [List.mem_singleton.1 hx]; exact hm⟩
  · exact h
theorem set_some {α : Type} {l : List α} {k j : Nat} {x a : α} (h : (l.set k x)[j]? = some a) : (k = j ∧ a = x) ∨ (k ≠ j ∧ l[j]? = some a) := by
  by_cases hkj : k = j
  · subst hkj
    have hk : k < l.length := by have := (List.getElem?_eq_some_iff.1 h).1; rwa [List.length_set] at this
    rw [List.getElem?_set_self hk] at h
    injection h with h
    exact .inl ⟨rfl, h.symm⟩
  · rw [List.getElem?_set_ne hkj] at h
    exact .inr ⟨hkj, h⟩
theorem iAt_of {l : List Int} {k : Int} {a : Int} (h : l[k.toNat]? = some a) : iAt l k = a := by
  unfold iAt; rw [List.getD_eq_getElem?_getD, h]; rfl
theorem tAt_of {t : Tell} {k : Int} {l : List ByteArray} (h : t.Texts[k.toNat]? = some l) : tAt t k = l := by
  unfold tAt; rw [List.getD_eq_getElem?_getD, h]; rfl
theorem noteAt_of {t : Tell} {k : Int} {m : Note} (h : t.Line[k.toNat]? = some m) : noteAt t k = m := by
  unfold noteAt; rw [List.getD_eq_getElem?_getD, h]; rfl
theorem TWf.back {t : Tell} (h : TWf t) {m : Note} (hm : MsgOk t m) : TWf (tback t m.What) := by
  refine ⟨h.n4, by show (t.Heard.set _ _).length = _; rw [List.length_set]; exact h.heard, h.next, h.line, h.log, h.texts, h.nx, fun k a l ha hl => ?_, h.msg⟩
  rcases set_some ha with ⟨rfl, rfl⟩ | ⟨_, ha⟩
  · have hk : m.What.Who.toNat < t.Heard.length := by have := hm.1; have := hm.2.1; rw [h.heard]; omega
    have hh := h.hd _ _ l (List.getElem?_eq_getElem hk) hl
    rw [iAt_of (List.getElem?_eq_getElem hk)]
    have h3 := (hm.2.2.2 l hl).1
    have h4 := hm.2.2.1
    split <;> omega
  · exact h.hd k a l ha hl
theorem sumTo_set {l : List Int} {k : Nat} {a b : Int} (h : l[k]? = some a) : ∀ n, sumTo (l.set k b) n = sumTo l n + if k < n then b - a else 0
  | 0 => by simp [sumTo]
  | n + 1 => by
    have ih := sumTo_set (b := b) h n
    have hk := (List.getElem?_eq_some_iff.1 h).1
    rw [sumTo, sumTo, ih]
    by_cases hkn : k = n
    · subst hkn
      rw [List.getD_eq_getElem?_getD, List.getD_eq_getElem?_getD, List.getElem?_set_self hk, h]
      simp
      omega
    · rw [List.getD_eq_getElem?_getD, List.getD_eq_getElem?_getD, List.getElem?_set_ne hkn]
      by_cases hlt : k < n
      · rw [if_pos hlt, if_pos (by omega)]; omega
      · rw [if_neg hlt, if_neg (by omega)]; omega
theorem sum_set {l : List Int} {k : Nat} {a b : Int} (h : l[k]? = some a) : sum (l.set k b) = sum l + (b - a) := by
  unfold sum
  rw [List.length_set, sumTo_set h, if_pos (List.getElem?_eq_some_iff.1 h).1]
theorem TWf.tlog {t : Tell} (h : TWf t) {m : Note} (hm : MsgOk t m) (hb : m.Back = false) : TWf (tlog t m.What) := by
  unfold Pl.tlog
  split
  · rename_i he
    have hk : m.What.Who.toNat < t.Next.length := by have := hm.1; have := hm.2.1; rw [h.next]; omega
    have hx := List.getElem?_eq_getElem hk
    rw [iAt_of hx] at he ⊢
    refine ⟨h.n4, h.heard, by show (t.Next.set _ _).length = _; rw [List.length_set]; exact h.next, h.line, ?_, h.texts, fun k a l ha hl => ?_, h.hd, h.msg⟩
    · show ((t.Log ++ [m.What]).length : Int) = sum (t.Next.set _ _)
      rw [sum_set hx, List.length_append, List.length_singleton]
      have := h.log
      push_cast
      omega
    · rcases set_some ha with ⟨rfl, rfl⟩ | ⟨_, ha⟩
      · have h3 := (hm.2.2.2 l hl).2 hb
        have h4 := h.nx _ _ l hx hl
        omega
      · exact h.nx k a l ha hl
  · exact h
theorem TWf.log_len {t : Tell} (h : TWf t) : t.Log.length ≤ 80 := by
  have h1 : ∀ n : Nat, n ≤ t.Next.length → sumTo t.Next n ≤ 20 * n := by
    intro n
    induction n with
    | zero => intro _; simp [sumTo]
    | succ n ih =>
      intro hn
      have hx := List.getElem?_eq_getElem (show n < t.Next.length by omega)
      have hl := List.getElem?_eq_getElem (show n < t.Texts.length by have := h.next; omega)
      have h2 := (h.nx _ _ _ hx hl).2
      have h3 := h.texts _ _ hl
      rw [sumTo_next hx]
      have := ih (by omega)
      push_cast
      omega
  have h2 := h1 t.Next.length (Nat.le_refl _)
  have h3 := h.log
  have h4 := h.next
  have h5 := h.n4
  unfold sum at h3
  omega
theorem tlog_texts (t : Tell) (x : Told) : (Pl.tlog t x).Texts = t.Texts := by unfold Pl.tlog; split <;> rfl
theorem TWf.take {t : Tell} (h : TWf t) {m : Note} (hm : MsgOk t m) : TWf (ttake t m) := by
  unfold ttake
  split
  · exact h.back hm
  · rename_i hb
    have hb' : m.Back = false := by simpa using hb
    have h1 := h.tlog hm hb'
    refine h1.send ⟨hm.1, by rw [tlog_texts]; exact hm.2.1, ?_, fun l hl => ?_⟩
    · have hk : m.What.Who.toNat < (Pl.tlog t m.What).Next.length := by have := hm.1; have := hm.2.1; rw [h1.next, tlog_texts]; omega
      have hkt : m.What.Who.toNat < (Pl.tlog t m.What).Texts.length := by have := h1.next; omega
      show 0 ≤ iAt _ _
      rw [iAt_of (List.getElem?_eq_getElem hk)]
      exact (h1.nx _ _ _ (List.getElem?_eq_getElem hk) (List.getElem?_eq_getElem hkt)).1
    · have hk : m.What.Who.toNat < (Pl.tlog t m.What).Next.length := by have := hm.1; have := hm.2.1; rw [h1.next, tlog_texts]; omega
      refine ⟨?_, fun hh => by cases hh⟩
      show iAt _ _ ≤ _
      rw [iAt_of (List.getElem?_eq_getElem hk)]
      exact (h1.nx _ _ _ (List.getElem?_eq_getElem hk) hl).2
theorem TWf.drop {t : Tell} (h : TWf t) (k : Nat) : TWf { t with Line := t.Line.eraseIdx k } :=
  ⟨h.n4, h.heard, h.next, Nat.le_trans (List.length_eraseIdx_le _ _) h.line, h.log, h.texts, h.nx, h.hd, fun m hm => h.msg m (List.mem_of_mem_eraseIdx hm)⟩
theorem TWf.note {t : Tell} (h : TWf t) {k : Int} (h0 : 0 ≤ k) (h1 : k < t.Line.length) : MsgOk t (noteAt t k) := by
  have hk : k.toNat < t.Line.length := by omega
  rw [noteAt_of (List.getElem?_eq_getElem hk)]
  exact h.msg _ (List.getElem_mem hk)
theorem TWf.step {t : Tell} (h : TWf t) (s : TellStep) : TWf (tstep t s).1 := by
  unfold tstep
  split
  · unfold tput
    split
    · rename_i hp
      have hk : s.K.toNat < t.Texts.length := by omega
      have hx := List.getElem?_eq_getElem hk
      rw [tAt_of hx] at hp ⊢
      have hlen := h.texts _ _ hx
      have hgrow : ∀ (k : Nat) (l : List ByteArray), (t.Texts.set s.K.toNat (t.Texts[s.K.toNat] ++ [s.Text]))[k]? = some l → ∃ l', t.Texts[k]? = some l' ∧ l'.length ≤ l.length ∧ l.length ≤ 20 := fun k l hl => by
        rcases set_some hl with ⟨rfl, rfl⟩ | ⟨_, hl⟩
        · exact ⟨_, hx, by simp, by simp; omega⟩
        · exact ⟨l, hl, Nat.le_refl _, h.texts k l hl⟩
      refine ⟨by show (t.Texts.set _ _).length ≤ 4; rw [List.length_set]; exact h.n4, by show _ = (t.Texts.set _ _).length; rw [List.length_set]; exact h.heard, by show _ = (t.Texts.set _ _).length; rw [List.length_set]; exact h.next, h.line, h.log, fun k l hl => ?_, fun k a l ha hl => ?_, fun k a l ha hl => ?_, fun m hm => ?_⟩
      · obtain ⟨_, _, _, h3⟩ := hgrow k l hl; exact h3
      · obtain ⟨l', h1, h2, _⟩ := hgrow k l hl
        have := h.nx k a l' ha h1; omega
      · obtain ⟨l', h1, h2, _⟩ := hgrow k l hl
        have := h.hd k a l' ha h1; omega
      · have h5 := h.msg m hm
        refine ⟨h5.1, by show _ < ((t.Texts.set _ _).length : Int); rw [List.length_set]; exact h5.2.1, h5.2.2.1, fun l hl => ?_⟩
        obtain ⟨l', h1, h2, _⟩ := hgrow _ l hl
        have h6 := h5.2.2.2 l' h1
        exact ⟨by omega, fun hb => by have := h6.2 hb; omega⟩
    · exact h
  · split
    · exact h
    · rename_i hn1 hn2
      split
      · split
        · rename_i hk
          have hkn : s.K.toNat < t.Texts.length := by omega
          have hkh : s.K.toNat < t.Heard.length := by rw [h.heard]; exact hkn
          have hx := List.getElem?_eq_getElem hkn
          have hy := List.getElem?_eq_getElem hkh
          have hb := h.hd _ _ _ hy hx
          rw [tAt_of hx, iAt_of hy] at hk
          refine h.send ⟨by show 0 ≤ s.K; omega, hk.1, by show 0 ≤ iAt _ _; rw [iAt_of hy]; exact hb.1, fun l hl => ?_⟩
          rw [hx] at hl
          injection hl with hl
          subst hl
          have : iAt t.Heard s.K < (t.Texts[s.K.toNat].length : Int) := by rw [iAt_of hy]; omega
          exact ⟨by show iAt _ _ ≤ _; omega, fun _ => this⟩
        · exact h
      · split
        · rename_i hk
          have hm := h.note (k := s.K) (by omega) hk.2.2
          split
          · split
            · exact h
            · rename_i hl
              exact ⟨h.n4, h.heard, h.next, by show (t.Line ++ [_]).length ≤ 30; have := h.line; simp only [List.length_append, List.length_singleton]; omega, h.log, h.texts, h.nx, h.hd, fun x hx => by
                rcases List.mem_append.1 hx with hx | hx
                · exact h.msg x hx
                · rw [List.mem_singleton.1 hx]; exact hm⟩
          · split
            · exact (h.drop _).take hm
            · exact h.drop _
        · exact h
end Pl
end Go.Proofs.Ytaepohocabealaa

/-
  Contracts of the program's and the reference's functions on words and hashes. No conditions.
-/

namespace Go.Proofs.Ytaepohocabealaa
open Go.RowKit

def Pl.ret2 (x : Int × Bool) : Ending := .returned (.tuple #[.int .i64 x.1, .bool x.2])
theorem ret_int {k : IntKind} {a b : Int} (h : a = b) : Ending.returned (.int k a) = .returned (.int k b) := by rw [h]
theorem ret_bool {a b : Bool} (h : a = b) : Ending.returned (.bool a) = .returned (.bool b) := by rw [h]

theorem within_c (n a b : Int) (w : World) :
    Calls Try.prog 47 #[.int .i64 n, .int .i64 a, .int .i64 b] w fun e w' => e = .returned (.bool (Pl.isIn n a b)) ∧ w = w' := by
  unfold Pl.isIn
  by_cases h1 : a ≤ n
  · by_cases h2 : n ≤ b
    · go_enter Try.func47, Try.ntmps47
      go_wp2
      go_ret
      exact ⟨ret_bool (by simp [*]), rfl⟩
    · go_enter Try.func47, Try.ntmps47
      go_wp2
      go_ret
      exact ⟨ret_bool (by simp [*]), rfl⟩
  · go_enter Try.func47, Try.ntmps47
    go_wp2
    go_ret
    exact ⟨ret_bool (by simp; omega), rfl⟩
theorem l1In_c (n a b : Int) (w : World) :
    Calls Try.prog 56 #[.int .i64 n, .int .i64 a, .int .i64 b] w fun e w' => e = .returned (.bool (Pl.isIn n a b)) ∧ w = w' := by
  unfold Pl.isIn
  by_cases h1 : a ≤ n
  · by_cases h2 : n ≤ b
    · go_enter Try.func56, Try.ntmps56
      go_wp2
      go_ret
      exact ⟨ret_bool (by simp [*]), rfl⟩
    · go_enter Try.func56, Try.ntmps56
      go_wp2
      go_ret
      exact ⟨ret_bool (by simp [*]), rfl⟩
  · go_enter Try.func56, Try.ntmps56
    go_wp2
    go_ret
    exact ⟨ret_bool (by simp; omega), rfl⟩
end Go.Proofs.Ytaepohocabealaa

/-
  From the form's own reading of an argument to the readings of Mm: for numbers, strings, structs and slices of whatever depth. No program in sight. No conditions.
-/
namespace Go.Proofs.Ytaepohocabealaa
open Go.ChangeShapes Go.WideShapes Go.RowKit Go.Deep
namespace Mm

def Opens {α : Type} (P : Program) (t : TypeId) (E : Rep α) : Prop :=
  P.cellsOf t = E.size ∧ ∀ (H : Type) (enc : TypeId × Value → H) (w : World) (base : Nat) (spare : Nat → Bool) (held : Bool) (fuel : Nat) (cs : List Value) (x : DataW H × List MemPlace),
    DataW.trod enc P w base spare held fuel t cs = some x → ∃ y, E.at_ w w.heap.size y cs

variable {P : Program} {t e : TypeId}

theorem opens_int (ht : P.underlying t = some (.int .i64)) (hc : P.cellsOf t = 1) : Opens P t int := ⟨hc, fun H enc w base spare held fuel cs x h => by
  obtain ⟨n, rfl, _, hw⟩ := DataW.trod_int ht h
  refine ⟨n, rfl, ?_⟩
  simp [Lit.wf, IntKind.min, IntKind.max, IntKind.signed, IntKind.bits] at hw
  unfold I64
  omega⟩
theorem opens_bool (ht : P.underlying t = some .bool) (hc : P.cellsOf t = 1) : Opens P t bool := ⟨hc, fun H enc w base spare held fuel cs x h => by
  obtain ⟨n, rfl, _⟩ := DataW.trod_bool ht h
  exact ⟨n, rfl, trivial⟩⟩
theorem opens_str (ht : P.underlying t = some .string) (hc : P.cellsOf t = 1) : Opens P t str := ⟨hc, fun H enc w base spare held fuel cs x h => by
  obtain ⟨n, rfl, _, hw⟩ := DataW.trod_string ht h
  exact ⟨n, rfl, hw⟩⟩
theorem opens_map {α β : Type} {E : Rep α} {F : Rep β} (h : Opens P t E) (hs : E.size = F.size) (hc : ∀ w B x cs, E.at_ w B x cs → ∃ y, F.at_ w B y cs) : Opens P t F :=
  ⟨h.1.trans hs, fun H enc w base spare held fuel cs x hx => by
    obtain ⟨y, hy⟩ := h.2 H enc w base spare held fuel cs x hx
    exact hc _ _ _ _ hy⟩
theorem opens_slice {α : Type} {E : Rep α} (ht : P.underlying t = some (.slice e)) (hc : P.cellsOf t = 1) (h0 : 0 < E.size) (hE : Opens P e E) : Opens P t (slice E e) := ⟨hc, fun H enc w base spare held fuel cs x h => by
  rcases open_slice ht h with ⟨rfl, _⟩ | ⟨a, len, cap, m, n, D, Pl, rfl, hb, hl, hm, hmm, _, hi⟩
  · exact ⟨[], none, 0, 0, rfl, SlAt.nil (Nat.zero_le _) (fun _ => rfl)⟩
  · have hle : len ≤ m := by rw [hmm]; split <;> omega
    have hex : ∀ i : Fin len, ∃ y : α, ∃ cs', E.at_ w w.heap.size y cs' ∧ cs'.length = E.size ∧ ∀ j, j < E.size → w.cell? (a.add (i.1 * E.size + j)) = cs'[j]? := by
      intro i
      obtain ⟨cs', h1, h2⟩ := hi i.1 (by have := i.2; omega)
      obtain ⟨y, hy⟩ := hE.2 H enc w base spare held n cs' _ h2
      obtain ⟨_, hln, hcell⟩ := World.cells?_some h1
      rw [hE.1] at hln hcell
      exact ⟨y, cs', hy, hln, fun j hj => by rw [← Go.Deep.add_add]; exact hcell j hj⟩
    refine ⟨List.ofFn fun i : Fin len => Classical.choose (hex i), some a, len, cap, rfl, by simp, hl, hm, (fun h => by cases h), fun i y hy => ?_⟩
    have hil : i < len := by
      have := (List.getElem?_eq_some_iff.1 hy).1
      simpa using this
    obtain ⟨cs', h1, h2, h3⟩ := Classical.choose_spec (hex ⟨i, hil⟩)
    have hey : Classical.choose (hex ⟨i, hil⟩) = y := by
      rw [List.getElem?_ofFn] at hy
      simpa [hil] using hy
    rw [hey] at h1
    obtain ⟨cs0, _, h20, h30⟩ := Classical.choose_spec (hex ⟨0, by omega⟩)
    have hc0 := h30 0 h0
    rw [List.getElem?_eq_getElem (by omega)] at hc0
    obtain ⟨b, off, spot⟩ := a
    have hsp : spot = none := by
      have := World.cell?_spot hc0
      simpa [Addr.add] using this
    subst hsp
    have hadd : ∀ k : Nat, (⟨b, off, none⟩ : Addr).add k = ⟨b, off + k, none⟩ := fun k => by unfold Addr.add; split <;> simp_all
    refine ⟨b, off, cs', rfl, ?_, h1, fun j u hu => ?_⟩
    · have := World.block_lt_of_cell? w _ hc0
      rw [hadd] at this
      exact this
    · have hj : j < cs'.length := (List.getElem?_eq_some_iff.1 hu).1
      have := h3 j (by omega)
      rw [hu, hadd] at this
      rw [Nat.add_assoc]
      exact this⟩

def OpensF {α : Type} (P : Program) (l : List Field) (off : Nat) (E : Rep α) : Prop :=
  ∀ (H : Type) (enc : TypeId × Value → H) (w : World) (base : Nat) (spare : Nat → Bool) (held : Bool) (n : Nat) (cs : List Value), cs.length = off + E.size →
    (∀ (i : Nat) (f : Field), l[i]? = some f → ∃ x, DataW.trod enc P w base spare held n f.type ((cs.drop f.offset).take (P.cellsOf f.type)) = some x) → ∃ y, E.at_ w w.heap.size y (cs.drop off)
theorem opensF_one {α : Type} {E : Rep α} {f : Field} {off : Nat} (ho : f.offset = off) (h : Opens P f.type E) : OpensF P [f] off E := fun H enc w base spare held n cs hl hf => by
  obtain ⟨x, hx⟩ := hf 0 f rfl
  obtain ⟨y, hy⟩ := h.2 H enc w base spare held n _ x hx
  rw [ho, h.1, List.take_of_length_le (by rw [List.length_drop]; omega)] at hy
  exact ⟨y, hy⟩
theorem opensF_cons {α β : Type} {E : Rep α} {F : Rep β} {f : Field} {l : List Field} {off : Nat} (ho : f.offset = off) (h : Opens P f.type E) (hr : OpensF P l (off + E.size) F) : OpensF P (f :: l) off (pair E F) :=
  fun H enc w base spare held n cs hl hf => by
    obtain ⟨x, hx⟩ := hf 0 f rfl
    obtain ⟨y, hy⟩ := h.2 H enc w base spare held n _ x hx
    rw [ho, h.1] at hy
    have hl' : cs.length = off + E.size + F.size := by rw [hl]; show off + (E.size + F.size) = _; omega
    obtain ⟨z, hz⟩ := hr H enc w base spare held n cs hl' (fun i g hg => hf (i + 1) g (by simpa using hg))
    refine ⟨(y, z), _, _, ?_, hy, hz⟩
    rw [← List.drop_drop, List.take_append_drop]
theorem opens_struct {α : Type} {E : Rep α} {fs : Array Field} (ht : P.underlying t = some (.struct fs)) (hc : P.cellsOf t = E.size) (h : OpensF P fs.toList 0 E) : Opens P t E := ⟨hc, fun H enc w base spare held fuel cs x hx => by
  obtain ⟨ys, n, _, _, hlen, hyl, hf⟩ := DataW.trod_struct ht hx
  have := h H enc w base spare held n cs (by rw [hlen, hc]; omega) (fun i f hi => by
    have hi' : i < fs.size := by
      have := (List.getElem?_eq_some_iff.1 hi).1
      simpa using this
    have h2 := hf i f (by rw [← Array.getElem?_toList]; exact hi)
    rw [List.getElem?_eq_getElem (by omega)] at h2
    exact ⟨_, h2⟩)
  simpa using this⟩

/-- a parameter that is a slice -/
theorem open_sl {H : Type} {enc : TypeId × Value → H} {w : World} {base : Nat} {spare : Nat → Bool} {held : Bool} {r : Reach} {b0 : Nat} {v : Value} {d : DataW H} {p : List MemPlace} {α : Type} {E : Rep α}
    (ho : Opens P t (slice E e)) (ht : P.underlying t = some (.slice e)) (hv : Value.okWide P w r b0 t v) (h : DataW.Trod enc P w base spare held t v d p) :
    ∃ A n c xs, v = .slice A n c ∧ SlAt E w w.heap.size xs A n c := by
  obtain ⟨A, n, c, rfl⟩ := okWide_slice ht hv
  obtain ⟨fuel, hf⟩ := h
  obtain ⟨xs, A', n', c', he, hx⟩ := ho.2 H enc w base spare held fuel _ _ hf
  simp [Value.cells] at he
  obtain ⟨rfl, rfl, rfl⟩ := he
  exact ⟨A, n, c, xs, rfl, hx⟩
/-- a parameter that is a struct -/
theorem open_st {H : Type} {enc : TypeId × Value → H} {w : World} {base : Nat} {spare : Nat → Bool} {held : Bool} {r : Reach} {b0 : Nat} {v : Value} {d : DataW H} {p : List MemPlace} {α : Type} {E : Rep α} {fs : Array Field}
    (ho : Opens P t E) (ht : P.underlying t = some (.struct fs)) (hv : Value.okWide P w r b0 t v) (h : DataW.Trod enc P w base spare held t v d p) :
    ∃ (cs : List Value) (x : α), v = .agg cs.toArray ∧ E.at_ w w.heap.size x cs := by
  obtain ⟨cs, rfl, _⟩ := okWide_struct ht hv
  obtain ⟨fuel, hf⟩ := h
  obtain ⟨x, hx⟩ := ho.2 H enc w base spare held fuel _ _ hf
  exact ⟨cs.toList, x, by simp, hx⟩
end Mm
end Go.Proofs.Ytaepohocabealaa

/-
  A region that draws its order: loads and calls that at most make memory, in one walk in the order of the text; behind them, in a row, what writes. No program in sight. No conditions.
-/
namespace Go.Proofs.Ytaepohocabealaa
open Go.RowKit

section
variable {P : Program} {ops : Array Oper} {md : Region.Mode} {C : World → Prop}
/-- whatever comes up, for so many rounds: it is one of the first n, and quiet in C -/
def headQ (P : Program) (md : Region.Mode) (ops : Array Oper) (C : World → Prop) (n : Nat) (L : Array Bool → Act → Prop) : Nat → Array Bool → Act → Prop
  | 0, listed, a => L listed a
  | f + 1, listed, a => Region.ready md ops listed ≠ [] ∧ ∀ i ∈ Region.ready md ops listed, i < n ∧ qOp P ops C i (headQ P md ops C n L f (listed.setIfInBounds i true)) a

theorem headQ_any {n g : Nat} {L : Array Bool → Act → Prop} {Q : Exit → Act → World → Prop} (hL : ∀ listed a w, C w → L listed a → wpAny P md ops Q g listed a w) :
    ∀ (f : Nat) (listed : Array Bool) (a : Act) (w : World), C w → headQ P md ops C n L f listed a → wpAny P md ops Q (f + g) listed a w
  | 0, listed, a, w, hw, h => by rw [Nat.zero_add]; exact hL _ _ _ hw h
  | f + 1, listed, a, w, hw, h => by
    rw [show f + 1 + g = (f + g) + 1 by omega]
    exact ⟨fun h0 => absurd h0 h.1, fun i hi => wpOp_of_qOp hw (fun a' w' hw' h' => headQ_any hL f _ a' w' hw' h') (h.2 i hi).2⟩

theorem headQ_first {n i : Nat} {oi : Oper} {v : Value} {L : Array Bool → Act → Prop} (hi : ops[i]? = some oi) (hsel : ∀ (j : Nat) (o : Oper) cs b, ops[j]? = some o → o.op ≠ .select cs b)
    (hs : Region.sinkB md ops n = true) (hc : Region.chainB md ops n = true) (hn : n < ops.size) (hin : i < n) (hdone : ∀ listed a, L listed a → ∀ j ∈ Region.ready md ops listed, n ≤ j) :
    ∀ (f : Nat) (listed : Array Bool) (a : Act), HeadInv md ops n listed →
      (∀ j oj, ops[j]? = some oj → j ≠ i → listed.getD j true = false → (∀ e ∈ oj.after, Region.binds md e = true → e.on ≠ i) → oi.apart ops oj = true) →
      i ∈ Region.ready md ops listed → YieldsIn P ops C oi v a → headQ P md ops C n L f (listed.setIfInBounds i true) (a.put oi.dst v) → headQ P md ops C n L (f + 1) listed a := by
  intro f
  induction f with
  | zero =>
    intro listed a inv _ hr hy H
    have hun := (mem_ready.1 hr).1
    refine ⟨List.ne_nil_of_mem hr, fun j hj => ?_⟩
    have hjn : j < n := Nat.lt_of_not_le fun h => tail_waits hs hc hn inv _ i rfl hin hun j h hj
    refine ⟨hjn, ?_⟩
    by_cases hji : j = i
    · subst hji; exact hy.qOp hi H
    · exact absurd (hdone _ _ H j (ready_mono hj hji)) (by omega)
  | succ f ih =>
    intro listed a inv hfree hr hy H
    have hun := (mem_ready.1 hr).1
    refine ⟨List.ne_nil_of_mem hr, fun j hj => ?_⟩
    have hjn : j < n := Nat.lt_of_not_le fun h => tail_waits hs hc hn inv _ i rfl hin hun j h hj
    refine ⟨hjn, ?_⟩
    by_cases hji : j = i
    · subst hji; exact hy.qOp hi H
    · obtain ⟨hjun, oj, hoj, hall⟩ := mem_ready.1 hj
      have hnot : ∀ e ∈ oj.after, Region.binds md e = true → e.on ≠ i := fun e he hb heq => by
        have h1 := hall e he hb
        rw [heq, getD_both hun] at h1
        cases h1
      have h2 := qOp_put hoj (hfree j oj hoj hji hjun hnot) (fun cs b => hsel i oi cs b hi) (fun cs b => hsel j oj cs b hoj) hy (H.2 j (ready_mono hj hji)).2
      refine qOp_mono (fun a' h3 => ih (listed.setIfInBounds j true) a' (inv.set hj hjn) (fun k ok hk hki hku hno => hfree k ok hk hki ?_ hno) (ready_mono hr (Ne.symm hji)) h3.1 (by rw [Array.setIfInBounds_comm _ _ hji]; exact h3.2)) h2
      by_cases hjk : j = k
      · subst hjk; exact hjun
      · rwa [getD_set_ne true hjk] at hku

theorem headQ_lex {n g : Nat} {Lq : Act → Prop} (hsel : Region.noSelect ops = true) (hs : Region.sinkB md ops n = true) (hc : Region.chainB md ops n = true) (hn : n < ops.size) :
    ∀ (l : List Oper) (k : Nat) (listed : Array Bool) (a : Act), (∀ j, j < l.length → l[j]? = ops[k + j]?) → k + l.length = n → HeadInv md ops n listed →
    Region.lexHead md ops g l.length k listed = true → wpQuiet P ops C Lq l a → headQ P md ops C n (fun listed' a' => Region.seqB md ops g n listed' = true ∧ Lq a') l.length listed a
  | [], k, listed, a, _, hk, _, hB, h => by
    have : k = n := by simpa using hk
    subst this
    exact ⟨by simpa [Region.lexHead] using hB, h⟩
  | o :: l, k, listed, a, hl, hk, inv, hB, h => by
    have h0 : ops[k]? = some o := by simpa using (hl 0 (by simp)).symm
    simp only [List.length_cons, Region.lexHead, Bool.and_eq_true] at hB
    obtain ⟨⟨hr, hf⟩, hB'⟩ := hB
    simp only [List.length_cons] at hk
    have hr' : k ∈ Region.ready md ops listed := by simpa using hr
    obtain ⟨v, hy, hK⟩ := yieldsIn_of_qOp (K := wpQuiet P ops C Lq l) h0 (by unfold qOp; simp only [h0]; exact h)
    exact headQ_first h0 (Region.noSelect_spec hsel) hs hc hn (by omega) (fun listed' a' hL => seqB_ready hL.1) l.length listed a inv (Region.free_spec h0 hf) hr' hy
      (headQ_lex hsel hs hc hn l (k + 1) _ _ (fun j hj => by have := hl (j + 1) (by simp; omega); simpa [Nat.add_assoc, Nat.add_comm 1 j] using this) (by omega) (inv.set hr' (by omega)) hB' hK)
end

theorem wpQuiet_mono' {P : Program} {ops : Array Oper} {C : World → Prop} {Q Q' : Act → Prop} (hq : ∀ a, Q a → Q' a) : ∀ (l : List Oper) (a : Act), wpQuiet P ops C Q l a → wpQuiet P ops C Q' l a
  | [], a, h => hq a h
  | o :: rest, a, h => by
    unfold wpQuiet at h ⊢
    split
    · rename_i hw
      rw [if_pos hw] at h
      exact Oper.quiet_mono (fun a h => wpQuiet_mono' hq rest a h) h
    · rename_i hw
      rw [if_neg hw] at h
      exact wpQuiet_mono' hq rest _ h

/-- the first n in one walk; what stands behind them in a row, in every world in which nothing that was there has turned -/
theorem wp_region_und_tail {P : Program} {id : Nat} {Q : Exit → Act → World → Prop} {a : Act} {w : World} {l : List Oper} (n : Nat) (hm : P.follows .mixedOrders = true) (hB : Region.lexTailB .any l.toArray n = true)
    (h : wpQuiet P l.toArray (fun w' => ∃ x : Und w, w' = und w x) (fun a' => ∀ X, Below w.heap.size w X → wpList P l.toArray Q (l.drop n) a' X) (l.take n) a) : (Code.region id l.toArray true).wp P Q a w := by
  simp only [Region.lexTailB, Bool.and_eq_true, decide_eq_true_eq] at hB
  obtain ⟨⟨⟨⟨hsel, hn⟩, hs⟩, hc⟩, hlex⟩ := hB
  have hn' : n < l.length := by simpa using hn
  have htl : (l.take n).length = n := by simp; omega
  have hdl : (l.drop n).length = l.toArray.size - n := by simp
  have inv0 : HeadInv .any l.toArray n (Array.replicate l.toArray.size false) :=
    ⟨by simp, fun j oj _ hl => (by rw [getD_replicate_false] at hl; cases hl), fun t _ ht => getD_in (by simpa using ht) (getD_replicate_false _ _)⟩
  have H := headQ_lex (md := .any) (g := l.toArray.size - n) hsel hs hc hn (l.take n) 0 _ a (fun j hj => by
    have hj' : j < n := by rw [htl] at hj; exact hj
    simp [hj']) (by simpa using htl) inv0 (by rw [htl]; exact hlex) (wpQuiet_mono' (Q' := fun a' => ∀ w', (∃ x : Und w, w' = und w x) → wpList P l.toArray Q (l.drop n) a' w') (fun a' hq w' ⟨x, hx⟩ => by subst hx; exact hq _ x.h) _ _ h)
  refine wp_region_any hm ?_
  have := headQ_any (Q := Q) (C := fun w' => ∃ x : Und w, w' = und w x) (g := l.toArray.size - n) (fun listed a' w' hw' hL => by
    have := wpAny_of_seq (md := .any) (Q' := Q) (l.drop n) n listed a' w' (fun j => by simp [List.getElem?_drop]) (by rw [hdl]; exact hL.1) (hL.2 w' hw')
    rwa [hdl] at this) _ _ _ _ ⟨⟨w.drew, (Below.refl _ _).drew⟩, rfl⟩ H
  rw [htl, show n + (l.toArray.size - n) = l.toArray.size by omega] at this
  exact this
end Go.Proofs.Ytaepohocabealaa

/-
  Contracts: the teller's steps (chapter 10). No conditions.
-/
namespace Go.Proofs.Ytaepohocabealaa
open Go.RowKit
attribute [local go_sem] und_cell World.cell?_alloc_some
theorem Try.infoNote : (Try.prog.info? 94).map (fun i => (i.zero, i.size, i.bytes)) = some (some (.agg #[.bool false, .int .i64 0, .int .i64 0, .string ⟨#[]⟩]), 4, 40) := by kernel_rfl
set_option maxRecDepth 100000 in
set_option maxHeartbeats 1000000 in
theorem send_c (t : Tell) (m : Note) (g : Nat) (fp : List Nat) (w : World) (h : (Mm.tptr rTell 31 g t fp).holds w) (hnd : (g :: fp).Nodup) (hm : Mm.I64 m.What.Who ∧ Mm.I64 m.What.No ∧ m.What.Text.size ≤ maxLen) :
    Calls Try.prog 89 #[.pointer (some ⟨g, 0, none⟩), .agg #[.bool m.Back, .int .i64 m.What.Who, .int .i64 m.What.No, .string m.What.Text]] w fun e w' => e = .returned (.tuple #[]) ∧ ∃ fp', Mm.Left (g :: fp) w w' (Mm.tptr rTell 31 g (Pl.tsend t m) fp') := by
  obtain ⟨A0, n0, c0, A1, n1, c1, A2, n2, c2, A3, n3, c3, A4, n4, c4, f0, f1, f2, f3, f4, rfl, hs⟩ := open_Tell (Mm.SepF.one _ w h hnd)
  have HS0 := Lib.hid hs
  have HS := Lib.hid (hs.alloc' rfl 94 [.bool m.Back, .int .i64 m.What.Who, .int .i64 m.What.No, .string m.What.Text])
  have HM := Lib.hid hm
  have hln : n2 = t.Line.length := by obtain ⟨A', n', c', hv, h1, _⟩ := (HS.out.sl 4 rfl).form; injection hv with _ h2 _; omega
  subst hln
  clear h hs hm hnd
  have d0 := HS.out.cell (k := 2) 1 rfl rfl
  have z0 := HS.out.frz (k := 2) 1 rfl
  have b0 := HS.out.cell (k := 0) 0 rfl rfl
  have b1 := HS.out.cell (k := 1) 0 rfl rfl
  have b2 := HS.out.cell (k := 2) 0 rfl rfl
  have b3 := HS.out.cell (k := 3) 0 rfl rfl
  obtain ⟨i0, hi, hz0, hz1, hz2⟩ := info_parts Try.infoNote
  by_cases hlt : t.Line.length < 30
  · have HF : Hid (Pl.tsend t m = { t with Line := t.Line ++ [m] }) := if_pos hlt
    have f1' : ((t.Line.length : Nat) : Int) < 30 := by omega
    go_enter Try.func89, Try.ntmps89
    obtain ⟨l0, ho2, hnext⟩ := HS.out.push0 4 rfl (W2 := ((w.alloc (.cells #[.bool m.Back, .int .i64 m.What.Who, .int .i64 m.What.No, .string m.What.Text] 94)).alloc (.cells #[.bool m.Back, .int .i64 m.What.Who, .int .i64 m.What.No, .string m.What.Text] 94)).drew) (x := m) (below_new (Below.refl _ _) _).drew (rNote_own_mk HM.out)
    have HNX := Lib.hid hnext
    have HO2 := Lib.hid ho2
    clear hnext ho2
    go_wp2
    go_region_law (first
      | (refine step_append_lies _ (by rfl) (.tmp 14) (.tmp 16) 28 (by rfl) 0 94 i0 _ 4 40 Try.underlying28 hi hz0 hz1 hz2 rfl (by omega) _ t.Line.length l0 (by rfl) HO2.out ⟨w.heap.size + 1, 0, none⟩ 1 1 [.bool m.Back, .int .i64 m.What.Who, .int .i64 m.What.No, .string m.What.Text] (by rfl) (by rfl) (World.news_of_block (B := w.heap.size + 1) (cs := #[.bool m.Back, .int .i64 m.What.Who, .int .i64 m.What.No, .string m.What.Text]) (t := 94) (fr := (0, 0)) (Mm.heap_new _ (Mm.sz1 _ _) _)) (by simp [Value.oneCell']) (by omega) (by unfold maxLen; omega) (by omega) (Nat.zero_le _) _ rfl ?_; intro gg cap w4 hown1 hgrow hat hlt'; obtain ⟨fp', hs4⟩ := HNX.out gg cap w4 hown1 hgrow hat; (have HS4 := Lib.hid hs4); (have d4 := HS4.out.cell (k := 2) 1 rfl rfl); (have z4 := HS4.out.frz (k := 2) 1 rfl); clear hs4 hown1 hgrow hat))
    all_goals
      go_wp2
      rw [HF.out]
      go_end0
      exact ⟨rfl, _, (shut_Tell (x := { t with Line := t.Line ++ [m] }) (HS4.out.setBlk 1 rfl _).tail).left⟩
  · have HF : Hid (Pl.tsend t m = t) := if_neg hlt
    have f1' : ¬ ((t.Line.length : Nat) : Int) < 30 := by omega
    go_enter Try.func89, Try.ntmps89
    go_wp2
    rw [HF.out]
    go_end0
    exact ⟨rfl, _, (shut_Tell HS.out.tail).left⟩
theorem Mm.int_i64 {w : World} {e : TypeId} {xs : List Int} {v : Value} {fp : List Nat} (h : Mm.SlOwn Mm.int e w xs v fp) {k : Nat} {a : Int} (ha : xs[k]? = some a) : Mm.I64 a := by
  obtain ⟨es, he, -, -⟩ := h
  have hk := (List.getElem?_eq_some_iff.1 ha).1
  have := he.2 k _ _ ha (List.getElem?_eq_getElem (show k < es.length by rw [he.1]; exact hk))
  exact this.2.1
set_option maxRecDepth 100000 in
set_option maxHeartbeats 1000000 in
theorem takeBack_c (t : Tell) (m : Note) (g : Nat) (fp : List Nat) (w : World) (h : (Mm.tptr rTell 31 g t fp).holds w) (hnd : (g :: fp).Nodup) (hm : Mm.I64 m.What.Who ∧ Mm.I64 m.What.No ∧ m.What.Text.size ≤ maxLen) (hw : Pl.TWf t) (hk : Pl.MsgOk t m) (hbk : m.Back = true) :
    Calls Try.prog 91 #[.pointer (some ⟨g, 0, none⟩), .agg #[.bool m.Back, .int .i64 m.What.Who, .int .i64 m.What.No, .string m.What.Text]] w fun e w' => e = .returned (.tuple #[]) ∧ ∃ fp', Mm.Left (g :: fp) w w' (Mm.tptr rTell 31 g (Pl.ttake t m) fp') := by
  have HF : Hid (Pl.ttake t m = Pl.tback t m.What) := if_pos hbk
  obtain ⟨bk, ⟨who, no, tx⟩⟩ := m
  dsimp only at hm hk hbk HF ⊢
  subst hbk
  have hk0 := hk.1
  have hk1 := hk.2.1
  have hh := hw.heard
  dsimp only at hk0 hk1
  obtain ⟨k, rfl⟩ : ∃ k : Nat, who = k := ⟨who.toNat, by omega⟩
  obtain ⟨A0, n0, c0, A1, n1, c1, A2, n2, c2, A3, n3, c3, A4, n4, c4, f0, f1, f2, f3, f4, rfl, hs⟩ := open_Tell (Mm.SepF.one _ w h hnd)
  obtain ⟨g1, rfl, -, rfl⟩ := Mm.sl_addr (hs.sl 2 rfl) (by omega)
  have hkl : k < t.Heard.length := by omega
  have ha : t.Heard[k]? = some t.Heard[k] := List.getElem?_eq_getElem hkl
  generalize t.Heard[k] = a at ha
  have HS := Lib.hid ((hs.alloc' rfl 94 [.bool true, .int .i64 k, .int .i64 no, .string tx]).alloc' (Mm.sz1 _ _) 52 [.int .i64 k, .int .i64 no, .string tx])
  have HI := Lib.hid (show Pl.iAt t.Heard (k : Int) = a from Pl.iAt_of (by simpa using ha))
  have HA := Lib.hid ha
  have HNO := Lib.hid hm.2.1
  have HAI := Lib.hid (Mm.int_i64 (hs.sl 2 rfl) ha)
  have hcap : t.Heard.length ≤ c1 ∧ c1 ≤ maxLen := by obtain ⟨A', n', c', hv, h1, h2, h3, _⟩ := (hs.sl 2 rfl).form; injection hv with _ h4 h5; omega
  have e1 := int_ocell (HS.out.sl 4 rfl) (HS.out.ndat (i := 4) rfl) ha
  have d1 := HS.out.cell (k := 1) 2 rfl rfl
  have b0 := HS.out.cell (k := 0) 1 rfl rfl
  have b1 := HS.out.cell (k := 1) 1 rfl rfl
  have b2 := HS.out.cell (k := 2) 1 rfl rfl
  have b3 := HS.out.cell (k := 3) 1 rfl rfl
  have b4 := HS.out.cell (k := 0) 0 rfl rfl
  have b5 := HS.out.cell (k := 1) 0 rfl rfl
  have b6 := HS.out.cell (k := 2) 0 rfl rfl
  have z1 := (HS.out.sl 4 rfl).frozen k
  clear h hs hm hnd ha hh hk hw
  have f1' : ((k : Nat) : Int) < (t.Heard.length : Nat) := by omega
  have f2' : (0 : Int) ≤ (k : Nat) := by omega
  have f3' : ((k : Nat) : Int).toNat = k := by omega
  unfold maxLen at hcap
  go_enter Try.func91, Try.ntmps91
  go_wp2
  refine wp_region_und_tail 18 (by kernel_rfl) (by kernel_rfl) ?_
  simp only [List.take_succ_cons, List.take_zero, List.drop_succ_cons, List.drop_zero]
  repeat (go_big_quiet_step ((first | fail)))
  refine wpQuiet_nil ?_
  intro X hX
  have HS2 := Lib.hid (HS.out.step hX)
  have e2 := int_ocell (HS2.out.sl 4 rfl) (HS2.out.ndat (i := 4) rfl) HA.out
  have z2 := (HS2.out.sl 4 rfl).frozen k
  have hnv : Mm.I64 (if a < no then no else a) := by split; exact HNO.out; exact HAI.out
  obtain ⟨v, hv⟩ : ∃ v, (if a < no then no else a) = v := ⟨_, rfl⟩
  rw [hv] at hnv ⊢
  have HV := Lib.hid hv
  clear hv
  have HS3 := Lib.hid (((HS2.out.put1 (k := k) 4 rfl rfl HA.out (x' := v) (u := .int .i64 v) (fun cs fx hh => by obtain ⟨rfl, _, rfl⟩ := hh; exact ⟨rfl, hnv, rfl⟩)).tail).tail)
  go_wp2
  rw [HF.out]
  exact bodyPost_ret (v := .tuple #[]) (by simp [results, Try.results91, go_sem]) rfl ⟨rfl, _, (shut_Tell (x := Pl.tback t ⟨k, no, tx⟩) (by have := HS3.out; unfold Pl.tback; dsimp only; rw [HI.out, HV.out]; exact this)).left⟩
theorem judge_c (a b : Int) (w : World) : Calls Try.prog 62 #[.int .i64 a, .int .i64 b] w fun e w' => e = .returned (.int .i64 (Pl.judge a b)) ∧ w = w' := by
  by_cases h1 : b = a
  · have HF : Hid (Pl.judge a b = 1) := if_pos h1
    have h2 : (b == a) = true := by simpa using h1
    go_enter Try.func62, Try.ntmps62
    go_wp2
    go_ret
    exact ⟨by rw [HF.out]; rfl, rfl⟩
  · have h3 : (b == a) = false := by simpa using h1
    by_cases h2 : b < a
    · have HF : Hid (Pl.judge a b = 2) := by show _ = _; unfold Pl.judge; rw [if_neg h1, if_pos h2]
      have HH := Lib.hid h1
      clear h1
      go_enter Try.func62, Try.ntmps62
      go_wp2
      go_ret
      exact ⟨by rw [HF.out]; rfl, rfl⟩
    · have HF : Hid (Pl.judge a b = 3) := by show _ = _; unfold Pl.judge; rw [if_neg h1, if_neg h2]
      have HH := Lib.hid h1
      clear h1
      go_enter Try.func62, Try.ntmps62
      go_wp2
      go_ret
      exact ⟨by rw [HF.out]; rfl, rfl⟩
theorem l10Judge_c (a b : Int) (w : World) : Calls Try.prog 63 #[.int .i64 a, .int .i64 b] w fun e w' => e = .returned (.int .i64 (Pl.judge a b)) ∧ w = w' := by
  by_cases h1 : b = a
  · have HF : Hid (Pl.judge a b = 1) := if_pos h1
    have h2 : (b == a) = true := by simpa using h1
    go_enter Try.func63, Try.ntmps63
    go_wp2
    go_ret
    exact ⟨by rw [HF.out]; rfl, rfl⟩
  · have h3 : (b == a) = false := by simpa using h1
    by_cases h2 : b < a
    · have HF : Hid (Pl.judge a b = 2) := by show _ = _; unfold Pl.judge; rw [if_neg h1, if_pos h2]
      have HH := Lib.hid h1
      clear h1
      go_enter Try.func63, Try.ntmps63
      go_wp2
      go_ret
      exact ⟨by rw [HF.out]; rfl, rfl⟩
    · have HF : Hid (Pl.judge a b = 3) := by show _ = _; unfold Pl.judge; rw [if_neg h1, if_neg h2]
      have HH := Lib.hid h1
      clear h1
      go_enter Try.func63, Try.ntmps63
      go_wp2
      go_ret
      exact ⟨by rw [HF.out]; rfl, rfl⟩
theorem Try.infoTold : (Try.prog.info? 52).map (fun i => (i.zero, i.size, i.bytes)) = some (some (.agg #[.int .i64 0, .int .i64 0, .string ⟨#[]⟩]), 3, 32) := by kernel_rfl
theorem Pl.judge_no {a b : Int} (h : ¬ b = a) : (Pl.judge a b == 1) = false := by
  unfold Pl.judge
  rw [if_neg h]
  split <;> rfl
theorem Pl.tlog_same (t : Tell) (x : Told) : (Pl.tlog t x).Texts = t.Texts ∧ (Pl.tlog t x).Heard = t.Heard ∧ (Pl.tlog t x).Line = t.Line ∧ (Pl.tlog t x).Next.length = t.Next.length := by
  unfold Pl.tlog
  split
  · exact ⟨rfl, rfl, rfl, List.length_set⟩
  · exact ⟨rfl, rfl, rfl, rfl⟩
set_option maxRecDepth 100000 in
set_option maxHeartbeats 2000000 in
theorem takeLog_c (t : Tell) (m : Note) (g : Nat) (fp : List Nat) (w : World) (h : (Mm.tptr rTell 31 g t fp).holds w) (hnd : (g :: fp).Nodup) (hm : Mm.I64 m.What.Who ∧ Mm.I64 m.What.No ∧ m.What.Text.size ≤ maxLen) (hw : Pl.TWf t) (hk : Pl.MsgOk t m) (hbk : m.Back = false) :
    Calls Try.prog 91 #[.pointer (some ⟨g, 0, none⟩), .agg #[.bool m.Back, .int .i64 m.What.Who, .int .i64 m.What.No, .string m.What.Text]] w fun e w' => e = .returned (.tuple #[]) ∧ ∃ fp', Mm.Left (g :: fp) w w' (Mm.tptr rTell 31 g (Pl.ttake t m) fp') := by
  have HW1 := Lib.hid (hw.tlog hk hbk)
  have hl80 := hw.log_len
  have HF : Hid (Pl.ttake t m = Pl.tsend (Pl.tlog t m.What) ⟨true, ⟨m.What.Who, Pl.iAt (Pl.tlog t m.What).Next m.What.Who, ByteArray.empty⟩⟩) := if_neg (by rw [hbk]; simp)
  obtain ⟨bk, ⟨who, no, tx⟩⟩ := m
  dsimp only at hm hk hbk HF HW1 ⊢
  subst hbk
  have hk0 := hk.1
  have hk1 := hk.2.1
  have hh := hw.next
  dsimp only at hk0 hk1
  obtain ⟨k, rfl⟩ : ∃ k : Nat, who = k := ⟨who.toNat, by omega⟩
  obtain ⟨A0, n0, c0, A1, n1, c1, A2, n2, c2, A3, n3, c3, A4, n4, c4, f0, f1, f2, f3, f4, rfl, hs⟩ := open_Tell (Mm.SepF.one _ w h hnd)
  obtain ⟨g4, rfl, -, rfl⟩ := Mm.sl_addr (hs.sl 5 rfl) (by omega)
  have hln3 : n3 = t.Log.length := by obtain ⟨A', n', c', hv, h1, _⟩ := (hs.sl 4 rfl).form; injection hv with _ h2 _; omega
  subst hln3
  have hkl : k < t.Next.length := by omega
  have ha : t.Next[k]? = some t.Next[k] := List.getElem?_eq_getElem hkl
  generalize t.Next[k] = a at ha
  have HS := Lib.hid ((hs.alloc' rfl 94 [.bool false, .int .i64 k, .int .i64 no, .string tx]).alloc' (Mm.sz1 _ _) 52 [.int .i64 k, .int .i64 no, .string tx])
  have HI := Lib.hid (show Pl.iAt t.Next (k : Int) = a from Pl.iAt_of (by simpa using ha))
  have HA := Lib.hid ha
  have HNO := Lib.hid hm
  have hcap : t.Next.length ≤ c4 ∧ c4 ≤ maxLen := by obtain ⟨A', n', c', hv, h1, h2, h3, _⟩ := (hs.sl 5 rfl).form; injection hv with _ h4 h5; omega
  have e1 := int_ocell (HS.out.sl 7 rfl) (HS.out.ndat (i := 7) rfl) ha
  have d4 := HS.out.cell (k := 4) 2 rfl rfl
  have b0 := HS.out.cell (k := 0) 1 rfl rfl
  have b1 := HS.out.cell (k := 1) 1 rfl rfl
  have b2 := HS.out.cell (k := 2) 1 rfl rfl
  have b3 := HS.out.cell (k := 3) 1 rfl rfl
  have b4 := HS.out.cell (k := 0) 0 rfl rfl
  have b5 := HS.out.cell (k := 1) 0 rfl rfl
  have b6 := HS.out.cell (k := 2) 0 rfl rfl
  have hab : 0 ≤ a ∧ a ≤ 20 := by
    have hkt : k < t.Texts.length := by omega
    have h1 := hw.nx k a _ ha (List.getElem?_eq_getElem hkt)
    have h2 := hw.texts k _ (List.getElem?_eq_getElem hkt)
    omega
  clear h hs hm hnd ha hh hk hw
  have f1' : ((k : Nat) : Int) < (t.Next.length : Nat) := by omega
  have f2' : (0 : Int) ≤ (k : Nat) := by omega
  have f3' : ((k : Nat) : Int).toNat = k := by omega
  unfold maxLen at hcap
  go_enter Try.func91, Try.ntmps91
  go_wp2
  refine wp_region_und (by kernel_rfl) (by kernel_rfl) ?_
  repeat (go_big_quiet_step ((first | (go_at_call 62; exact und_same _ (judge_c a no _)))))
  refine wpQuiet_nil ?_
  intro X hX
  have HS1 := Lib.hid (HS.out.step hX)
  go_upto_if 38 with fail
  have hys := Pl.tlog_same t ⟨k, no, tx⟩
  obtain ⟨y, hy⟩ : ∃ y, Pl.tlog t ⟨k, no, tx⟩ = y := ⟨_, rfl⟩
  rw [hy] at HW1 HF hys
  have HY := Lib.hid hy
  have HYS := Lib.hid hys
  clear hy hys
  go_cut [] (fun wx => ∃ (A3 : Option Addr) (n3 c3 : Nat) (f3' : List Nat), Mm.SepF (Mm.tptr rTell 31 g t (f0 ++ (f1 ++ (f2 ++ (f3 ++ f4))))).fp w wx [Mm.tblk (w.heap.size + 1) 52 [.int .i64 k, .int .i64 no, .string tx], Mm.tblk w.heap.size 94 [.bool false, .int .i64 k, .int .i64 no, .string tx], Mm.tblk g 31 [.slice A0 n0 c0, .slice A1 n1 c1, .slice A2 n2 c2, .slice A3 n3 c3, .slice (some ⟨g4, 0, none⟩) t.Next.length c4], Mm.tsl strs 40 t.Texts (.slice A0 n0 c0) f0, Mm.tsl Mm.int 3 t.Heard (.slice A1 n1 c1) f1, Mm.tsl rNote 94 t.Line (.slice A2 n2 c2) f2, Mm.tsl rTold 52 y.Log (.slice A3 n3 c3) f3', Mm.tsl Mm.int 3 y.Next (.slice (some ⟨g4, 0, none⟩) t.Next.length c4) f4])
  case first =>
    by_cases hna : no = a
    · subst hna
      have HT : Hid (y = { t with Log := t.Log ++ [⟨k, no, tx⟩], Next := t.Next.set k (no + 1) }) := by
        show _ = _
        rw [← HY.out]
        unfold Pl.tlog
        rw [if_pos (show (⟨k, no, tx⟩ : Told).No = _ from HI.out.symm)]
        dsimp only
        rw [HI.out]
        rfl
      have hjd : (Pl.judge no no == 1) = true := by unfold Pl.judge; rw [if_pos rfl]; rfl
      have d3 := HS1.out.cell (k := 3) 2 rfl rfl
      have z3 := HS1.out.frz (k := 3) 2 rfl
      have v0 := HS1.out.cell (k := 0) 0 rfl rfl
      have v1 := HS1.out.cell (k := 1) 0 rfl rfl
      have v2 := HS1.out.cell (k := 2) 0 rfl rfl
      obtain ⟨i0, hi, hz0, hz1, hz2⟩ := info_parts Try.infoTold
      obtain ⟨l0, ho, hnext⟩ := HS1.out.push0 6 rfl (W2 := (X.alloc (.cells #[.int .i64 k, .int .i64 no, .string tx] 52)).drew) (x := ⟨k, no, tx⟩) (below_new (Below.refl _ _) _).drew (rTold_own_mk HNO.out)
      have HNX := Lib.hid hnext
      have HO := Lib.hid ho
      clear hnext ho
      go_upto_region 5 with fail
      go_cut [] (fun wx => ∃ (gg cap : Nat) (fp' : List Nat), Mm.SepF (Mm.tptr rTell 31 g t (f0 ++ (f1 ++ (f2 ++ (f3 ++ f4))))).fp w wx [Mm.tblk (w.heap.size + 1) 52 [.int .i64 k, .int .i64 no, .string tx], Mm.tblk w.heap.size 94 [.bool false, .int .i64 k, .int .i64 no, .string tx], Mm.tblk g 31 [.slice A0 n0 c0, .slice A1 n1 c1, .slice A2 n2 c2, .slice (some ⟨gg, 0, none⟩) (t.Log.length + 1) cap, .slice (some ⟨g4, 0, none⟩) t.Next.length c4], Mm.tsl strs 40 t.Texts (.slice A0 n0 c0) f0, Mm.tsl Mm.int 3 t.Heard (.slice A1 n1 c1) f1, Mm.tsl rNote 94 t.Line (.slice A2 n2 c2) f2, Mm.tsl rTold 52 (t.Log ++ [⟨k, no, tx⟩]) (.slice (some ⟨gg, 0, none⟩) (t.Log.length + 1) cap) fp', Mm.tsl Mm.int 3 t.Next (.slice (some ⟨g4, 0, none⟩) t.Next.length c4) f4])
      case first =>
        go_region_law (first
        | (refine step_append_lies _ (by rfl) (.tmp 43) (.tmp 45) 29 (by rfl) 0 52 i0 _ 3 32 Try.underlying29 hi hz0 hz1 hz2 rfl (by omega) _ t.Log.length l0 (by rfl) HO.out ⟨X.heap.size, 0, none⟩ 1 1 [.int .i64 k, .int .i64 no, .string tx] (by rfl) (by rfl) (World.news_of_block (B := X.heap.size) (cs := #[.int .i64 k, .int .i64 no, .string tx]) (t := 52) (fr := (0, 0)) (Mm.heap_new X rfl _)) (by simp [Value.oneCell']) (by omega) (by unfold maxLen; omega) (by omega) (Nat.zero_le _) _ rfl ?_; intro gg cap w4 hown1 hgrow hat hlt9; obtain ⟨fp', hs4⟩ := HNX.out gg cap w4 hown1 hgrow hat; (have HS4 := Lib.hid hs4); (have r3 := hs4.cell (k := 3) 2 rfl rfl); (have y3 := hs4.frz (k := 3) 2 rfl); (have HS5 := Lib.hid (hs4.setBlk (k := 3) 2 rfl (.slice (some ⟨gg, 0, none⟩) (t.Log.length + 1) cap))); (have u4 := HS5.out.cell (k := 4) 2 rfl rfl); (have u0 := HS5.out.cell (k := 0) 0 rfl rfl); (have u7 := int_ocell (HS5.out.sl 7 rfl) (HS5.out.ndat (i := 7) rfl) HA.out); clear hs4 hown1 hgrow hat))
        all_goals
          go_wp2
          go_meet
          exact ⟨gg, cap, fp', HS5.out⟩
      case rest =>
        obtain ⟨gg, cap, fp', hc⟩ := hcut
        have HS5 := Lib.hid hc
        clear hc HO HNX
        have u4 := HS5.out.cell (k := 4) 2 rfl rfl
        have u0 := HS5.out.cell (k := 0) 0 rfl rfl
        have u7 := int_ocell (HS5.out.sl 7 rfl) (HS5.out.ndat (i := 7) rfl) HA.out
        go_wp2
        refine wp_region_und_tail 10 (by kernel_rfl) (by kernel_rfl) ?_
        simp only [List.take_succ_cons, List.take_zero, List.drop_succ_cons, List.drop_zero]
        repeat (go_big_quiet_step ((first | fail)))
        refine wpQuiet_nil ?_
        intro X hX
        have HS6 := Lib.hid (HS5.out.step hX)
        have e7 := int_ocell (HS6.out.sl 7 rfl) (HS6.out.ndat (i := 7) rfl) HA.out
        have z7 := (HS6.out.sl 7 rfl).frozen k
        have HS7 := Lib.hid (HS6.out.put1 (k := k) 7 rfl rfl HA.out (x' := no + 1) (u := .int .i64 (no + 1)) (fun cs fx hh => by obtain ⟨rfl, _, rfl⟩ := hh; exact ⟨rfl, by unfold Mm.I64; omega, rfl⟩))
        go_wp2
        go_meet
        exact ⟨_, _, cap, fp', by rw [HT.out]; exact HS7.out⟩
    · have hjd : (Pl.judge a no == 1) = false := Pl.judge_no hna
      have HT : Hid (y = t) := by
        show _ = _
        rw [← HY.out]
        unfold Pl.tlog
        exact if_neg (fun hh => hna (hh.trans HI.out))
      go_wp2
      go_meet
      exact ⟨A3, _, c3, f3, by rw [HT.out]; exact HS1.out⟩
  case rest =>
    obtain ⟨A3, n3, c3, f3', hc⟩ := hcut
    have HC := Lib.hid hc
    have hyn : k < y.Next.length := by have := HYS.out.2.2.2; omega
    have hb : y.Next[k]? = some y.Next[k] := List.getElem?_eq_getElem hyn
    generalize y.Next[k] = b at hb
    have HB := Lib.hid hb
    have HIB : Hid (Pl.iAt y.Next (k : Int) = b) := Pl.iAt_of (by simpa using hb)
    have HBI := Lib.hid (Mm.int_i64 (hc.sl 7 rfl) hb)
    have q0 := HC.out.cell (k := 0) 0 rfl rfl
    have q4 := HC.out.cell (k := 4) 2 rfl rfl
    have q7 := int_ocell (HC.out.sl 7 rfl) (HC.out.ndat (i := 7) rfl) hb
    clear hc hb e1 d4 b0 b1 b2 b3 b4 b5 b6
    go_wp2
    refine wp_region_und_tail 13 (by kernel_rfl) (by kernel_rfl) ?_
    simp only [List.take_succ_cons, List.take_zero, List.drop_succ_cons, List.drop_zero]
    repeat (go_big_quiet_step ((first | fail)))
    refine wpQuiet_nil ?_
    intro X hX
    have HC2 := Lib.hid (HC.out.step hX)
    have HC3 : Hid (Mm.SepF (Mm.tptr rTell 31 g t (f0 ++ (f1 ++ (f2 ++ (f3 ++ f4))))).fp w X [Mm.tptr rTell 31 g y (f0 ++ (f1 ++ (f2 ++ (f3' ++ f4))))]) := by
      have h1 := HC2.out.tail.tail
      rw [← HYS.out.1, ← HYS.out.2.1, ← HYS.out.2.2.1] at h1
      exact shut_Tell (x := y) h1
    have CS := send_c y ⟨true, ⟨k, b, ⟨#[]⟩⟩⟩ g (f0 ++ (f1 ++ (f2 ++ (f3' ++ f4)))) X (HC3.out.at_ 0 rfl) (HC3.out.ndat (i := 0) rfl) ⟨HNO.out.1, HBI.out, Nat.zero_le _⟩
    go_wp2_with (go_at_call 89; refine CS.mono ?_; rintro e w9 ⟨rfl, fp9, hL⟩; (have HC4 := Lib.hid (HC3.out.call 0 rfl hL)); clear hL)
    rw [HF.out, HIB.out]
    go_end0
    exact ⟨rfl, _, HC4.out.left⟩
end Go.Proofs.Ytaepohocabealaa

/-
  More on the list of things that a call may change: at its end, some of them, behind a call that hands back things. No program in sight. No conditions.
-/
namespace Go.Proofs.Ytaepohocabealaa
open Go.RowKit
namespace Mm
section
variable {F : List Nat} {w0 wr W : World} {ts : List Thing} {t a b c d x y : Thing}
theorem SepF.addEnd (h : SepF F w0 wr ts) (hb : Below wr.heap.size wr W) (ht : t.holds W) (hnd : t.fp.Nodup) (hnew : ∀ b, b ∈ t.fp → wr.heap.size ≤ b) : SepF F w0 W (ts ++ [t]) :=
  (h.add hb ht hnd hnew).conv (by simp only [List.flatMap_append, List.flatMap_cons, List.flatMap_nil, List.append_nil]; exact List.perm_append_comm) (fun u hu => by
    rcases List.mem_append.1 hu with hu | hu
    · exact (h.step hb).hold u hu
    · rw [List.mem_singleton.1 hu]; exact ht)
theorem SepF.allocEnd {g : Nat} (h : SepF F w0 wr ts) (hg : wr.heap.size = g) (T : TypeId) (cs : List Value) : SepF F w0 (wr.alloc (.cells cs.toArray T)) (ts ++ [tblk g T cs]) := by
  subst hg
  exact h.addEnd (below_new (Below.refl _ _) _) (Blk.new wr T cs) (by simp [tblk]) (by simp [tblk])
theorem SepF.swapEnd (h : SepF F w0 wr (ts ++ [x, y])) : SepF F w0 wr (ts ++ [y, x]) :=
  h.conv (by simp only [List.flatMap_append, List.flatMap_cons, List.flatMap_nil, List.append_nil]; exact List.Perm.append_left _ List.perm_append_comm) (fun u hu => h.hold u (by
    simp only [List.mem_append, List.mem_cons, List.not_mem_nil, or_false] at hu ⊢
    rcases hu with hu | hu | hu
    · exact .inl hu
    · exact .inr (.inr hu)
    · exact .inr (.inl hu)))
/-- some of the things, by their numbers -/
theorem SepF.sel (h : SepF F w0 wr ts) : ∀ (is : List Nat) {us : List Thing}, is.Nodup → us = is.filterMap (fun i => ts[i]?) → SepF F w0 wr us
  | [], us, _, hu => by subst hu; exact ⟨h.chg, by simp, by simp, by simp⟩
  | i :: is, us, hn, hu => by
    rw [List.nodup_cons] at hn
    have ih := SepF.sel h is (us := is.filterMap (fun i => ts[i]?)) hn.2 rfl
    cases hi : ts[i]? with
    | none => rw [List.filterMap_cons, hi] at hu; rw [hu]; exact ih
    | some t =>
      rw [List.filterMap_cons, hi] at hu
      rw [hu]
      refine ⟨h.chg, ?_, fun b hb => ?_, fun u hu => ?_⟩
      · rw [List.flatMap_cons, List.nodup_append]
        refine ⟨h.ndat hi, ih.nd, fun a ha b hb e => ?_⟩
        subst e
        obtain ⟨s, hs, hb⟩ := List.mem_flatMap.1 hb
        obtain ⟨j, hj, hs⟩ := List.mem_filterMap.1 hs
        exact h.apart hi hs (fun e => hn.1 (e ▸ hj)) a ha hb
      · rw [List.flatMap_cons] at hb
        rcases List.mem_append.1 hb with hb | hb
        · exact h.new b (SepF.mem hi hb)
        · exact ih.new b hb
      · rcases List.mem_cons.1 hu with rfl | hu
        · exact h.at_ i hi
        · exact ih.hold u hu
/-- behind a call that was handed thing i, and hands back things -/
theorem SepF.callAll {us : List Thing} (h : SepF F w0 wr ts) (i : Nat) (hi : ts[i]? = some t) (hS : SepF t.fp wr W us) : SepF F w0 W (ts.set i tnil ++ us) := by
  have h1 := h.upd (t' := ⟨us.flatMap (·.fp), fun w => ∀ u, u ∈ us → u.holds w, fun hh k u hu => u.keep (hh u hu) fun b hb => k b (List.mem_flatMap.2 ⟨u, hu, hb⟩), fun hh b hb => by
    obtain ⟨u, hu, hb⟩ := List.mem_flatMap.1 hb
    exact u.lt (hh u hu) b hb⟩) hi hS.chg hS.hold hS.nd hS.new
  have e1 := (flat_split (·.fp) hi ⟨us.flatMap (·.fp), fun w => ∀ u, u ∈ us → u.holds w, fun hh k u hu => u.keep (hh u hu) fun b hb => k b (List.mem_flatMap.2 ⟨u, hu, hb⟩), fun hh b hb => by
    obtain ⟨u, hu, hb⟩ := List.mem_flatMap.1 hb
    exact u.lt (hh u hu) b hb⟩).2
  have e2 := (flat_split (·.fp) hi tnil).2
  refine h1.conv ?_ (fun u hu => ?_)
  · rw [List.flatMap_append, e1, e2]
    simp only [tnil, List.nil_append, List.append_assoc]
    exact List.Perm.append_left _ List.perm_append_comm
  · rcases List.mem_append.1 hu with hu | hu
    · obtain ⟨k, hk⟩ := List.mem_iff_getElem?.1 hu
      by_cases hik : i = k
      · subst hik
        rw [List.getElem?_set_self (List.getElem?_eq_some_iff.1 hi).1] at hk
        injection hk with hk
        subst hk
        exact trivial
      · refine h1.hold u (List.mem_of_getElem? (i := k) ?_)
        rw [List.getElem?_set_ne hik] at hk ⊢
        exact hk
    · exact hS.hold u hu
theorem SepF.start (w : World) : SepF [] w w [] := ⟨Chg.refl _ _, by simp, by simp, by simp⟩
theorem SepF.bel0 (h : SepF [] w0 wr ts) : Below w0.heap.size w0 wr := Below.chg (Below.refl _ _) h.chg (Nat.le_refl _) (by simp)
end
theorem lt_keep {w w' : World} {b : Nat} (h : b < w.heap.size) (k : w'.heap[b]? = w.heap[b]?) : b < w'.heap.size := by
  rcases Nat.lt_or_ge b w'.heap.size with h3 | h3
  · exact h3
  · rw [Array.getElem?_eq_none h3, Array.getElem?_eq_getElem h] at k
    cases k
/-- data that several variables share -/
def tpool {α : Type} (R : Rep α) (fp : List Nat) (ss : List (α × List Value)) : Thing :=
  ⟨fp, fun w => (∀ b, b ∈ fp → b < w.heap.size) ∧ ∀ p, p ∈ ss → ∃ f, (∀ b, b ∈ f → b ∈ fp) ∧ R.own w p.1 p.2 f,
    fun h k => And.intro (fun b hb => lt_keep (h.1 b hb) (k b hb)) (fun p hp => (h.2 p hp).elim fun f hf => ⟨f, hf.1, R.okeep hf.2 fun b hb => k b (hf.1 b hb)⟩), fun h => h.1⟩
theorem SepF.pool {α : Type} {R : Rep α} {F : List Nat} {w0 wr : World} {ts : List Thing} {fp : List Nat} {ss : List (α × List Value)} (h : SepF F w0 wr ts) (i : Nat) (hi : ts[i]? = some (tpool R fp ss)) {x : α} {cs : List Value} (hx : (x, cs) ∈ ss) : R.at_ wr wr.heap.size x cs := by
  obtain ⟨h1, h2⟩ := h.at_ i hi
  obtain ⟨f, h3, h4⟩ := h2 _ hx
  exact R.weak h4 (R.olt h4)
theorem SepF.pool2 {α : Type} {R : Rep α} {F : List Nat} {w0 wr : World} {ts : List Thing} {fp fx fy : List Nat} {ss ss' : List (α × List Value)} {x y : α} {cx cy : List Value} (h : SepF F w0 wr (tpool R fp ss :: tow R x cx fx :: tow R y cy fy :: ts))
    (hs : ∀ p, p ∈ ss' → p ∈ ss ∨ p = (x, cx) ∨ p = (y, cy)) : SepF F w0 wr (tpool R (fp ++ (fx ++ fy)) ss' :: ts) := by
  have h0 := h.hold _ List.mem_cons_self
  have h1 : R.own wr x cx fx := h.hold (tow R x cx fx) (by simp)
  have h2 : R.own wr y cy fy := h.hold (tow R y cy fy) (by simp)
  refine h.conv (by simp [tpool, tow]) (List.forall_mem_cons.2 ⟨⟨fun b hb => ?_, fun p hp => ?_⟩, fun u hu => h.hold u (by simp [hu])⟩)
  · rcases List.mem_append.1 hb with hb | hb
    · exact h0.1 b hb
    · rcases List.mem_append.1 hb with hb | hb
      · exact R.olt h1 b hb
      · exact R.olt h2 b hb
  · rcases hs p hp with hp | rfl | rfl
    · obtain ⟨f, h3, h4⟩ := h0.2 p hp
      exact ⟨f, fun b hb => List.mem_append_left _ (h3 b hb), h4⟩
    · exact ⟨fx, fun b hb => List.mem_append_right _ (List.mem_append_left _ hb), h1⟩
    · exact ⟨fy, fun b hb => List.mem_append_right _ (List.mem_append_right _ hb), h2⟩
/-- the reading of an owned struct among the things -/
theorem SepF.rd {α : Type} {R : Rep α} {F : List Nat} {w0 wr : World} {ts : List Thing} {x : α} {cs : List Value} {fp : List Nat} (h : SepF F w0 wr ts) (i : Nat) (hi : ts[i]? = some (tow R x cs fp)) : R.at_ wr wr.heap.size x cs := by
  have h1 : R.own wr x cs fp := h.at_ i hi
  exact R.weak h1 (R.olt h1)
end Mm
end Go.Proofs.Ytaepohocabealaa
