/-
  The program's types as plain structures; what a marking makes of them. No program in sight. No conditions.
-/
namespace Go.Proofs.Ytaepohocabealaa
structure Sample where
  At : Int
  Value : Int
structure Window where
  From : Int
  First : Int
  Last : Int
  Count : Int
  Rise : Int
structure Told where
  Who : Int
  No : Int
  Text : ByteArray
structure Note where
  Back : Bool
  What : Told
structure TellStep where
  Kind : Int
  K : Int
  Text : ByteArray
structure SnapStep where
  Kind : Int
  From : Int
  To : Int
  Many : Int
structure Say where
  Name : ByteArray
  At : Int
  Value : Int
structure Label where
  Name : ByteArray
  Value : ByteArray
structure Entry where
  Epoch : Int
  Text : ByteArray
structure Start where
  Epoch : Int
  At : Int
structure Letter where
  From : Int
  To : Int
  Term : Int
  Ask : Bool
  Age : Int
structure VoteStep where
  Kind : Int
  K : Int
structure ReplStep where
  Kind : Int
  Node : Int
  Text : ByteArray
structure HouseStep where
  Kind : Int
  Part : Int
  What : Say
structure Token where
  At : Int
  Owner : Int
structure Row where
  Name : ByteArray
  Samples : (List Sample)
structure Head where
  Rows : (List Row)
  Offset : Int
structure Item where
  Labels : (List Label)
  Value : Int
structure Total where
  Labels : (List Label)
  Sum : Int
  Count : Int
  Least : Int
  Most : Int
structure Sketch where
  Rows : (List (List Int))
  Total : Int
structure Heavy where
  Names : (List ByteArray)
  Counts : (List Int)
  Gone : Int
  Total : Int
structure Piece where
  From : Int
  Bytes : ByteArray
  Index : (List Int)
structure Log where
  Pieces : (List Piece)
  Begin : Int
structure House where
  Logs : (List Log)
  Heads : (List Head)
  Kept : (List Head)
structure Tell where
  Texts : (List (List ByteArray))
  Heard : (List Int)
  Line : (List Note)
  Log : (List Told)
  Next : (List Int)
structure Bank where
  Coins : (List Int)
  Ways : (List (List Int))
  Kept : (List Int)
  Heard : (List (List Bool))
  Found : (List (List Int))
structure Node where
  Term : Int
  Voted : Int
  Age : Int
  Heard : (List Int)
  Role : Int
structure Poll where
  Nodes : (List Node)
  Letters : (List Letter)
  Leaders : (List (List Int))
structure Repl where
  Logs : (List (List Entry))
  Down : (List Bool)
  Leader : Int
  Epoch : Int
  InSync : (List Int)
  Certain : (List Entry)
namespace Pl
/-- the digits of k, ahead of acc -/
def digs : Nat → Nat → List UInt8 → List UInt8
  | 0, _, acc => acc
  | f + 1, k, acc => if k = 0 then acc else digs f (k / 10) (UInt8.ofNat (48 + k % 10) :: acc)
end Pl
namespace Pl
def sz0 {α : Type} (_ : α) : Int := 0
def szStr (s : ByteArray) : Int := (s.size : Int)
def sumI {α : Type} (f : α → Int) : List α → Int
  | [] => 0
  | x :: t => f x + sumI f t
def szl {α : Type} (f : α → Int) (l : List α) : Int := (l.length : Int) + sumI f l
theorem sumI_nn {α : Type} {f : α → Int} (h : ∀ x, 0 ≤ f x) : ∀ l : List α, 0 ≤ sumI f l
  | [] => by simp [sumI]
  | x :: t => by have := sumI_nn h t; have := h x; show 0 ≤ f x + sumI f t; omega
theorem sumI_app {α : Type} {f : α → Int} : ∀ l m : List α, sumI f (l ++ m) = sumI f l + sumI f m
  | [], m => by simp [sumI]
  | x :: t, m => by show f x + sumI f (t ++ m) = f x + sumI f t + sumI f m; rw [sumI_app t m]; omega
theorem sumI_succ {α : Type} {f : α → Int} {l : List α} {i : Nat} {x : α} (h : l[i]? = some x) : sumI f (l.take (i + 1)) = sumI f (l.take i) + f x := by
  have hi : i < l.length := (List.getElem?_eq_some_iff.1 h).1
  rw [List.getElem?_eq_getElem hi] at h
  injection h with h
  rw [List.take_succ_eq_append_getElem hi, sumI_app, h]
  simp [sumI]
theorem sumI_take {α : Type} {f : α → Int} (h : ∀ x, 0 ≤ f x) (l : List α) (i : Nat) : sumI f (l.take i) ≤ sumI f l := by
  have e : sumI f l = sumI f (l.take i) + sumI f (l.drop i) := by rw [← sumI_app, List.take_append_drop]
  have := sumI_nn h (l.drop i)
  omega
theorem sumI_zero {α : Type} : ∀ l : List α, sumI (fun x => sz0 x) l = 0
  | [] => rfl
  | x :: t => by show 0 + _ = _; rw [show sumI (fun x => sz0 x) t = 0 from sumI_zero t]; rfl
theorem szl_zero {α : Type} (l : List α) : szl (sz0 : α → Int) l = (l.length : Int) := by unfold szl; rw [show sumI (sz0 : α → Int) l = 0 from sumI_zero l]; omega
theorem sz0_nn {α : Type} (x : α) : 0 ≤ sz0 x := Int.le_refl _
theorem szStr_nn (s : ByteArray) : 0 ≤ szStr s := by unfold szStr; omega
theorem szl_nn {α : Type} {f : α → Int} (h : ∀ x, 0 ≤ f x) (l : List α) : 0 ≤ szl f l := by have := sumI_nn h l; unfold szl; omega
theorem szl_len {α : Type} {f : α → Int} (h : ∀ x, 0 ≤ f x) (l : List α) : (l.length : Int) ≤ szl f l := by have := sumI_nn h l; unfold szl; omega
theorem sumI_mem {α : Type} {f : α → Int} (h : ∀ x, 0 ≤ f x) : ∀ {l : List α} {x : α}, x ∈ l → f x ≤ sumI f l
  | [], _, hx => by cases hx
  | y :: t, x, hx => by
    show _ ≤ f y + sumI f t
    have h1 := h y
    have h2 := sumI_nn h t
    rcases List.mem_cons.1 hx with rfl | hx
    · omega
    · have := sumI_mem h hx; omega
theorem szl_mem {α : Type} {f : α → Int} (h : ∀ x, 0 ≤ f x) {l : List α} {x : α} (hx : x ∈ l) : f x ≤ szl f l := by have := sumI_mem h hx; unfold szl; omega
def szRet (left k : Int) : Int := if left - k < 0 then -1 else left - k
theorem szRet_lt {left k : Int} (h : left - k < 0) : szRet left k = -1 := if_pos h
theorem szRet_ge {left k : Int} (h : ¬ left - k < 0) : szRet left k = left - k := if_neg h
def szTold (x : Told) : Int := Pl.szStr x.Text
theorem szTold_nn (x : Told) : 0 ≤ szTold x := by
  have h0 := szStr_nn x.Text
  unfold szTold; omega
def szNote (x : Note) : Int := Pl.szTold x.What
theorem szNote_nn (x : Note) : 0 ≤ szNote x := by
  have h0 := szTold_nn x.What
  unfold szNote; omega
def szTellStep (x : TellStep) : Int := Pl.szStr x.Text
theorem szTellStep_nn (x : TellStep) : 0 ≤ szTellStep x := by
  have h0 := szStr_nn x.Text
  unfold szTellStep; omega
def szSay (x : Say) : Int := Pl.szStr x.Name
theorem szSay_nn (x : Say) : 0 ≤ szSay x := by
  have h0 := szStr_nn x.Name
  unfold szSay; omega
def szLabel (x : Label) : Int := Pl.szStr x.Name + Pl.szStr x.Value
theorem szLabel_nn (x : Label) : 0 ≤ szLabel x := by
  have h0 := szStr_nn x.Name
  have h1 := szStr_nn x.Value
  unfold szLabel; omega
def szEntry (x : Entry) : Int := Pl.szStr x.Text
theorem szEntry_nn (x : Entry) : 0 ≤ szEntry x := by
  have h0 := szStr_nn x.Text
  unfold szEntry; omega
def szReplStep (x : ReplStep) : Int := Pl.szStr x.Text
theorem szReplStep_nn (x : ReplStep) : 0 ≤ szReplStep x := by
  have h0 := szStr_nn x.Text
  unfold szReplStep; omega
def szHouseStep (x : HouseStep) : Int := Pl.szSay x.What
theorem szHouseStep_nn (x : HouseStep) : 0 ≤ szHouseStep x := by
  have h0 := szSay_nn x.What
  unfold szHouseStep; omega
def szRow (x : Row) : Int := Pl.szStr x.Name + (Pl.szl Pl.sz0) x.Samples
theorem szRow_nn (x : Row) : 0 ≤ szRow x := by
  have h0 := szStr_nn x.Name
  have h1 := szl_nn (f := sz0) (sz0_nn) x.Samples
  unfold szRow; omega
def szHead (x : Head) : Int := (Pl.szl Pl.szRow) x.Rows
theorem szHead_nn (x : Head) : 0 ≤ szHead x := by
  have h0 := szl_nn (f := szRow) (szRow_nn) x.Rows
  unfold szHead; omega
def szItem (x : Item) : Int := (Pl.szl Pl.szLabel) x.Labels
theorem szItem_nn (x : Item) : 0 ≤ szItem x := by
  have h0 := szl_nn (f := szLabel) (szLabel_nn) x.Labels
  unfold szItem; omega
def szTotal (x : Total) : Int := (Pl.szl Pl.szLabel) x.Labels
theorem szTotal_nn (x : Total) : 0 ≤ szTotal x := by
  have h0 := szl_nn (f := szLabel) (szLabel_nn) x.Labels
  unfold szTotal; omega
def szSketch (x : Sketch) : Int := (Pl.szl (Pl.szl Pl.sz0)) x.Rows
theorem szSketch_nn (x : Sketch) : 0 ≤ szSketch x := by
  have h0 := szl_nn (f := (szl sz0)) (szl_nn (f := sz0) (sz0_nn)) x.Rows
  unfold szSketch; omega
def szHeavy (x : Heavy) : Int := (Pl.szl Pl.szStr) x.Names + (Pl.szl Pl.sz0) x.Counts
theorem szHeavy_nn (x : Heavy) : 0 ≤ szHeavy x := by
  have h0 := szl_nn (f := szStr) (szStr_nn) x.Names
  have h1 := szl_nn (f := sz0) (sz0_nn) x.Counts
  unfold szHeavy; omega
def szPiece (x : Piece) : Int := Pl.szStr x.Bytes + (Pl.szl Pl.sz0) x.Index
theorem szPiece_nn (x : Piece) : 0 ≤ szPiece x := by
  have h0 := szStr_nn x.Bytes
  have h1 := szl_nn (f := sz0) (sz0_nn) x.Index
  unfold szPiece; omega
def szLog (x : Log) : Int := (Pl.szl Pl.szPiece) x.Pieces
theorem szLog_nn (x : Log) : 0 ≤ szLog x := by
  have h0 := szl_nn (f := szPiece) (szPiece_nn) x.Pieces
  unfold szLog; omega
def szHouse (x : House) : Int := (Pl.szl Pl.szLog) x.Logs + (Pl.szl Pl.szHead) x.Heads + (Pl.szl Pl.szHead) x.Kept
theorem szHouse_nn (x : House) : 0 ≤ szHouse x := by
  have h0 := szl_nn (f := szLog) (szLog_nn) x.Logs
  have h1 := szl_nn (f := szHead) (szHead_nn) x.Heads
  have h2 := szl_nn (f := szHead) (szHead_nn) x.Kept
  unfold szHouse; omega
def szTell (x : Tell) : Int := (Pl.szl (Pl.szl Pl.szStr)) x.Texts + (Pl.szl Pl.sz0) x.Heard + (Pl.szl Pl.szNote) x.Line + (Pl.szl Pl.szTold) x.Log + (Pl.szl Pl.sz0) x.Next
theorem szTell_nn (x : Tell) : 0 ≤ szTell x := by
  have h0 := szl_nn (f := (szl szStr)) (szl_nn (f := szStr) (szStr_nn)) x.Texts
  have h1 := szl_nn (f := sz0) (sz0_nn) x.Heard
  have h2 := szl_nn (f := szNote) (szNote_nn) x.Line
  have h3 := szl_nn (f := szTold) (szTold_nn) x.Log
  have h4 := szl_nn (f := sz0) (sz0_nn) x.Next
  unfold szTell; omega
def szBank (x : Bank) : Int := (Pl.szl Pl.sz0) x.Coins + (Pl.szl (Pl.szl Pl.sz0)) x.Ways + (Pl.szl Pl.sz0) x.Kept + (Pl.szl (Pl.szl Pl.sz0)) x.Heard + (Pl.szl (Pl.szl Pl.sz0)) x.Found
theorem szBank_nn (x : Bank) : 0 ≤ szBank x := by
  have h0 := szl_nn (f := sz0) (sz0_nn) x.Coins
  have h1 := szl_nn (f := (szl sz0)) (szl_nn (f := sz0) (sz0_nn)) x.Ways
  have h2 := szl_nn (f := sz0) (sz0_nn) x.Kept
  have h3 := szl_nn (f := (szl sz0)) (szl_nn (f := sz0) (sz0_nn)) x.Heard
  have h4 := szl_nn (f := (szl sz0)) (szl_nn (f := sz0) (sz0_nn)) x.Found
  unfold szBank; omega
def szNode (x : Node) : Int := (Pl.szl Pl.sz0) x.Heard
theorem szNode_nn (x : Node) : 0 ≤ szNode x := by
  have h0 := szl_nn (f := sz0) (sz0_nn) x.Heard
  unfold szNode; omega
def szPoll (x : Poll) : Int := (Pl.szl Pl.szNode) x.Nodes + (Pl.szl Pl.sz0) x.Letters + (Pl.szl (Pl.szl Pl.sz0)) x.Leaders
theorem szPoll_nn (x : Poll) : 0 ≤ szPoll x := by
  have h0 := szl_nn (f := szNode) (szNode_nn) x.Nodes
  have h1 := szl_nn (f := sz0) (sz0_nn) x.Letters
  have h2 := szl_nn (f := (szl sz0)) (szl_nn (f := sz0) (sz0_nn)) x.Leaders
  unfold szPoll; omega
def szRepl (x : Repl) : Int := (Pl.szl (Pl.szl Pl.szEntry)) x.Logs + (Pl.szl Pl.sz0) x.Down + (Pl.szl Pl.sz0) x.InSync + (Pl.szl Pl.szEntry) x.Certain
theorem szRepl_nn (x : Repl) : 0 ≤ szRepl x := by
  have h0 := szl_nn (f := (szl szEntry)) (szl_nn (f := szEntry) (szEntry_nn)) x.Logs
  have h1 := szl_nn (f := sz0) (sz0_nn) x.Down
  have h2 := szl_nn (f := sz0) (sz0_nn) x.InSync
  have h3 := szl_nn (f := szEntry) (szEntry_nn) x.Certain
  unfold szRepl; omega
end Pl
end Go.Proofs.Ytaepohocabealaa
