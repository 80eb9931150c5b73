/-
  The translation's first words (what it is a cut of): facts that every row of this seat asks. They are proved over the list of the letters, for the kernel's own way from a long text to its letters takes memory by the square of its length.
-/
import Derived.Test.YtnanaldolnehiabDoorRows
import Derived.JoinedOf
import Derived.KernelRfl
namespace Go.Proofs.YtnanaldolnehiabDoor
open Go

def chars (l : List Nat) : List Char := l.map Char.ofNat
def headA : List Nat := [104, 97, 114, 110, 101, 115, 115]
def headB : List Nat := [54, 53, 101, 50, 101, 52, 100, 57, 55, 56, 57, 53, 53, 98, 48, 53, 57, 55, 52, 102, 98, 97, 97, 54, 97, 100, 100, 48, 54, 101, 101, 97, 52, 48, 50, 100, 98, 50, 56, 52, 52, 97, 56, 99, 98, 57, 101, 102, 98, 51, 100, 99, 57, 57, 102, 48, 100, 56, 52, 102, 56, 51, 49, 100]
def headC : List Nat := [99, 117, 116, 32, 97, 116, 32, 108, 111, 111, 112, 46, 101, 120, 97, 109, 112, 108, 101, 47, 103, 48, 48, 57, 50, 54, 47, 108, 97, 119, 115, 46, 70, 110, 69, 120, 97, 99, 116, 82, 101, 97, 100, 77, 111, 118, 101, 115, 32, 108, 111, 111, 112, 46, 101, 120, 97, 109, 112, 108, 101, 47, 103, 48, 48, 57, 50, 54, 47, 108, 97, 119, 115, 46, 70, 110, 69, 120, 97, 99, 116, 82, 101, 97, 100, 70, 97, 99, 116, 32, 108, 111, 111, 112, 46, 101, 120, 97, 109, 112, 108, 101, 47, 103, 48, 48, 57, 50, 54, 47, 108, 97, 119, 115, 46, 70, 110, 69, 120, 97, 99, 116, 82, 101, 97, 100, 80, 111, 115, 105, 116, 105, 111, 110, 32, 108, 111, 111, 112, 46, 101, 120, 97, 109, 112, 108, 101, 47, 103, 48, 48, 57, 50, 54, 47, 108, 97, 119, 115, 46, 70, 110, 69, 120, 97, 99, 116, 68, 101, 99, 105, 109, 97, 108, 32, 108, 111, 111, 112, 46, 101, 120, 97, 109, 112, 108, 101, 47, 103, 48, 48, 57, 50, 54, 47, 108, 97, 119, 115, 46, 70, 110, 69, 120, 97, 99, 116, 80, 114, 111, 98, 108, 101, 109, 84, 101, 120, 116, 32, 108, 111, 111, 112, 46, 101, 120, 97, 109, 112, 108, 101, 47, 103, 48, 48, 57, 50, 54, 47, 108, 97, 119, 115, 46, 70, 110, 69, 120, 97, 99, 116, 82, 101, 97, 100, 68, 101, 99, 105, 109, 97, 108, 32, 108, 111, 111, 112, 46, 101, 120, 97, 109, 112, 108, 101, 47, 103, 48, 48, 57, 50, 54, 47, 108, 97, 119, 115, 46, 70, 110, 69, 120, 97, 99, 116, 77, 111, 118, 101, 115, 84, 101, 120, 116, 32, 108, 111, 111, 112, 46, 101, 120, 97, 109, 112, 108, 101, 47, 103, 48, 48, 57, 50, 54, 47, 108, 97, 119, 115, 46, 70, 110, 69, 120, 97, 99, 116, 70, 97, 99, 116, 84, 101, 120, 116, 32, 108, 111, 111, 112, 46, 101, 120, 97, 109, 112, 108, 101, 47, 103, 48, 48, 57, 50, 54, 47, 108, 97, 119, 115, 46, 70, 110, 69, 120, 97, 99, 116, 82, 117, 108, 101, 115, 84, 101, 120, 116, 32, 108, 111, 111, 112, 46, 101, 120, 97, 109, 112, 108, 101, 47, 103, 48, 48, 57, 50, 54, 47, 108, 97, 119, 115, 46, 70, 110, 69, 120, 97, 99, 116, 80, 111, 115, 105, 116, 105, 111, 110, 84, 101, 120, 116]
def headCodes : List Nat := headA ++ (32 :: (headB ++ (32 :: headC)))
theorem head_of : Tryd.prog.initOrder = String.ofList (chars headCodes) := by
  unfold Tryd.prog Tryd.progTables
  dsimp only
  kernel_rfl
theorem head_list : Tryd.prog.initOrder.toList = chars headCodes := by rw [head_of, String.toList_ofList]
theorem words_cons (w r : List Char) (h : w.all (fun x => x != Char.ofNat 32) = true) : wordsSigns (w ++ Char.ofNat 32 :: r) = w :: wordsSigns r := by
  induction w with
  | nil => rfl
  | cons c w ih =>
    simp only [List.all_cons, Bool.and_eq_true, bne_iff_ne, ne_eq] at h
    rw [List.cons_append, wordsSigns.eq_3 _ _ (fun e => h.1 e), ih (by simpa using h.2)]
theorem head_words : wordsSigns Tryd.prog.initOrder.toList = chars headA :: chars headB :: wordsSigns (chars headC) := by
  rw [head_list]
  have e : chars headCodes = chars headA ++ Char.ofNat 32 :: (chars headB ++ Char.ofNat 32 :: chars headC) := by simp [chars, headCodes]
  rw [e, words_cons _ _ (by kernel_rfl), words_cons _ _ (by kernel_rfl)]
theorem behind_of {ws : List (List Char)} {a b : List Char} (h : (a == "harness".toList) = true) (h2 : isSumSigns b = true) : behindMainWord (a :: b :: ws) = ws := by
  simp only [behindMainWord, h, h2, Bool.true_or, Bool.true_and, if_true]
theorem head_behind : behindMainWord (wordsSigns Tryd.prog.initOrder.toList) = wordsSigns (chars headC) := by
  rw [head_words, behind_of (by kernel_rfl) (by kernel_rfl)]

def headRest : List Nat := [97, 116, 32, 108, 111, 111, 112, 46, 101, 120, 97, 109, 112, 108, 101, 47, 103, 48, 48, 57, 50, 54, 47, 108, 97, 119, 115, 46, 70, 110, 69, 120, 97, 99, 116, 82, 101, 97, 100, 77, 111, 118, 101, 115, 32, 108, 111, 111, 112, 46, 101, 120, 97, 109, 112, 108, 101, 47, 103, 48, 48, 57, 50, 54, 47, 108, 97, 119, 115, 46, 70, 110, 69, 120, 97, 99, 116, 82, 101, 97, 100, 70, 97, 99, 116, 32, 108, 111, 111, 112, 46, 101, 120, 97, 109, 112, 108, 101, 47, 103, 48, 48, 57, 50, 54, 47, 108, 97, 119, 115, 46, 70, 110, 69, 120, 97, 99, 116, 82, 101, 97, 100, 80, 111, 115, 105, 116, 105, 111, 110, 32, 108, 111, 111, 112, 46, 101, 120, 97, 109, 112, 108, 101, 47, 103, 48, 48, 57, 50, 54, 47, 108, 97, 119, 115, 46, 70, 110, 69, 120, 97, 99, 116, 68, 101, 99, 105, 109, 97, 108, 32, 108, 111, 111, 112, 46, 101, 120, 97, 109, 112, 108, 101, 47, 103, 48, 48, 57, 50, 54, 47, 108, 97, 119, 115, 46, 70, 110, 69, 120, 97, 99, 116, 80, 114, 111, 98, 108, 101, 109, 84, 101, 120, 116, 32, 108, 111, 111, 112, 46, 101, 120, 97, 109, 112, 108, 101, 47, 103, 48, 48, 57, 50, 54, 47, 108, 97, 119, 115, 46, 70, 110, 69, 120, 97, 99, 116, 82, 101, 97, 100, 68, 101, 99, 105, 109, 97, 108, 32, 108, 111, 111, 112, 46, 101, 120, 97, 109, 112, 108, 101, 47, 103, 48, 48, 57, 50, 54, 47, 108, 97, 119, 115, 46, 70, 110, 69, 120, 97, 99, 116, 77, 111, 118, 101, 115, 84, 101, 120, 116, 32, 108, 111, 111, 112, 46, 101, 120, 97, 109, 112, 108, 101, 47, 103, 48, 48, 57, 50, 54, 47, 108, 97, 119, 115, 46, 70, 110, 69, 120, 97, 99, 116, 70, 97, 99, 116, 84, 101, 120, 116, 32, 108, 111, 111, 112, 46, 101, 120, 97, 109, 112, 108, 101, 47, 103, 48, 48, 57, 50, 54, 47, 108, 97, 119, 115, 46, 70, 110, 69, 120, 97, 99, 116, 82, 117, 108, 101, 115, 84, 101, 120, 116, 32, 108, 111, 111, 112, 46, 101, 120, 97, 109, 112, 108, 101, 47, 103, 48, 48, 57, 50, 54, 47, 108, 97, 119, 115, 46, 70, 110, 69, 120, 97, 99, 116, 80, 111, 115, 105, 116, 105, 111, 110, 84, 101, 120, 116]
theorem head_cut : behindMainWord (wordsSigns Tryd.prog.initOrder.toList) = "cut".toList :: wordsSigns (chars headRest) := by
  rw [head_behind]
  have e : chars headC = "cut".toList ++ Char.ofNat 32 :: chars headRest := by kernel_rfl
  rw [e, words_cons _ _ (by kernel_rfl)]
theorem make_of {P : Program} {ws : List (List Char)} (h : behindMainWord (wordsSigns P.initOrder.toList) = "cut".toList :: ws) : (P.make == some .cut) = true := by
  unfold Program.make
  rw [h]
  simp
theorem strip_of (ws : List (List Char)) : stripLifts liftWords ("cut".toList :: ws) = ([], "cut".toList :: ws) := by
  simp [stripLifts, liftWords]
theorem lifts_of {P : Program} {ws : List (List Char)} (h : behindMainWord (wordsSigns P.initOrder.toList) = "cut".toList :: ws) : P.liftsFinal = false := by
  unfold Program.liftsFinal Program.headLifts
  rw [h, strip_of]
  simp
theorem enter_of {P : Program} {ws : List (List Char)} (h : behindMainWord (wordsSigns P.initOrder.toList) = "cut".toList :: ws) (h1 : P.laysLater = false) (h2 : P.bearsReflect = false) (h3 : P.doorFits [] = true) : P.mayEnter = true := by
  unfold Program.mayEnter
  rw [h]
  dsimp only
  rw [strip_of]
  simp [h1, h2, h3]
theorem fact_make : (Tryd.prog.make == some .cut) = true := make_of head_cut
theorem fact_lifts : Tryd.prog.liftsFinal = false := lifts_of head_cut
theorem fact_enter : Tryd.prog.mayEnter = true := enter_of head_cut (by kernel_rfl) (by kernel_rfl) (by kernel_rfl)
end Go.Proofs.YtnanaldolnehiabDoor
