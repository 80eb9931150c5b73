/-
  The translation's first words (what it is a cut of): facts that every row of this seat asks. They are proved over the list of the letters, for the kernel's own way from a long text to its letters takes memory by the square of its length.
-/
import Derived.Test.YtnanaldolnehiaaRows
import Derived.JoinedOf
import Derived.KernelRfl
namespace Go.Proofs.Ytnanaldolnehiaa
open Go

def chars (l : List Nat) : List Char := l.map Char.ofNat
def headA : List Nat := [104, 97, 114, 110, 101, 115, 115]
def headB : List Nat := [55, 53, 54, 51, 57, 54, 50, 50, 49, 50, 100, 97, 99, 97, 52, 100, 101, 51, 99, 57, 49, 100, 50, 99, 99, 101, 52, 50, 55, 55, 97, 53, 101, 54, 100, 102, 97, 51, 55, 52, 99, 98, 102, 48, 56, 55, 52, 98, 54, 101, 49, 102, 54, 55, 54, 55, 56, 52, 50, 100, 50, 50, 101, 53]
def headC : List Nat := [99, 117, 116, 32, 97, 116, 32, 108, 111, 111, 112, 46, 101, 120, 97, 109, 112, 108, 101, 47, 103, 48, 48, 57, 50, 54, 47, 108, 97, 119, 115, 46, 70, 110, 69, 120, 97, 99, 116, 71, 105, 118, 101, 80, 111, 115, 105, 116, 105, 111, 110, 32, 108, 111, 111, 112, 46, 101, 120, 97, 109, 112, 108, 101, 47, 103, 48, 48, 57, 50, 54, 47, 108, 97, 119, 115, 46, 70, 110, 69, 120, 97, 99, 116, 83, 101, 116, 116, 108, 101, 80, 111, 115, 105, 116, 105, 111, 110, 32, 108, 111, 111, 112, 46, 101, 120, 97, 109, 112, 108, 101, 47, 103, 48, 48, 57, 50, 54, 47, 108, 97, 119, 115, 46, 70, 110, 69, 120, 97, 99, 116, 83, 97, 109, 101, 82, 101, 115, 117, 108, 116, 115, 32, 108, 111, 111, 112, 46, 101, 120, 97, 109, 112, 108, 101, 47, 103, 48, 48, 57, 50, 54, 47, 108, 97, 119, 115, 46, 70, 110, 69, 120, 97, 99, 116, 83, 97, 109, 101, 71, 97, 109, 101, 32, 108, 111, 111, 112, 46, 101, 120, 97, 109, 112, 108, 101, 47, 103, 48, 48, 57, 50, 54, 47, 108, 97, 119, 115, 46, 70, 110, 69, 120, 97, 99, 116, 83, 112, 108, 105, 116, 87, 111, 114, 100, 115, 32, 108, 111, 111, 112, 46, 101, 120, 97, 109, 112, 108, 101, 47, 103, 48, 48, 57, 50, 54, 47, 108, 97, 119, 115, 46, 70, 110, 69, 120, 97, 99, 116, 71, 101, 116, 78, 117, 109, 98, 101, 114, 32, 108, 111, 111, 112, 46, 101, 120, 97, 109, 112, 108, 101, 47, 103, 48, 48, 57, 50, 54, 47, 108, 97, 119, 115, 46, 70, 110, 69, 120, 97, 99, 116, 80, 97, 99, 107, 76, 105, 115, 116, 32, 108, 111, 111, 112, 46, 101, 120, 97, 109, 112, 108, 101, 47, 103, 48, 48, 57, 50, 54, 47, 108, 97, 119, 115, 46, 70, 110, 69, 120, 97, 99, 116, 83, 97, 109, 101, 70, 97, 99, 116, 115, 32, 108, 111, 111, 112, 46, 101, 120, 97, 109, 112, 108, 101, 47, 103, 48, 48, 57, 50, 54, 47, 108, 97, 119, 115, 46, 70, 110, 69, 120, 97, 99, 116, 70, 114, 111, 109, 82, 117, 110, 115, 32, 108, 111, 111, 112, 46, 101, 120, 97, 109, 112, 108, 101, 47, 103, 48, 48, 57, 50, 54, 47, 108, 97, 119, 115, 46, 70, 110, 69, 120, 97, 99, 116, 82, 117, 110, 115, 79, 102, 32, 108, 111, 111, 112, 46, 101, 120, 97, 109, 112, 108, 101, 47, 103, 48, 48, 57, 50, 54, 47, 108, 97, 119, 115, 46, 70, 110, 67, 97, 112, 116, 117, 114, 101, 78, 97, 109, 101, 115, 32, 108, 111, 111, 112, 46, 101, 120, 97, 109, 112, 108, 101, 47, 103, 48, 48, 57, 50, 54, 47, 108, 97, 119, 115, 46, 70, 110, 83, 116, 97, 110, 100, 97, 114, 100, 32, 108, 111, 111, 112, 46, 101, 120, 97, 109, 112, 108, 101, 47, 103, 48, 48, 57, 50, 54, 47, 108, 97, 119, 115, 46, 70, 110, 80, 105, 116, 115, 32, 108, 111, 111, 112, 46, 101, 120, 97, 109, 112, 108, 101, 47, 103, 48, 48, 57, 50, 54, 47, 108, 97, 119, 115, 46, 70, 110, 80, 111, 115, 105, 116, 105, 111, 110, 79, 114, 100, 101, 114, 32, 108, 111, 111, 112, 46, 101, 120, 97, 109, 112, 108, 101, 47, 103, 48, 48, 57, 50, 54, 47, 108, 97, 119, 115, 46, 70, 110, 83, 101, 116, 116, 108, 101, 100]
def headCodes : List Nat := headA ++ (32 :: (headB ++ (32 :: headC)))
theorem head_of : Try.prog.initOrder = String.ofList (chars headCodes) := by
  unfold Try.prog Try.progTables
  dsimp only
  kernel_rfl
theorem head_list : Try.prog.initOrder.toList = chars headCodes := by rw [head_of, String.toList_ofList]
theorem words_cons (w r : List Char) (h : w.all (fun x => x != Char.ofNat 32) = true) : wordsSigns (w ++ Char.ofNat 32 :: r) = w :: wordsSigns r := by
  induction w with
  | nil => rfl
  | cons c w ih =>
    simp only [List.all_cons, Bool.and_eq_true, bne_iff_ne, ne_eq] at h
    rw [List.cons_append, wordsSigns.eq_3 _ _ (fun e => h.1 e), ih (by simpa using h.2)]
theorem head_words : wordsSigns Try.prog.initOrder.toList = chars headA :: chars headB :: wordsSigns (chars headC) := by
  rw [head_list]
  have e : chars headCodes = chars headA ++ Char.ofNat 32 :: (chars headB ++ Char.ofNat 32 :: chars headC) := by simp [chars, headCodes]
  rw [e, words_cons _ _ (by kernel_rfl), words_cons _ _ (by kernel_rfl)]
theorem behind_of {ws : List (List Char)} {a b : List Char} (h : (a == "harness".toList) = true) (h2 : isSumSigns b = true) : behindMainWord (a :: b :: ws) = ws := by
  simp only [behindMainWord, h, h2, Bool.true_or, Bool.true_and, if_true]
theorem head_behind : behindMainWord (wordsSigns Try.prog.initOrder.toList) = wordsSigns (chars headC) := by
  rw [head_words, behind_of (by kernel_rfl) (by kernel_rfl)]

def headRest : List Nat := [97, 116, 32, 108, 111, 111, 112, 46, 101, 120, 97, 109, 112, 108, 101, 47, 103, 48, 48, 57, 50, 54, 47, 108, 97, 119, 115, 46, 70, 110, 69, 120, 97, 99, 116, 71, 105, 118, 101, 80, 111, 115, 105, 116, 105, 111, 110, 32, 108, 111, 111, 112, 46, 101, 120, 97, 109, 112, 108, 101, 47, 103, 48, 48, 57, 50, 54, 47, 108, 97, 119, 115, 46, 70, 110, 69, 120, 97, 99, 116, 83, 101, 116, 116, 108, 101, 80, 111, 115, 105, 116, 105, 111, 110, 32, 108, 111, 111, 112, 46, 101, 120, 97, 109, 112, 108, 101, 47, 103, 48, 48, 57, 50, 54, 47, 108, 97, 119, 115, 46, 70, 110, 69, 120, 97, 99, 116, 83, 97, 109, 101, 82, 101, 115, 117, 108, 116, 115, 32, 108, 111, 111, 112, 46, 101, 120, 97, 109, 112, 108, 101, 47, 103, 48, 48, 57, 50, 54, 47, 108, 97, 119, 115, 46, 70, 110, 69, 120, 97, 99, 116, 83, 97, 109, 101, 71, 97, 109, 101, 32, 108, 111, 111, 112, 46, 101, 120, 97, 109, 112, 108, 101, 47, 103, 48, 48, 57, 50, 54, 47, 108, 97, 119, 115, 46, 70, 110, 69, 120, 97, 99, 116, 83, 112, 108, 105, 116, 87, 111, 114, 100, 115, 32, 108, 111, 111, 112, 46, 101, 120, 97, 109, 112, 108, 101, 47, 103, 48, 48, 57, 50, 54, 47, 108, 97, 119, 115, 46, 70, 110, 69, 120, 97, 99, 116, 71, 101, 116, 78, 117, 109, 98, 101, 114, 32, 108, 111, 111, 112, 46, 101, 120, 97, 109, 112, 108, 101, 47, 103, 48, 48, 57, 50, 54, 47, 108, 97, 119, 115, 46, 70, 110, 69, 120, 97, 99, 116, 80, 97, 99, 107, 76, 105, 115, 116, 32, 108, 111, 111, 112, 46, 101, 120, 97, 109, 112, 108, 101, 47, 103, 48, 48, 57, 50, 54, 47, 108, 97, 119, 115, 46, 70, 110, 69, 120, 97, 99, 116, 83, 97, 109, 101, 70, 97, 99, 116, 115, 32, 108, 111, 111, 112, 46, 101, 120, 97, 109, 112, 108, 101, 47, 103, 48, 48, 57, 50, 54, 47, 108, 97, 119, 115, 46, 70, 110, 69, 120, 97, 99, 116, 70, 114, 111, 109, 82, 117, 110, 115, 32, 108, 111, 111, 112, 46, 101, 120, 97, 109, 112, 108, 101, 47, 103, 48, 48, 57, 50, 54, 47, 108, 97, 119, 115, 46, 70, 110, 69, 120, 97, 99, 116, 82, 117, 110, 115, 79, 102, 32, 108, 111, 111, 112, 46, 101, 120, 97, 109, 112, 108, 101, 47, 103, 48, 48, 57, 50, 54, 47, 108, 97, 119, 115, 46, 70, 110, 67, 97, 112, 116, 117, 114, 101, 78, 97, 109, 101, 115, 32, 108, 111, 111, 112, 46, 101, 120, 97, 109, 112, 108, 101, 47, 103, 48, 48, 57, 50, 54, 47, 108, 97, 119, 115, 46, 70, 110, 83, 116, 97, 110, 100, 97, 114, 100, 32, 108, 111, 111, 112, 46, 101, 120, 97, 109, 112, 108, 101, 47, 103, 48, 48, 57, 50, 54, 47, 108, 97, 119, 115, 46, 70, 110, 80, 105, 116, 115, 32, 108, 111, 111, 112, 46, 101, 120, 97, 109, 112, 108, 101, 47, 103, 48, 48, 57, 50, 54, 47, 108, 97, 119, 115, 46, 70, 110, 80, 111, 115, 105, 116, 105, 111, 110, 79, 114, 100, 101, 114, 32, 108, 111, 111, 112, 46, 101, 120, 97, 109, 112, 108, 101, 47, 103, 48, 48, 57, 50, 54, 47, 108, 97, 119, 115, 46, 70, 110, 83, 101, 116, 116, 108, 101, 100]
theorem head_cut : behindMainWord (wordsSigns Try.prog.initOrder.toList) = "cut".toList :: wordsSigns (chars headRest) := by
  rw [head_behind]
  have e : chars headC = "cut".toList ++ Char.ofNat 32 :: chars headRest := by kernel_rfl
  rw [e, words_cons _ _ (by kernel_rfl)]
theorem make_of {P : Program} {ws : List (List Char)} (h : behindMainWord (wordsSigns P.initOrder.toList) = "cut".toList :: ws) : (P.make == some .cut) = true := by
  unfold Program.make
  rw [h]
  simp
theorem strip_of (ws : List (List Char)) : stripLifts liftWords ("cut".toList :: ws) = ([], "cut".toList :: ws) := by
  simp [stripLifts, liftWords]
theorem lifts_of {P : Program} {ws : List (List Char)} (h : behindMainWord (wordsSigns P.initOrder.toList) = "cut".toList :: ws) : P.liftsFinal = false := by
  unfold Program.liftsFinal Program.headLifts
  rw [h, strip_of]
  simp
theorem enter_of {P : Program} {ws : List (List Char)} (h : behindMainWord (wordsSigns P.initOrder.toList) = "cut".toList :: ws) (h1 : P.laysLater = false) (h2 : P.bearsReflect = false) (h3 : P.doorFits [] = true) : P.mayEnter = true := by
  unfold Program.mayEnter
  rw [h]
  dsimp only
  rw [strip_of]
  simp [h1, h2, h3]
theorem fact_make : (Try.prog.make == some .cut) = true := make_of head_cut
theorem fact_lifts : Try.prog.liftsFinal = false := lifts_of head_cut
theorem fact_enter : Try.prog.mayEnter = true := enter_of head_cut (by kernel_rfl) (by kernel_rfl) (by kernel_rfl)
end Go.Proofs.Ytnanaldolnehiaa
