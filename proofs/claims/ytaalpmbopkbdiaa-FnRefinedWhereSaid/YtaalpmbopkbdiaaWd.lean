/- What the program's head says, as words; no conditions. -/
import Derived.Test.YtaalpmbopkbdiaaProg
import Derived.JoinedOf
import Derived.KernelRfl
namespace Go.Proofs.Ytaalpmbopkbdiaa.Wd
open Go
set_option maxRecDepth 100000
set_option linter.unusedSimpArgs false
set_option maxHeartbeats 8000000
theorem wsp : ∀ (w r : List Char), (w.all fun c => !(c == Char.ofNat 32)) = true → wordsSigns (w ++ Char.ofNat 32 :: r) = w :: wordsSigns r
  | [], _, _ => rfl
  | c :: w, r, h => by
    simp only [List.all_cons, Bool.and_eq_true, Bool.not_eq_true', beq_eq_false_iff_ne] at h
    have ih := wsp w r h.2
    rw [List.cons_append, wordsSigns.eq_3 _ _ (fun e => h.1 e), ih]
def w1 : List Char := ([104, 97, 114, 110, 101, 115, 115]).map Char.ofNat
def w2 : List Char := ([99, 54, 55, 57, 102, 55, 52, 49, 101, 56, 57, 51, 98, 97, 55, 52, 100, 97, 54, 55, 99, 102, 102, 102, 50, 51, 57, 57, 102, 55, 55, 99, 56, 56, 54, 101, 56, 52, 50, 49, 51, 97, 55, 99, 101, 53, 50, 52, 57, 98, 50, 100, 57, 50, 56, 102, 57, 51, 52, 100, 49, 51, 52, 50]).map Char.ofNat
def w3 : List Char := ([99, 117, 116]).map Char.ofNat
def w4 : List Char := ([97, 116, 32, 108, 111, 111, 112, 46, 101, 120, 97, 109, 112, 108, 101, 47, 103, 48, 48, 57, 56, 50, 47, 108, 97, 119, 115, 46, 70, 110, 83, 104, 97, 114, 101, 115, 75, 101, 112, 116, 32, 108, 111, 111, 112, 46, 101, 120, 97, 109, 112, 108, 101, 47, 103, 48, 48, 57, 56, 50, 47, 108, 97, 119, 115, 46, 70, 110, 69, 120, 97, 99, 116, 82, 117, 110, 69, 118, 101, 110, 116, 115, 32, 108, 111, 111, 112, 46, 101, 120, 97, 109, 112, 108, 101, 47, 103, 48, 48, 57, 56, 50, 47, 108, 97, 119, 115, 46, 70, 110, 69, 120, 97, 99, 116, 68, 114, 111, 112, 76, 101, 118, 101, 108, 32, 108, 111, 111, 112, 46, 101, 120, 97, 109, 112, 108, 101, 47, 103, 48, 48, 57, 56, 50, 47, 108, 97, 119, 115, 46, 70, 110, 69, 120, 97, 99, 116, 66, 97, 108, 97, 110, 99, 101, 82, 101, 102, 105, 110, 101, 32, 108, 111, 111, 112, 46, 101, 120, 97, 109, 112, 108, 101, 47, 103, 48, 48, 57, 56, 50, 47, 108, 97, 119, 115, 46, 70, 110, 82, 101, 102, 105, 110, 101, 100, 87, 104, 101, 114, 101]).map Char.ofNat
theorem lit : Try.prog.initOrder = String.ofList (w1 ++ Char.ofNat 32 :: (w2 ++ Char.ofNat 32 :: (w3 ++ Char.ofNat 32 :: w4))) := by kernel_rfl
theorem behindG (a b : List Char) (r : List (List Char)) (h : ((a == "harness".toList || a == "ownmain".toList) && isSumSigns b) = true) : behindMainWord (a :: b :: r) = r := by
  unfold behindMainWord
  dsimp only
  rw [if_pos h]
theorem behindW (X : List (List Char)) (h : ((w1 == "harness".toList || w1 == "ownmain".toList) && isSumSigns w2) = true) : behindMainWord (w1 :: w2 :: w3 :: X) = w3 :: X := behindG _ _ _ h
theorem words : behindMainWord (wordsSigns Try.prog.initOrder.toList) = w3 :: wordsSigns w4 := by
  rw [lit, String.toList_ofList, wsp _ _ (by kernel_rfl), wsp _ _ (by kernel_rfl), wsp _ _ (by kernel_rfl)]
  generalize wordsSigns w4 = X
  exact behindW X (by kernel_rfl)
theorem strip (X : List (List Char)) : stripLifts liftWords (w3 :: X) = ([], w3 :: X) := by
  simp only [liftWords, stripLifts]
  repeat' rw [if_neg (by decide)]
theorem band {a b : Bool} (h1 : a = true) (h2 : b = true) : (a && b) = true := by rw [h1, h2]; rfl
theorem headG {P : Program} {X : List (List Char)} (h : behindMainWord (wordsSigns P.initOrder.toList) = w3 :: X) : P.headLifts = [] := by
  unfold Program.headLifts
  rw [h, strip]
  dsimp only
  split <;> rfl
theorem mayG {P : Program} {X : List (List Char)} (h : behindMainWord (wordsSigns P.initOrder.toList) = w3 :: X) (e5 : P.laysLater = false) (e6 : P.bearsReflect = false) (e7 : P.doorFits [] = true) : P.mayEnter = true := by
  unfold Program.mayEnter
  rw [h]
  simp only [strip]
  have e1 : (w3 == "gc".toList) = false := by kernel_rfl
  have e2 : (w3 == "spec".toList) = false := by kernel_rfl
  have e3 : (w3 == "carried".toList) = false := by kernel_rfl
  have e4 : (some w3 == some "cut".toList) = true := by kernel_rfl
  simp only [e1, e2, e3, e5, e6, e7, List.head?_cons, e4, List.contains_nil, Bool.or_self, Bool.false_and, Bool.not_false, Bool.or_true, Bool.and_self, Bool.or_false, Bool.false_or, Bool.true_and]
theorem liftG {P : Program} {X : List (List Char)} (h : behindMainWord (wordsSigns P.initOrder.toList) = w3 :: X) : P.liftsFinal = false := by
  unfold Program.liftsFinal
  rw [h, headG h]
  have e3 : (some w3 == some "carried".toList) = false := by kernel_rfl
  simp only [List.head?_cons, e3, Bool.false_and, List.contains_nil, Bool.or_self]
theorem makeG {P : Program} {X : List (List Char)} (h : behindMainWord (wordsSigns P.initOrder.toList) = w3 :: X) : P.make = some .cut := by
  unfold Program.make
  rw [h]
  have e1 : (w3 == "gc".toList) = false := by kernel_rfl
  have e2 : (w3 == "spec".toList) = false := by kernel_rfl
  have e4 : (w3 == "cut".toList) = true := by kernel_rfl
  simp only [e1, e2, e4, Bool.or_self, Bool.false_eq_true, if_false, Bool.true_or, if_true]
theorem mayE : Try.prog.mayEnter = true := mayG words (by kernel_rfl) (by kernel_rfl) (by kernel_rfl)
theorem liftF : Try.prog.liftsFinal = false := liftG words
theorem makeF : Try.prog.make = some .cut := makeG words
end Go.Proofs.Ytaalpmbopkbdiaa.Wd
