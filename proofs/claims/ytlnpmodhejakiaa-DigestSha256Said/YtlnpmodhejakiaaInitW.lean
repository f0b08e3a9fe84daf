/- The words of the program's initOrder, for the rows of a large seat (written by a program). -/
import Derived.Test.YtlnpmodhejakiaaRows
import Derived.WalkKit
import Derived.ProofKit
import Derived.OpenShut
import Derived.ChangeOld
import Derived.SizedLaws
namespace Go.Proofs.Ytlnpmodhejakiaa.IO
open Go.ChangeShapes Go.WideShapes Go.ChangeAt Go.RowKit
set_option maxRecDepth 100000
set_option profiler true
def chars : List Char := ['h', 'a', 'r', 'n', 'e', 's', 's', ' ', '2', '7', 'c', '5', 'd', '3', 'd', '8', '1', 'd', 'e', '3', '1', '6', 'e', '8', '5', '1', 'a', '1', '5', '9', '1', 'd', '7', '8', 'f', 'f', 'd', '8', '1', '7', 'f', 'f', 'f', '3', '4', 'c', 'f', 'c', 'e', '8', '6', '5', 'f', '5', '9', 'e', '4', '0', '6', '7', '5', '2', '4', 'c', 'b', '0', '7', '1', 'd', '8', '4', 'd', ' ', 'c', 'u', 't', ' ', 'a', 't', ' ', 's', 't', 'e', 'l', 'e', '/', 's', 't', 'e', 'l', 'e', 'l', 'a', 'w', '0', '1', '.', 'D', 'i', 'g', 'e', 's', 't', 'S', 'h', 'a', '1', ' ', 's', 't', 'e', 'l', 'e', '/', 's', 't', 'e', 'l', 'e', 'l', 'a', 'w', '0', '1', '.', 'D', 'i', 'g', 'e', 's', 't', 'S', 'h', 'a', '2', '5', '6', ' ', 's', 't', 'e', 'l', 'e', '/', 's', 't', 'e', 'l', 'e', 'l', 'a', 'w', '0', '1', '.', 'D', 'i', 'g', 'e', 's', 't', 'P', 'a', 'r', 't', 's', ' ', 's', 't', 'e', 'l', 'e', '/', 's', 't', 'e', 'l', 'e', 'l', 'a', 'w', '0', '1', '.', 'D', 'i', 'g', 'e', 's', 't', 'H', 'm', 'a', 'c', '1', ' ', 's', 't', 'e', 'l', 'e', '/', 's', 't', 'e', 'l', 'e', 'l', 'a', 'w', '0', '1', '.', 'D', 'i', 'g', 'e', 's', 't', 'H', 'm', 'a', 'c', '2', '5', '6', ' ', 's', 't', 'e', 'l', 'e', '/', 's', 't', 'e', 'l', 'e', 'l', 'a', 'w', '0', '2', '.', 'C', 'a', 'n', 'o', 'n', 'T', 'e', 'x', 't', 's', ' ', 's', 't', 'e', 'l', 'e', '/', 's', 't', 'e', 'l', 'e', 'l', 'a', 'w', '0', '2', '.', 'C', 'a', 'n', 'o', 'n', 'N', 'u', 'm', 'b', 'e', 'r', 's', ' ', 's', 't', 'e', 'l', 'e', '/', 's', 't', 'e', 'l', 'e', 'l', 'a', 'w', '0', '2', '.', 'C', 'a', 'n', 'o', 'n', 'O', 'n', 'e', ' ', 's', 't', 'e', 'l', 'e', '/', 's', 't', 'e', 'l', 'e', 'l', 'a', 'w', '0', '2', '.', 'C', 'a', 'n', 'o', 'n', 'R', 'e', 'a', 'd', 's', ' ', 's', 't', 'e', 'l', 'e', '/', 's', 't', 'e', 'l', 'e', 'l', 'a', 'w', '0', '2', '.', 'C', 'a', 'n', 'o', 'n', 'B', 'a', 'c', 'k', ' ', 's', 't', 'e', 'l', 'e', '/', 's', 't', 'e', 'l', 'e', 'l', 'a', 'w', '0', '7', '.', 'T', 'o', 't', 'p', 'S', 'i', 'g', 'n', 's', ' ', 's', 't', 'e', 'l', 'e', '/', 's', 't', 'e', 'l', 'e', 'l', 'a', 'w', '0', '7', '.', 'T', 'o', 't', 'p', 'B', 'a', 'c', 'k', ' ', 's', 't', 'e', 'l', 'e', '/', 's', 't', 'e', 'l', 'e', 'l', 'a', 'w', '1', '4', '.', 'A', 'u', 'd', 'i', 't', 'N', 'e', 'x', 't', 's', ' ', 's', 't', 'e', 'l', 'e', '/', 's', 't', 'e', 'l', 'e', 'l', 'a', 'w', '1', '4', '.', 'A', 'u', 'd', 'i', 't', 'V', 'e', 'r', 'i', 'f', 'i', 'e', 's', ' ', 's', 't', 'e', 'l', 'e', '/', 's', 't', 'e', 'l', 'e', 'l', 'a', 'w', '1', '4', '.', 'A', 'u', 'd', 'i', 't', 'C', 'h', 'a', 'i', 'n', 's', ' ', 's', 't', 'e', 'l', 'e', '/', 's', 't', 'e', 'l', 'e', 'l', 'a', 'w', '1', '4', '.', 'A', 'u', 'd', 'i', 't', 'E', 'd', 'i', 't', 'e', 'd', ' ', 's', 't', 'e', 'l', 'e', '/', 's', 't', 'e', 'l', 'e', 'l', 'a', 'w', '1', '4', '.', 'A', 'u', 'd', 'i', 't', 'S', 'h', 'o', 'w', 's', ' ', 's', 't', 'e', 'l', 'e', '/', 's', 't', 'e', 'l', 'e', 'l', 'a', 'w', '1', '4', '.', 'A', 'u', 'd', 'i', 't', 'C', 'o', 'l', 'l', 'i', 'd', 'e', 's', ' ', 's', 't', 'e', 'l', 'e', '/', 's', 't', 'e', 'l', 'e', 'l', 'a', 'w', '1', '4', '.', 'A', 'u', 'd', 'i', 't', 'F', 'o', 'r', 'g', 'e', 'd', ' ', 's', 't', 'e', 'l', 'e', '/', 's', 't', 'e', 'l', 'e', 'l', 'a', 'w', '1', '4', '.', 'A', 'u', 'd', 'i', 't', 'R', 'e', 'a', 'd', 's', ' ', 's', 't', 'e', 'l', 'e', '/', 's', 't', 'e', 'l', 'e', 'l', 'a', 'w', '1', '4', '.', 'A', 'u', 'd', 'i', 't', 'B', 'a', 'c', 'k', ' ', 's', 't', 'e', 'l', 'e', '/', 's', 't', 'e', 'l', 'e', 'l', 'a', 'w', '1', '9', '.', 'R', 'e', 'c', 'o', 'r', 'd', 's', 'R', 'e', 'a', 'd', 's', ' ', 's', 't', 'e', 'l', 'e', '/', 's', 't', 'e', 'l', 'e', 'l', 'a', 'w', '1', '9', '.', 'R', 'e', 'c', 'o', 'r', 'd', 's', 'S', 'h', 'o', 'w', 's', ' ', 's', 't', 'e', 'l', 'e', '/', 's', 't', 'e', 'l', 'e', 'l', 'a', 'w', '1', '9', '.', 'R', 'e', 'c', 'o', 'r', 'd', 's', 'I', 't', 'e', 'm', 's', ' ', 's', 't', 'e', 'l', 'e', '/', 's', 't', 'e', 'l', 'e', 'l', 'a', 'w', '1', '9', '.', 'R', 'e', 'c', 'o', 'r', 'd', 's', 'A', 'p', 'p', 'l', 'y']
def words : List (List Char) := [['h', 'a', 'r', 'n', 'e', 's', 's'], ['2', '7', 'c', '5', 'd', '3', 'd', '8', '1', 'd', 'e', '3', '1', '6', 'e', '8', '5', '1', 'a', '1', '5', '9', '1', 'd', '7', '8', 'f', 'f', 'd', '8', '1', '7', 'f', 'f', 'f', '3', '4', 'c', 'f', 'c', 'e', '8', '6', '5', 'f', '5', '9', 'e', '4', '0', '6', '7', '5', '2', '4', 'c', 'b', '0', '7', '1', 'd', '8', '4', 'd'], ['c', 'u', 't'], ['a', 't'], ['s', 't', 'e', 'l', 'e', '/', 's', 't', 'e', 'l', 'e', 'l', 'a', 'w', '0', '1', '.', 'D', 'i', 'g', 'e', 's', 't', 'S', 'h', 'a', '1'], ['s', 't', 'e', 'l', 'e', '/', 's', 't', 'e', 'l', 'e', 'l', 'a', 'w', '0', '1', '.', 'D', 'i', 'g', 'e', 's', 't', 'S', 'h', 'a', '2', '5', '6'], ['s', 't', 'e', 'l', 'e', '/', 's', 't', 'e', 'l', 'e', 'l', 'a', 'w', '0', '1', '.', 'D', 'i', 'g', 'e', 's', 't', 'P', 'a', 'r', 't', 's'], ['s', 't', 'e', 'l', 'e', '/', 's', 't', 'e', 'l', 'e', 'l', 'a', 'w', '0', '1', '.', 'D', 'i', 'g', 'e', 's', 't', 'H', 'm', 'a', 'c', '1'], ['s', 't', 'e', 'l', 'e', '/', 's', 't', 'e', 'l', 'e', 'l', 'a', 'w', '0', '1', '.', 'D', 'i', 'g', 'e', 's', 't', 'H', 'm', 'a', 'c', '2', '5', '6'], ['s', 't', 'e', 'l', 'e', '/', 's', 't', 'e', 'l', 'e', 'l', 'a', 'w', '0', '2', '.', 'C', 'a', 'n', 'o', 'n', 'T', 'e', 'x', 't', 's'], ['s', 't', 'e', 'l', 'e', '/', 's', 't', 'e', 'l', 'e', 'l', 'a', 'w', '0', '2', '.', 'C', 'a', 'n', 'o', 'n', 'N', 'u', 'm', 'b', 'e', 'r', 's'], ['s', 't', 'e', 'l', 'e', '/', 's', 't', 'e', 'l', 'e', 'l', 'a', 'w', '0', '2', '.', 'C', 'a', 'n', 'o', 'n', 'O', 'n', 'e'], ['s', 't', 'e', 'l', 'e', '/', 's', 't', 'e', 'l', 'e', 'l', 'a', 'w', '0', '2', '.', 'C', 'a', 'n', 'o', 'n', 'R', 'e', 'a', 'd', 's'], ['s', 't', 'e', 'l', 'e', '/', 's', 't', 'e', 'l', 'e', 'l', 'a', 'w', '0', '2', '.', 'C', 'a', 'n', 'o', 'n', 'B', 'a', 'c', 'k'], ['s', 't', 'e', 'l', 'e', '/', 's', 't', 'e', 'l', 'e', 'l', 'a', 'w', '0', '7', '.', 'T', 'o', 't', 'p', 'S', 'i', 'g', 'n', 's'], ['s', 't', 'e', 'l', 'e', '/', 's', 't', 'e', 'l', 'e', 'l', 'a', 'w', '0', '7', '.', 'T', 'o', 't', 'p', 'B', 'a', 'c', 'k'], ['s', 't', 'e', 'l', 'e', '/', 's', 't', 'e', 'l', 'e', 'l', 'a', 'w', '1', '4', '.', 'A', 'u', 'd', 'i', 't', 'N', 'e', 'x', 't', 's'], ['s', 't', 'e', 'l', 'e', '/', 's', 't', 'e', 'l', 'e', 'l', 'a', 'w', '1', '4', '.', 'A', 'u', 'd', 'i', 't', 'V', 'e', 'r', 'i', 'f', 'i', 'e', 's'], ['s', 't', 'e', 'l', 'e', '/', 's', 't', 'e', 'l', 'e', 'l', 'a', 'w', '1', '4', '.', 'A', 'u', 'd', 'i', 't', 'C', 'h', 'a', 'i', 'n', 's'], ['s', 't', 'e', 'l', 'e', '/', 's', 't', 'e', 'l', 'e', 'l', 'a', 'w', '1', '4', '.', 'A', 'u', 'd', 'i', 't', 'E', 'd', 'i', 't', 'e', 'd'], ['s', 't', 'e', 'l', 'e', '/', 's', 't', 'e', 'l', 'e', 'l', 'a', 'w', '1', '4', '.', 'A', 'u', 'd', 'i', 't', 'S', 'h', 'o', 'w', 's'], ['s', 't', 'e', 'l', 'e', '/', 's', 't', 'e', 'l', 'e', 'l', 'a', 'w', '1', '4', '.', 'A', 'u', 'd', 'i', 't', 'C', 'o', 'l', 'l', 'i', 'd', 'e', 's'], ['s', 't', 'e', 'l', 'e', '/', 's', 't', 'e', 'l', 'e', 'l', 'a', 'w', '1', '4', '.', 'A', 'u', 'd', 'i', 't', 'F', 'o', 'r', 'g', 'e', 'd'], ['s', 't', 'e', 'l', 'e', '/', 's', 't', 'e', 'l', 'e', 'l', 'a', 'w', '1', '4', '.', 'A', 'u', 'd', 'i', 't', 'R', 'e', 'a', 'd', 's'], ['s', 't', 'e', 'l', 'e', '/', 's', 't', 'e', 'l', 'e', 'l', 'a', 'w', '1', '4', '.', 'A', 'u', 'd', 'i', 't', 'B', 'a', 'c', 'k'], ['s', 't', 'e', 'l', 'e', '/', 's', 't', 'e', 'l', 'e', 'l', 'a', 'w', '1', '9', '.', 'R', 'e', 'c', 'o', 'r', 'd', 's', 'R', 'e', 'a', 'd', 's'], ['s', 't', 'e', 'l', 'e', '/', 's', 't', 'e', 'l', 'e', 'l', 'a', 'w', '1', '9', '.', 'R', 'e', 'c', 'o', 'r', 'd', 's', 'S', 'h', 'o', 'w', 's'], ['s', 't', 'e', 'l', 'e', '/', 's', 't', 'e', 'l', 'e', 'l', 'a', 'w', '1', '9', '.', 'R', 'e', 'c', 'o', 'r', 'd', 's', 'I', 't', 'e', 'm', 's'], ['s', 't', 'e', 'l', 'e', '/', 's', 't', 'e', 'l', 'e', 'l', 'a', 'w', '1', '9', '.', 'R', 'e', 'c', 'o', 'r', 'd', 's', 'A', 'p', 'p', 'l', 'y']]
theorem io : Try.prog.initOrder.toList = chars := by
  rw [show Try.prog.initOrder = String.ofList chars by kernel_rfl]
  exact String.toList_ofList
/-- a word and what comes behind it -/
theorem word_ : ∀ (w r : List Char), (∀ c ∈ w, c ≠ ' ') → wordsSigns (w ++ ' ' :: r) = w :: wordsSigns r
  | [], r, _ => rfl
  | c :: w, r, h => by
    have h0 : c ≠ ' ' := h c (List.mem_cons_self ..)
    have ih := word_ w r (fun x hx => h x (List.mem_cons_of_mem _ hx))
    show wordsSigns (c :: (w ++ ' ' :: r)) = _
    rw [wordsSigns.eq_3 _ _ (by simpa using h0), ih]
theorem last_ : ∀ (w : List Char), (∀ c ∈ w, c ≠ ' ') → wordsSigns w = [w]
  | [], _ => rfl
  | c :: w, h => by
    have h0 : c ≠ ' ' := h c (List.mem_cons_self ..)
    have ih := last_ w (fun x hx => h x (List.mem_cons_of_mem _ hx))
    rw [wordsSigns.eq_3 _ _ (by simpa using h0), ih]
def glue : List (List Char) → List Char
  | [] => []
  | [w] => w
  | w :: ws => w ++ ' ' :: glue ws
theorem words_glue : ∀ (l : List (List Char)), l ≠ [] → (∀ w ∈ l, ∀ c ∈ w, c ≠ ' ') → wordsSigns (glue l) = l
  | [], h, _ => absurd rfl h
  | [w], _, h => last_ w (h w (by simp))
  | w :: v :: ws, _, h => by
    show wordsSigns (w ++ ' ' :: glue (v :: ws)) = _
    rw [word_ w _ (h w (by simp)), words_glue (v :: ws) (by simp) (fun x hx => h x (List.mem_cons_of_mem _ hx))]
theorem glued : chars = glue words := by kernel_rfl
theorem nospace0 : words.all (fun w => w.all (fun c => c.val.toNat != 32)) = true := by kernel_rfl
theorem nospace : ∀ w ∈ words, ∀ c ∈ w, c ≠ ' ' := by
  intro w hw c hc h
  have := List.all_eq_true.1 (List.all_eq_true.1 nospace0 w hw) c hc
  subst h
  simp at this
theorem signs : wordsSigns Try.prog.initOrder.toList = words := by
  rw [io, glued]
  exact words_glue words (by intro h; cases h) nospace
theorem headLifts_ : Try.prog.headLifts = [] := by
  unfold Program.headLifts
  rw [signs]
  kernel_rfl
theorem tCarried : "carried".toList = ['c', 'a', 'r', 'r', 'i', 'e', 'd'] := by
  rw [show "carried" = String.ofList ['c', 'a', 'r', 'r', 'i', 'e', 'd'] by rfl]
  exact String.toList_ofList
theorem mains : behindMainWord words = words.drop 2 := by kernel_rfl
theorem lifts_ : Try.prog.liftsFinal = false := by
  unfold Program.liftsFinal
  rw [signs, headLifts_, mains, tCarried]
  kernel_rfl
theorem tGc : "gc".toList = ['g', 'c'] := by
  rw [show "gc" = String.ofList ['g', 'c'] by rfl]
  exact String.toList_ofList
theorem tSpec : "spec".toList = ['s', 'p', 'e', 'c'] := by
  rw [show "spec" = String.ofList ['s', 'p', 'e', 'c'] by rfl]
  exact String.toList_ofList
theorem tCut : "cut".toList = ['c', 'u', 't'] := by
  rw [show "cut" = String.ofList ['c', 'u', 't'] by rfl]
  exact String.toList_ofList
theorem mains2 : behindMainWord words = ['c', 'u', 't'] :: words.drop 3 := by kernel_rfl
theorem ne1 : (['c', 'u', 't'] == ['g', 'c']) = false := by decide
theorem ne2 : (['c', 'u', 't'] == ['s', 'p', 'e', 'c']) = false := by decide
theorem ne3 : (['c', 'u', 't'] == ['c', 'a', 'r', 'r', 'i', 'e', 'd']) = false := by decide
theorem eq1 : (['c', 'u', 't'] == ['c', 'u', 't']) = true := by decide
theorem lays_ : Try.prog.laysLater = false := by kernel_rfl
theorem bears_ : Try.prog.bearsReflect = false := by kernel_rfl
theorem door_ : Try.prog.doorFits [] = true := by kernel_rfl
theorem strip_ : stripLifts liftWords ("cut".toList :: words.drop 3) = ([], "cut".toList :: words.drop 3) := by rw [tCut]; kernel_rfl
theorem cuts_ : behindMainWord (wordsSigns Try.prog.initOrder.toList) = "cut".toList :: words.drop 3 := by rw [signs, mains2, tCut]
theorem may_of {P : Program} {rest : List (List Char)} (h : behindMainWord (wordsSigns P.initOrder.toList) = "cut".toList :: rest) (hs : stripLifts liftWords ("cut".toList :: rest) = ([], "cut".toList :: rest)) (h1 : P.laysLater = false) (h2 : P.bearsReflect = false) (h3 : P.doorFits [] = true) : P.mayEnter = true := by
  rw [tCut] at hs
  unfold Program.mayEnter
  rw [h]
  simp only [tCut, hs, h1, h2, h3, tGc, tSpec, tCarried, tCut, ne1, ne2, ne3, List.head?_cons]
  simp [hs, h3]
theorem make_of {P : Program} {rest : List (List Char)} (h : behindMainWord (wordsSigns P.initOrder.toList) = "cut".toList :: rest) : P.make = some .cut := by
  unfold Program.make
  rw [h]
  simp only [tGc, tSpec, tCut, ne1, ne2, eq1, Bool.or_false, Bool.true_or, Bool.false_eq_true, if_false, if_true]
theorem mayEnter_ : Try.prog.mayEnter = true := may_of cuts_ strip_ lays_ bears_ door_
theorem make_ : Try.prog.make = some .cut := make_of cuts_
end Go.Proofs.Ytlnpmodhejakiaa.IO
