/- What each function computes, in plain Lean. -/
import Derived.Test.YtkjbhlhebjfklaaDoorAmE
set_option linter.unusedVariables false
set_option maxRecDepth 100000
namespace Go.AM
open Go
-- laws.szOpts
def m_laws_szOpts (a0 : (Bool × (Bool × (Bool × (Bool × (Bool × (Bool × (Bool × (Bool × (Bool × (Bool × (Bool × (Bool × (Bool × (Int × (Bool × (List UInt8 × List UInt8))))))))))))))))) (a1 : Int) : Option (Int × Unit) :=
 bif
 decide
 (IntKind.wrap IntKind.i64
 (a1 - (↑(List.length a0.snd.snd.snd.snd.snd.snd.snd.snd.snd.snd.snd.snd.snd.snd.snd.fst) : Int)) <
 (0 : Int)) then
 some ((-1 : Int), ())
 else
 bif
 decide
 (IntKind.wrap IntKind.i64
 (IntKind.wrap IntKind.i64
 (a1 - (↑(List.length a0.snd.snd.snd.snd.snd.snd.snd.snd.snd.snd.snd.snd.snd.snd.snd.fst) : Int)) -
 (↑(List.length a0.snd.snd.snd.snd.snd.snd.snd.snd.snd.snd.snd.snd.snd.snd.snd.snd) : Int)) <
 (0 : Int)) then
 some ((-1 : Int), ())
 else
 some
 (IntKind.wrap IntKind.i64
 (IntKind.wrap IntKind.i64
 (a1 - (↑(List.length a0.snd.snd.snd.snd.snd.snd.snd.snd.snd.snd.snd.snd.snd.snd.snd.fst) : Int)) -
 (↑(List.length a0.snd.snd.snd.snd.snd.snd.snd.snd.snd.snd.snd.snd.snd.snd.snd.snd) : Int)),
 ())
-- laws.toOpts
def m_laws_toOpts (a0 : (Bool × (Bool × (Bool × (Bool × (Bool × (Bool × (Bool × (Bool × (Bool × (Bool × (Bool × (Bool × (Bool × (Int × (Bool × (List UInt8 × List UInt8))))))))))))))))) : Option ((Bool × (Bool × (Bool × (Bool × (Bool × (Bool × (Bool × (Bool × (Bool × (Bool × (Bool × (Bool × (Bool × (Int × (Bool × (List UInt8 × List UInt8)))))))))))))))) × Unit) :=
 some (a0, ())
-- spec.l01In
def m_spec_l01In (a0 : Int) (a1 : Int) (a2 : Int) : Option (Bool × Unit) :=
 Option.bind (bif decide (a0 ≥ a1) then some ((decide (a0 ≤ a2), ()), ()) else some ((false, ()), ()))
 fun (s : (Bool × PUnit) × PUnit) => some (s.fst.fst, ())
-- spec.NameOk
def m_spec_NameOk (a0 : List UInt8) : Option (Bool × Unit) :=
 Option.bind
 (Option.bind (m_spec_l01In (↑(List.length a0) : Int) (1 : Int) (20 : Int)) fun (r : Bool × Unit) =>
 bif !r.fst then some ((a0, true, ()), ())
 else
 bif a0 == [(46 : UInt8)] then some ((a0, true, ()), ())
 else some ((a0, a0 == [(46 : UInt8), (46 : UInt8)], ()), ()))
 fun (s : (List UInt8 × Bool × Unit) × Unit) =>
 bif s.fst.snd.fst then some (false, ())
 else
 joinC
 (loopC (List.length s.fst.fst + Int.toNat (0 : Int) + (300 : Nat))
 (fun (s : (List UInt8 × Int × Unit) × Unit)
 (k : (List UInt8 × Int × Unit) × Unit → Option (Unit × Unit ⊕ Bool × Unit)) =>
 bif decide (s.fst.snd.fst < (↑(List.length s.fst.fst) : Int)) then
 if (0 : Int) ≤ s.fst.snd.fst ∧ s.fst.snd.fst < (↑(List.length s.fst.fst) : Int) then
 Option.bind
 (Option.bind
 (m_spec_l01In
 (IntKind.wrap IntKind.i64
 (↑(UInt8.toNat (List.getD s.fst.fst (Int.toNat s.fst.snd.fst) (0 : UInt8))) : Int))
 (97 : Int) (122 : Int))
 fun (r : Bool × Unit) =>
 bif !r.fst then
 Option.bind
 (m_spec_l01In
 (IntKind.wrap IntKind.i64
 (↑(UInt8.toNat (List.getD s.fst.fst (Int.toNat s.fst.snd.fst) (0 : UInt8))) : Int))
 (65 : Int) (90 : Int))
 fun (r : Bool × Unit) =>
 bif !r.fst then
 Option.bind
 (m_spec_l01In
 (IntKind.wrap IntKind.i64
 (↑(UInt8.toNat (List.getD s.fst.fst (Int.toNat s.fst.snd.fst) (0 : UInt8))) : Int))
 (48 : Int) (57 : Int))
 fun (r : Bool × Unit) =>
 bif !r.fst then
 if (0 : Int) ≤ s.fst.snd.fst ∧ s.fst.snd.fst < (↑(List.length s.fst.fst) : Int) then
 bif
 (↑(UInt8.toNat (List.getD s.fst.fst (Int.toNat s.fst.snd.fst) (0 : UInt8))) :
 Int) !=
 (46 : Int) then
 if (0 : Int) ≤ s.fst.snd.fst ∧ s.fst.snd.fst < (↑(List.length s.fst.fst) : Int) then
 bif
 (↑(UInt8.toNat (List.getD s.fst.fst (Int.toNat s.fst.snd.fst) (0 : UInt8))) :
 Int) !=
 (95 : Int) then
 if
 (0 : Int) ≤ s.fst.snd.fst ∧
 s.fst.snd.fst < (↑(List.length s.fst.fst) : Int) then
 some
 ((s.fst.fst, s.fst.snd.fst,
 (↑(UInt8.toNat
 (List.getD s.fst.fst (Int.toNat s.fst.snd.fst) (0 : UInt8))) :
 Int) !=
 (45 : Int),
 ()),
 ())
 else none
 else some ((s.fst.fst, s.fst.snd.fst, false, ()), ())
 else none
 else some ((s.fst.fst, s.fst.snd.fst, false, ()), ())
 else none
 else some ((s.fst.fst, s.fst.snd.fst, false, ()), ())
 else some ((s.fst.fst, s.fst.snd.fst, false, ()), ())
 else some ((s.fst.fst, s.fst.snd.fst, false, ()), ()))
 fun (s : (List UInt8 × Int × Bool × Unit) × Unit) =>
 bif s.fst.snd.snd.fst then some (Sum.inr (false, ()))
 else k ((s.fst.fst, IntKind.wrap IntKind.i64 (s.fst.snd.fst + (1 : Int)), ()), ())
 else none
 else some (Sum.inl ((), ())))
 ((s.fst.fst, (0 : Int), ()), ()))
 fun (s : Unit × Unit) => some (true, ())
-- spec.l11Suffix
def m_spec_l11Suffix (a0 : List UInt8) : Option (Bool × Unit) :=
 Option.bind
 (bif a0 == nilOf UInt8 then some ((true, ()), ())
 else
 bif decide ((↑(List.length a0) : Int) ≤ (8 : Int)) then
 if List.length [(120 : UInt8)] + List.length a0 < (2 : Nat) ^ (63 : Nat) then
 Option.bind (m_spec_NameOk ([(120 : UInt8)] ++ a0)) fun (r : Bool × Unit) => some (r, ())
 else none
 else some ((false, ()), ()))
 fun (s : (Bool × Unit) × Unit) => some s.fst
-- spec.l02Names
def m_spec_l02Names (a0 : List UInt8) : Option (List (List UInt8) × Unit) :=
 Option.bind
 (loopC (List.length a0 + Int.toNat (0 : Int) + Int.toNat (0 : Int) + List.length (nilOf (List UInt8)) + (300 : Nat))
 (fun (s : (List UInt8 × Unit × Int × Int × Unit) × List (List UInt8) × Unit)
 (k :
 (List UInt8 × Unit × Int × Int × Unit) × List (List UInt8) × Unit →
 Option ((List UInt8 × Unit × Int × Unit) × List (List UInt8) × Unit)) =>
 bif decide (s.fst.snd.snd.snd.fst < (↑(List.length s.fst.fst) : Int)) then
 if (0 : Int) ≤ s.fst.snd.snd.snd.fst ∧ s.fst.snd.snd.snd.fst < (↑(List.length s.fst.fst) : Int) then
 Option.bind
 (bif
 (↑(UInt8.toNat (List.getD s.fst.fst (Int.toNat s.fst.snd.snd.snd.fst) (0 : UInt8))) : Int) ==
 (47 : Int) then
 if
 (0 : Int) ≤ s.fst.snd.snd.fst ∧
 s.fst.snd.snd.fst ≤ s.fst.snd.snd.snd.fst ∧
 s.fst.snd.snd.snd.fst ≤ (↑(List.length s.fst.fst) : Int) then
 if
 (List.length s.snd.fst +
 List.length
 [List.drop (Int.toNat s.fst.snd.snd.fst)
 (List.take (Int.toNat s.fst.snd.snd.snd.fst) s.fst.fst)]) *
 (16 : Nat) ≤
 (140737488355328 : Nat) then
 some
 ((s.fst.fst, (), IntKind.wrap IntKind.i64 (s.fst.snd.snd.snd.fst + (1 : Int)), s.fst.snd.snd.snd),
 s.snd.fst ++
 [List.drop (Int.toNat s.fst.snd.snd.fst)
 (List.take (Int.toNat s.fst.snd.snd.snd.fst) s.fst.fst)],
 ())
 else none
 else none
 else some ((s.fst.fst, (), s.fst.snd.snd), s.snd))
 fun (s : (List UInt8 × Unit × Int × Int × Unit) × List (List UInt8) × Unit) =>
 k
 ((s.fst.fst, (), s.fst.snd.snd.fst, IntKind.wrap IntKind.i64 (s.fst.snd.snd.snd.fst + (1 : Int)), ()),
 s.snd)
 else none
 else some ((s.fst.fst, (), s.fst.snd.snd.fst, ()), s.snd))
 ((a0, (), (0 : Int), (0 : Int), ()), nilOf (List UInt8), ()))
 fun (s : (List UInt8 × Unit × Int × Unit) × List (List UInt8) × Unit) =>
 if
 (0 : Int) ≤ s.fst.snd.snd.fst ∧
 s.fst.snd.snd.fst ≤ (↑(List.length s.fst.fst) : Int) ∧
 (↑(List.length s.fst.fst) : Int) ≤ (↑(List.length s.fst.fst) : Int) then
 if
 (List.length s.snd.fst +
 List.length
 [List.drop (Int.toNat s.fst.snd.snd.fst)
 (List.take (Int.toNat (↑(List.length s.fst.fst) : Int)) s.fst.fst)]) *
 (16 : Nat) ≤
 (140737488355328 : Nat) then
 some
 (s.snd.fst ++
 [List.drop (Int.toNat s.fst.snd.snd.fst)
 (List.take (Int.toNat (↑(List.length s.fst.fst) : Int)) s.fst.fst)],
 ())
 else none
 else none
-- spec.PathOk
def m_spec_PathOk (a0 : List UInt8) : Option (Bool × Unit) :=
 bif decide ((↑(List.length a0) : Int) > (200 : Int)) then some (false, ())
 else
 Option.bind (m_spec_l02Names a0) fun (r : List (List UInt8) × Unit) =>
 joinC
 (loopC (List.length r.fst + Int.toNat (0 : Int) + (300 : Nat))
 (fun (s : (List (List UInt8) × Int × Unit) × Unit)
 (k :
 (List (List UInt8) × Int × Unit) × Unit →
 Option ((List (List UInt8) × Unit) × Unit ⊕ Bool × Unit)) =>
 bif decide (s.fst.snd.fst < (↑(List.length s.fst.fst) : Int)) then
 if (0 : Int) ≤ s.fst.snd.fst ∧ s.fst.snd.fst < (↑(List.length s.fst.fst) : Int) then
 Option.bind (m_spec_NameOk (List.getD s.fst.fst (Int.toNat s.fst.snd.fst) (nilOf UInt8)))
 fun (r : Bool × Unit) =>
 bif !r.fst then some (Sum.inr (false, ()))
 else k ((s.fst.fst, IntKind.wrap IntKind.i64 (s.fst.snd.fst + (1 : Int)), ()), ())
 else none
 else some (Sum.inl ((s.fst.fst, ()), ())))
 ((r.fst, (0 : Int), ()), ()))
 fun (s : (List (List UInt8) × Unit) × Unit) =>
 some (decide ((↑(List.length s.fst.fst) : Int) ≤ (8 : Int)), ())
-- spec.OptsOk
def m_spec_OptsOk (a0 : (Bool × (Bool × (Bool × (Bool × (Bool × (Bool × (Bool × (Bool × (Bool × (Bool × (Bool × (Bool × (Bool × (Int × (Bool × (List UInt8 × List UInt8))))))))))))))))) : Option (Bool × Unit) :=
 Option.bind
 (Option.bind (m_spec_l01In a0.snd.snd.snd.snd.snd.snd.snd.snd.snd.snd.snd.snd.snd.fst (0 : Int) (3 : Int))
 fun (r : Bool × Unit) =>
 bif !r.fst then
 some
 (((), true, ()),
 (a0.fst, a0.snd.fst, a0.snd.snd.fst, a0.snd.snd.snd.fst, a0.snd.snd.snd.snd.fst, a0.snd.snd.snd.snd.snd.fst,
 a0.snd.snd.snd.snd.snd.snd.fst, a0.snd.snd.snd.snd.snd.snd.snd.fst,
 a0.snd.snd.snd.snd.snd.snd.snd.snd.fst, a0.snd.snd.snd.snd.snd.snd.snd.snd.snd.fst,
 a0.snd.snd.snd.snd.snd.snd.snd.snd.snd.snd.fst, a0.snd.snd.snd.snd.snd.snd.snd.snd.snd.snd.snd.fst,
 a0.snd.snd.snd.snd.snd.snd.snd.snd.snd.snd.snd.snd.fst,
 a0.snd.snd.snd.snd.snd.snd.snd.snd.snd.snd.snd.snd.snd.fst,
 a0.snd.snd.snd.snd.snd.snd.snd.snd.snd.snd.snd.snd.snd.snd.fst,
 a0.snd.snd.snd.snd.snd.snd.snd.snd.snd.snd.snd.snd.snd.snd.snd.fst,
 a0.snd.snd.snd.snd.snd.snd.snd.snd.snd.snd.snd.snd.snd.snd.snd.snd, ()),
 ())
 else
 bif a0.snd.snd.snd.snd.snd.snd.snd.snd.snd.snd.snd.snd.snd.fst != (0 : Int) then
 bif !a0.fst then
 some
 (((), true, ()),
 (a0.fst, a0.snd.fst, a0.snd.snd.fst, a0.snd.snd.snd.fst, a0.snd.snd.snd.snd.fst,
 a0.snd.snd.snd.snd.snd.fst, a0.snd.snd.snd.snd.snd.snd.fst, a0.snd.snd.snd.snd.snd.snd.snd.fst,
 a0.snd.snd.snd.snd.snd.snd.snd.snd.fst, a0.snd.snd.snd.snd.snd.snd.snd.snd.snd.fst,
 a0.snd.snd.snd.snd.snd.snd.snd.snd.snd.snd.fst, a0.snd.snd.snd.snd.snd.snd.snd.snd.snd.snd.snd.fst,
 a0.snd.snd.snd.snd.snd.snd.snd.snd.snd.snd.snd.snd.fst,
 a0.snd.snd.snd.snd.snd.snd.snd.snd.snd.snd.snd.snd.snd.fst,
 a0.snd.snd.snd.snd.snd.snd.snd.snd.snd.snd.snd.snd.snd.snd.fst,
 a0.snd.snd.snd.snd.snd.snd.snd.snd.snd.snd.snd.snd.snd.snd.snd.fst,
 a0.snd.snd.snd.snd.snd.snd.snd.snd.snd.snd.snd.snd.snd.snd.snd.snd, ()),
 ())
 else
 bif a0.snd.snd.snd.snd.snd.fst then
 some
 (((), a0.snd.snd.snd.snd.snd.snd.fst, ()),
 (a0.fst, a0.snd.fst, a0.snd.snd.fst, a0.snd.snd.snd.fst, a0.snd.snd.snd.snd.fst,
 a0.snd.snd.snd.snd.snd.fst, a0.snd.snd.snd.snd.snd.snd.fst, a0.snd.snd.snd.snd.snd.snd.snd.fst,
 a0.snd.snd.snd.snd.snd.snd.snd.snd.fst, a0.snd.snd.snd.snd.snd.snd.snd.snd.snd.fst,
 a0.snd.snd.snd.snd.snd.snd.snd.snd.snd.snd.fst, a0.snd.snd.snd.snd.snd.snd.snd.snd.snd.snd.snd.fst,
 a0.snd.snd.snd.snd.snd.snd.snd.snd.snd.snd.snd.snd.fst,
 a0.snd.snd.snd.snd.snd.snd.snd.snd.snd.snd.snd.snd.snd.fst,
 a0.snd.snd.snd.snd.snd.snd.snd.snd.snd.snd.snd.snd.snd.snd.fst,
 a0.snd.snd.snd.snd.snd.snd.snd.snd.snd.snd.snd.snd.snd.snd.snd.fst,
 a0.snd.snd.snd.snd.snd.snd.snd.snd.snd.snd.snd.snd.snd.snd.snd.snd, ()),
 ())
 else
 some
 (((), false, ()),
 (a0.fst, a0.snd.fst, a0.snd.snd.fst, a0.snd.snd.snd.fst, a0.snd.snd.snd.snd.fst,
 a0.snd.snd.snd.snd.snd.fst, a0.snd.snd.snd.snd.snd.snd.fst, a0.snd.snd.snd.snd.snd.snd.snd.fst,
 a0.snd.snd.snd.snd.snd.snd.snd.snd.fst, a0.snd.snd.snd.snd.snd.snd.snd.snd.snd.fst,
 a0.snd.snd.snd.snd.snd.snd.snd.snd.snd.snd.fst, a0.snd.snd.snd.snd.snd.snd.snd.snd.snd.snd.snd.fst,
 a0.snd.snd.snd.snd.snd.snd.snd.snd.snd.snd.snd.snd.fst,
 a0.snd.snd.snd.snd.snd.snd.snd.snd.snd.snd.snd.snd.snd.fst,
 a0.snd.snd.snd.snd.snd.snd.snd.snd.snd.snd.snd.snd.snd.snd.fst,
 a0.snd.snd.snd.snd.snd.snd.snd.snd.snd.snd.snd.snd.snd.snd.snd.fst,
 a0.snd.snd.snd.snd.snd.snd.snd.snd.snd.snd.snd.snd.snd.snd.snd.snd, ()),
 ())
 else
 bif a0.snd.snd.snd.snd.snd.fst then
 some
 (((), a0.snd.snd.snd.snd.snd.snd.fst, ()),
 (a0.fst, a0.snd.fst, a0.snd.snd.fst, a0.snd.snd.snd.fst, a0.snd.snd.snd.snd.fst,
 a0.snd.snd.snd.snd.snd.fst, a0.snd.snd.snd.snd.snd.snd.fst, a0.snd.snd.snd.snd.snd.snd.snd.fst,
 a0.snd.snd.snd.snd.snd.snd.snd.snd.fst, a0.snd.snd.snd.snd.snd.snd.snd.snd.snd.fst,
 a0.snd.snd.snd.snd.snd.snd.snd.snd.snd.snd.fst, a0.snd.snd.snd.snd.snd.snd.snd.snd.snd.snd.snd.fst,
 a0.snd.snd.snd.snd.snd.snd.snd.snd.snd.snd.snd.snd.fst,
 a0.snd.snd.snd.snd.snd.snd.snd.snd.snd.snd.snd.snd.snd.fst,
 a0.snd.snd.snd.snd.snd.snd.snd.snd.snd.snd.snd.snd.snd.snd.fst,
 a0.snd.snd.snd.snd.snd.snd.snd.snd.snd.snd.snd.snd.snd.snd.snd.fst,
 a0.snd.snd.snd.snd.snd.snd.snd.snd.snd.snd.snd.snd.snd.snd.snd.snd, ()),
 ())
 else
 some
 (((), false, ()),
 (a0.fst, a0.snd.fst, a0.snd.snd.fst, a0.snd.snd.snd.fst, a0.snd.snd.snd.snd.fst,
 a0.snd.snd.snd.snd.snd.fst, a0.snd.snd.snd.snd.snd.snd.fst, a0.snd.snd.snd.snd.snd.snd.snd.fst,
 a0.snd.snd.snd.snd.snd.snd.snd.snd.fst, a0.snd.snd.snd.snd.snd.snd.snd.snd.snd.fst,
 a0.snd.snd.snd.snd.snd.snd.snd.snd.snd.snd.fst, a0.snd.snd.snd.snd.snd.snd.snd.snd.snd.snd.snd.fst,
 a0.snd.snd.snd.snd.snd.snd.snd.snd.snd.snd.snd.snd.fst,
 a0.snd.snd.snd.snd.snd.snd.snd.snd.snd.snd.snd.snd.snd.fst,
 a0.snd.snd.snd.snd.snd.snd.snd.snd.snd.snd.snd.snd.snd.snd.fst,
 a0.snd.snd.snd.snd.snd.snd.snd.snd.snd.snd.snd.snd.snd.snd.snd.fst,
 a0.snd.snd.snd.snd.snd.snd.snd.snd.snd.snd.snd.snd.snd.snd.snd.snd, ()),
 ()))
 fun
 (s :
 (Unit × Bool × Unit) ×
 (Bool ×
 Bool ×
 Bool ×
 Bool ×
 Bool ×
 Bool ×
 Bool × Bool × Bool × Bool × Bool × Bool × Bool × Int × Bool × List UInt8 × List UInt8 × Unit) ×
 Unit) =>
 bif s.fst.snd.fst then some (false, ())
 else
 bif !s.snd.fst.snd.snd.snd.snd.snd.snd.snd.snd.snd.snd.snd.snd.snd.snd.fst then
 Option.bind
 (bif s.snd.fst.snd.snd.snd.snd.snd.snd.snd.snd.snd.snd.snd.snd.snd.snd.snd.fst == nilOf UInt8 then
 some
 ((s.snd.fst.snd.snd.snd.snd.snd.snd.snd.snd.snd.snd.snd.snd.snd.snd.snd.snd.fst == nilOf UInt8, ()), ())
 else some ((false, ()), ()))
 fun (s : (Bool × Unit) × Unit) => some s.fst
 else
 Option.bind
 (Option.bind (m_spec_l11Suffix s.snd.fst.snd.snd.snd.snd.snd.snd.snd.snd.snd.snd.snd.snd.snd.snd.snd.fst)
 fun (r : Bool × Unit) =>
 bif r.fst then
 bif s.snd.fst.snd.snd.snd.snd.snd.snd.snd.snd.snd.snd.snd.snd.snd.snd.snd.snd.fst == nilOf UInt8 then
 if
 List.length s.snd.fst.snd.snd.snd.snd.snd.snd.snd.snd.snd.snd.snd.snd.snd.snd.snd.fst +
 List.length s.snd.fst.snd.snd.snd.snd.snd.snd.snd.snd.snd.snd.snd.snd.snd.snd.snd.snd.fst <
 (2 : Nat) ^ (63 : Nat) then
 some
 ((!s.snd.fst.snd.snd.snd.snd.snd.snd.snd.snd.snd.snd.snd.snd.snd.snd.snd.fst ++
 s.snd.fst.snd.snd.snd.snd.snd.snd.snd.snd.snd.snd.snd.snd.snd.snd.snd.snd.fst ==
 nilOf UInt8,
 ()),
 ())
 else none
 else
 Option.bind
 (m_spec_PathOk s.snd.fst.snd.snd.snd.snd.snd.snd.snd.snd.snd.snd.snd.snd.snd.snd.snd.snd.fst)
 fun (r : Bool × Unit) =>
 bif r.fst then
 if
 List.length s.snd.fst.snd.snd.snd.snd.snd.snd.snd.snd.snd.snd.snd.snd.snd.snd.snd.fst +
 List.length s.snd.fst.snd.snd.snd.snd.snd.snd.snd.snd.snd.snd.snd.snd.snd.snd.snd.snd.fst <
 (2 : Nat) ^ (63 : Nat) then
 some
 ((!s.snd.fst.snd.snd.snd.snd.snd.snd.snd.snd.snd.snd.snd.snd.snd.snd.snd.fst ++
 s.snd.fst.snd.snd.snd.snd.snd.snd.snd.snd.snd.snd.snd.snd.snd.snd.snd.snd.fst ==
 nilOf UInt8,
 ()),
 ())
 else none
 else some ((false, ()), ())
 else some ((false, ()), ()))
 fun (s : (Bool × Unit) × Unit) => some s.fst
-- spec.ShowOpts
def m_spec_ShowOpts (a0 : (Bool × (Bool × (Bool × (Bool × (Bool × (Bool × (Bool × (Bool × (Bool × (Bool × (Bool × (Bool × (Bool × (Int × (Bool × (List UInt8 × List UInt8))))))))))))))))) : Option (List UInt8 × Unit) :=
 Option.bind (m_spec_OptsOk a0) fun (r : Bool × Unit) =>
 bif !r.fst then some (nilOf UInt8, ())
 else
 Option.bind
 (bif a0.fst then
 bif a0.snd.fst then
 bif a0.snd.snd.fst then
 some
 (((), nilOf UInt8, (), a0.snd.snd.snd.fst, ()),
 (a0.fst, a0.snd.fst, a0.snd.snd.fst, a0.snd.snd.snd.fst, a0.snd.snd.snd.snd.fst,
 a0.snd.snd.snd.snd.snd.fst, a0.snd.snd.snd.snd.snd.snd.fst, a0.snd.snd.snd.snd.snd.snd.snd.fst,
 a0.snd.snd.snd.snd.snd.snd.snd.snd.fst, a0.snd.snd.snd.snd.snd.snd.snd.snd.snd.fst,
 a0.snd.snd.snd.snd.snd.snd.snd.snd.snd.snd.fst, a0.snd.snd.snd.snd.snd.snd.snd.snd.snd.snd.snd.fst,
 a0.snd.snd.snd.snd.snd.snd.snd.snd.snd.snd.snd.snd.fst,
 a0.snd.snd.snd.snd.snd.snd.snd.snd.snd.snd.snd.snd.snd.fst,
 a0.snd.snd.snd.snd.snd.snd.snd.snd.snd.snd.snd.snd.snd.snd.fst,
 a0.snd.snd.snd.snd.snd.snd.snd.snd.snd.snd.snd.snd.snd.snd.snd.fst,
 a0.snd.snd.snd.snd.snd.snd.snd.snd.snd.snd.snd.snd.snd.snd.snd.snd, ()),
 [a0.fst, a0.snd.fst, a0.snd.snd.fst, a0.snd.snd.snd.fst, a0.snd.snd.snd.snd.fst,
 a0.snd.snd.snd.snd.snd.fst, a0.snd.snd.snd.snd.snd.snd.snd.fst,
 a0.snd.snd.snd.snd.snd.snd.snd.snd.fst, a0.snd.snd.snd.snd.snd.snd.snd.snd.snd.fst,
 a0.snd.snd.snd.snd.snd.snd.snd.snd.snd.snd.snd.snd.fst,
 a0.snd.snd.snd.snd.snd.snd.snd.snd.snd.snd.snd.snd.snd.snd.fst],
 ())
 else
 some
 (((), nilOf UInt8, (), false, ()),
 (a0.fst, a0.snd.fst, a0.snd.snd.fst, a0.snd.snd.snd.fst, a0.snd.snd.snd.snd.fst,
 a0.snd.snd.snd.snd.snd.fst, a0.snd.snd.snd.snd.snd.snd.fst, a0.snd.snd.snd.snd.snd.snd.snd.fst,
 a0.snd.snd.snd.snd.snd.snd.snd.snd.fst, a0.snd.snd.snd.snd.snd.snd.snd.snd.snd.fst,
 a0.snd.snd.snd.snd.snd.snd.snd.snd.snd.snd.fst, a0.snd.snd.snd.snd.snd.snd.snd.snd.snd.snd.snd.fst,
 a0.snd.snd.snd.snd.snd.snd.snd.snd.snd.snd.snd.snd.fst,
 a0.snd.snd.snd.snd.snd.snd.snd.snd.snd.snd.snd.snd.snd.fst,
 a0.snd.snd.snd.snd.snd.snd.snd.snd.snd.snd.snd.snd.snd.snd.fst,
 a0.snd.snd.snd.snd.snd.snd.snd.snd.snd.snd.snd.snd.snd.snd.snd.fst,
 a0.snd.snd.snd.snd.snd.snd.snd.snd.snd.snd.snd.snd.snd.snd.snd.snd, ()),
 [a0.fst, a0.snd.fst, a0.snd.snd.fst, a0.snd.snd.snd.fst, a0.snd.snd.snd.snd.fst,
 a0.snd.snd.snd.snd.snd.fst, a0.snd.snd.snd.snd.snd.snd.snd.fst,
 a0.snd.snd.snd.snd.snd.snd.snd.snd.fst, a0.snd.snd.snd.snd.snd.snd.snd.snd.snd.fst,
 a0.snd.snd.snd.snd.snd.snd.snd.snd.snd.snd.snd.snd.fst,
 a0.snd.snd.snd.snd.snd.snd.snd.snd.snd.snd.snd.snd.snd.snd.fst],
 ())
 else
 some
 (((), nilOf UInt8, (), false, ()),
 (a0.fst, a0.snd.fst, a0.snd.snd.fst, a0.snd.snd.snd.fst, a0.snd.snd.snd.snd.fst,
 a0.snd.snd.snd.snd.snd.fst, a0.snd.snd.snd.snd.snd.snd.fst, a0.snd.snd.snd.snd.snd.snd.snd.fst,
 a0.snd.snd.snd.snd.snd.snd.snd.snd.fst, a0.snd.snd.snd.snd.snd.snd.snd.snd.snd.fst,
 a0.snd.snd.snd.snd.snd.snd.snd.snd.snd.snd.fst, a0.snd.snd.snd.snd.snd.snd.snd.snd.snd.snd.snd.fst,
 a0.snd.snd.snd.snd.snd.snd.snd.snd.snd.snd.snd.snd.fst,
 a0.snd.snd.snd.snd.snd.snd.snd.snd.snd.snd.snd.snd.snd.fst,
 a0.snd.snd.snd.snd.snd.snd.snd.snd.snd.snd.snd.snd.snd.snd.fst,
 a0.snd.snd.snd.snd.snd.snd.snd.snd.snd.snd.snd.snd.snd.snd.snd.fst,
 a0.snd.snd.snd.snd.snd.snd.snd.snd.snd.snd.snd.snd.snd.snd.snd.snd, ()),
 [a0.fst, a0.snd.fst, a0.snd.snd.fst, a0.snd.snd.snd.fst, a0.snd.snd.snd.snd.fst,
 a0.snd.snd.snd.snd.snd.fst, a0.snd.snd.snd.snd.snd.snd.snd.fst,
 a0.snd.snd.snd.snd.snd.snd.snd.snd.fst, a0.snd.snd.snd.snd.snd.snd.snd.snd.snd.fst,
 a0.snd.snd.snd.snd.snd.snd.snd.snd.snd.snd.snd.snd.fst,
 a0.snd.snd.snd.snd.snd.snd.snd.snd.snd.snd.snd.snd.snd.snd.fst],
 ())
 else
 some
 (((), nilOf UInt8, (), false, ()),
 (a0.fst, a0.snd.fst, a0.snd.snd.fst, a0.snd.snd.snd.fst, a0.snd.snd.snd.snd.fst,
 a0.snd.snd.snd.snd.snd.fst, a0.snd.snd.snd.snd.snd.snd.fst, a0.snd.snd.snd.snd.snd.snd.snd.fst,
 a0.snd.snd.snd.snd.snd.snd.snd.snd.fst, a0.snd.snd.snd.snd.snd.snd.snd.snd.snd.fst,
 a0.snd.snd.snd.snd.snd.snd.snd.snd.snd.snd.fst, a0.snd.snd.snd.snd.snd.snd.snd.snd.snd.snd.snd.fst,
 a0.snd.snd.snd.snd.snd.snd.snd.snd.snd.snd.snd.snd.fst,
 a0.snd.snd.snd.snd.snd.snd.snd.snd.snd.snd.snd.snd.snd.fst,
 a0.snd.snd.snd.snd.snd.snd.snd.snd.snd.snd.snd.snd.snd.snd.fst,
 a0.snd.snd.snd.snd.snd.snd.snd.snd.snd.snd.snd.snd.snd.snd.snd.fst,
 a0.snd.snd.snd.snd.snd.snd.snd.snd.snd.snd.snd.snd.snd.snd.snd.snd, ()),
 [a0.fst, a0.snd.fst, a0.snd.snd.fst, a0.snd.snd.snd.fst, a0.snd.snd.snd.snd.fst,
 a0.snd.snd.snd.snd.snd.fst, a0.snd.snd.snd.snd.snd.snd.snd.fst, a0.snd.snd.snd.snd.snd.snd.snd.snd.fst,
 a0.snd.snd.snd.snd.snd.snd.snd.snd.snd.fst, a0.snd.snd.snd.snd.snd.snd.snd.snd.snd.snd.snd.snd.fst,
 a0.snd.snd.snd.snd.snd.snd.snd.snd.snd.snd.snd.snd.snd.snd.fst],
 ()))
 fun
 (s :
 (Unit × List UInt8 × Unit × Bool × Unit) ×
 (Bool ×
 Bool ×
 Bool ×
 Bool ×
 Bool ×
 Bool ×
 Bool ×
 Bool × Bool × Bool × Bool × Bool × Bool × Int × Bool × List UInt8 × List UInt8 × Unit) ×
 List Bool × Unit) =>
 Option.bind
 (bif s.fst.snd.snd.snd.fst then some (((), [(97 : UInt8)], (), s.fst.snd.snd.snd), s.snd)
 else some (((), s.fst.snd.fst, (), s.fst.snd.snd.snd), s.snd))
 fun
 (s :
 (Unit × List UInt8 × Unit × Bool × Unit) ×
 (Bool ×
 Bool ×
 Bool ×
 Bool ×
 Bool ×
 Bool ×
 Bool ×
 Bool ×
 Bool × Bool × Bool × Bool × Bool × Int × Bool × List UInt8 × List UInt8 × Unit) ×
 List Bool × Unit) =>
 Option.bind
 (loopC
 (List.length s.fst.snd.fst + Int.toNat (0 : Int) +
 Int.toNat s.snd.fst.snd.snd.snd.snd.snd.snd.snd.snd.snd.snd.snd.snd.snd.fst +
 List.length s.snd.fst.snd.snd.snd.snd.snd.snd.snd.snd.snd.snd.snd.snd.snd.snd.snd.fst +
 List.length s.snd.fst.snd.snd.snd.snd.snd.snd.snd.snd.snd.snd.snd.snd.snd.snd.snd.snd.fst +
 List.length s.snd.snd.fst +
 (300 : Nat))
 (fun
 (s :
 (Unit × List UInt8 × Unit × Bool × Int × Unit) ×
 (Bool ×
 Bool ×
 Bool ×
 Bool ×
 Bool ×
 Bool ×
 Bool ×
 Bool ×
 Bool ×
 Bool × Bool × Bool × Bool × Int × Bool × List UInt8 × List UInt8 × Unit) ×
 List Bool × Unit)
 (k :
 (Unit × List UInt8 × Unit × Bool × Int × Unit) ×
 (Bool ×
 Bool ×
 Bool ×
 Bool ×
 Bool ×
 Bool ×
 Bool ×
 Bool ×
 Bool ×
 Bool × Bool × Bool × Bool × Int × Bool × List UInt8 × List UInt8 × Unit) ×
 List Bool × Unit →
 Option
 ((Unit × List UInt8 × Unit) ×
 (Bool ×
 Bool ×
 Bool ×
 Bool ×
 Bool ×
 Bool ×
 Bool ×
 Bool ×
 Bool ×
 Bool ×
 Bool × Bool × Bool × Int × Bool × List UInt8 × List UInt8 × Unit) ×
 Unit)) =>
 bif decide (s.fst.snd.snd.snd.snd.fst < (↑(List.length s.snd.snd.fst) : Int)) then
 Option.bind
 (if
 (0 : Int) ≤ s.fst.snd.snd.snd.snd.fst ∧
 s.fst.snd.snd.snd.snd.fst < (↑(List.length s.snd.snd.fst) : Int) then
 if Int.toNat s.fst.snd.snd.snd.snd.fst < List.length s.snd.snd.fst then
 bif List.getD s.snd.snd.fst (Int.toNat s.fst.snd.snd.snd.snd.fst) false then
 bif decide (s.fst.snd.snd.snd.snd.fst ≥ (4 : Int)) then
 some
 (((), s.fst.snd.fst, (), s.fst.snd.snd.snd.fst, s.fst.snd.snd.snd.snd.fst, true, ()),
 s.snd)
 else
 some
 (((), s.fst.snd.fst, (), s.fst.snd.snd.snd.fst, s.fst.snd.snd.snd.snd.fst,
 !s.fst.snd.snd.snd.fst, ()),
 s.snd)
 else
 some
 (((), s.fst.snd.fst, (), s.fst.snd.snd.snd.fst, s.fst.snd.snd.snd.snd.fst, false, ()),
 s.snd)
 else none
 else none)
 fun
 (s :
 (Unit × List UInt8 × Unit × Bool × Int × Bool × Unit) ×
 (Bool ×
 Bool ×
 Bool ×
 Bool ×
 Bool ×
 Bool ×
 Bool ×
 Bool ×
 Bool ×
 Bool ×
 Bool × Bool × Bool × Int × Bool × List UInt8 × List UInt8 × Unit) ×
 List Bool × Unit) =>
 Option.bind
 (bif s.fst.snd.snd.snd.snd.snd.fst then
 if
 (0 : Int) ≤ s.fst.snd.snd.snd.snd.fst ∧
 s.fst.snd.snd.snd.snd.fst ≤
 IntKind.wrap IntKind.i64 (s.fst.snd.snd.snd.snd.fst + (1 : Int)) ∧
 IntKind.wrap IntKind.i64 (s.fst.snd.snd.snd.snd.fst + (1 : Int)) ≤
 (↑(List.length
 [(114 : UInt8), (108 : UInt8), (112 : UInt8), (116 : UInt8), (72 : UInt8),
 (99 : UInt8), (110 : UInt8), (87 : UInt8), (117 : UInt8), (121 : UInt8),
 (98 : UInt8)]) :
 Int) then
 if
 List.length s.fst.snd.fst +
 List.length
 (List.drop (Int.toNat s.fst.snd.snd.snd.snd.fst)
 (List.take
 (Int.toNat (IntKind.wrap IntKind.i64 (s.fst.snd.snd.snd.snd.fst + (1 : Int))))
 [(114 : UInt8), (108 : UInt8), (112 : UInt8), (116 : UInt8), (72 : UInt8),
 (99 : UInt8), (110 : UInt8), (87 : UInt8), (117 : UInt8), (121 : UInt8),
 (98 : UInt8)])) <
 (2 : Nat) ^ (63 : Nat) then
 some
 (((),
 s.fst.snd.fst ++
 List.drop (Int.toNat s.fst.snd.snd.snd.snd.fst)
 (List.take
 (Int.toNat (IntKind.wrap IntKind.i64 (s.fst.snd.snd.snd.snd.fst + (1 : Int))))
 [(114 : UInt8), (108 : UInt8), (112 : UInt8), (116 : UInt8), (72 : UInt8),
 (99 : UInt8), (110 : UInt8), (87 : UInt8), (117 : UInt8), (121 : UInt8),
 (98 : UInt8)]),
 (), s.fst.snd.snd.snd.fst, s.fst.snd.snd.snd.snd.fst, ()),
 s.snd)
 else none
 else none
 else some (((), s.fst.snd.fst, (), s.fst.snd.snd.snd.fst, s.fst.snd.snd.snd.snd.fst, ()), s.snd))
 fun
 (s :
 (Unit × List UInt8 × Unit × Bool × Int × Unit) ×
 (Bool ×
 Bool ×
 Bool ×
 Bool ×
 Bool ×
 Bool ×
 Bool ×
 Bool ×
 Bool ×
 Bool ×
 Bool × Bool × Bool × Int × Bool × List UInt8 × List UInt8 × Unit) ×
 List Bool × Unit) =>
 k
 (((), s.fst.snd.fst, (), s.fst.snd.snd.snd.fst,
 IntKind.wrap IntKind.i64 (s.fst.snd.snd.snd.snd.fst + (1 : Int)), ()),
 s.snd)
 else some (((), s.fst.snd.fst, ()), s.snd.fst, ()))
 (((), s.fst.snd.fst, (), s.fst.snd.snd.snd.fst, (0 : Int), ()), s.snd))
 fun
 (s :
 (Unit × List UInt8 × Unit) ×
 (Bool ×
 Bool ×
 Bool ×
 Bool ×
 Bool ×
 Bool ×
 Bool ×
 Bool ×
 Bool × Bool × Bool × Bool × Bool × Int × Bool × List UInt8 × List UInt8 × Unit) ×
 Unit) =>
 Option.bind
 (bif !s.fst.snd.fst == nilOf UInt8 then
 if List.length [(45 : UInt8)] + List.length s.fst.snd.fst < (2 : Nat) ^ (63 : Nat) then
 if
 (List.length (nilOf (List UInt8)) + List.length [[(45 : UInt8)] ++ s.fst.snd.fst]) * (16 : Nat) ≤
 (140737488355328 : Nat) then
 some (((), (), ()), s.snd.fst, nilOf (List UInt8) ++ [[(45 : UInt8)] ++ s.fst.snd.fst], ())
 else none
 else none
 else some (((), (), ()), s.snd.fst, nilOf (List UInt8), ()))
 fun
 (s :
 (Unit × Unit × Unit) ×
 (Bool ×
 Bool ×
 Bool ×
 Bool ×
 Bool ×
 Bool ×
 Bool ×
 Bool ×
 Bool × Bool × Bool × Bool × Bool × Int × Bool × List UInt8 × List UInt8 × Unit) ×
 List (List UInt8) × Unit) =>
 Option.bind
 (bif s.snd.fst.snd.snd.snd.snd.snd.snd.fst then
 if
 (List.length s.snd.snd.fst +
 List.length
 [[(45 : UInt8), (45 : UInt8), (115 : UInt8), (105 : UInt8), (122 : UInt8), (101 : UInt8),
 (45 : UInt8), (111 : UInt8), (110 : UInt8), (108 : UInt8), (121 : UInt8)]]) *
 (16 : Nat) ≤
 (140737488355328 : Nat) then
 some
 (((), (), ()), s.snd.fst,
 s.snd.snd.fst ++
 [[(45 : UInt8), (45 : UInt8), (115 : UInt8), (105 : UInt8), (122 : UInt8), (101 : UInt8),
 (45 : UInt8), (111 : UInt8), (110 : UInt8), (108 : UInt8), (121 : UInt8)]],
 ())
 else none
 else some (((), (), ()), s.snd))
 fun
 (s :
 (Unit × Unit × Unit) ×
 (Bool ×
 Bool ×
 Bool ×
 Bool ×
 Bool ×
 Bool ×
 Bool ×
 Bool ×
 Bool ×
 Bool × Bool × Bool × Bool × Int × Bool × List UInt8 × List UInt8 × Unit) ×
 List (List UInt8) × Unit) =>
 Option.bind
 (bif s.snd.fst.snd.snd.snd.snd.snd.snd.snd.snd.snd.snd.fst then
 if
 (List.length s.snd.snd.fst +
 List.length
 [[(45 : UInt8), (45 : UInt8), (101 : UInt8), (120 : UInt8), (105 : UInt8),
 (115 : UInt8), (116 : UInt8), (105 : UInt8), (110 : UInt8), (103 : UInt8)]]) *
 (16 : Nat) ≤
 (140737488355328 : Nat) then
 some
 (((), (), ()), s.snd.fst,
 s.snd.snd.fst ++
 [[(45 : UInt8), (45 : UInt8), (101 : UInt8), (120 : UInt8), (105 : UInt8), (115 : UInt8),
 (116 : UInt8), (105 : UInt8), (110 : UInt8), (103 : UInt8)]],
 ())
 else none
 else some (((), (), ()), s.snd))
 fun
 (s :
 (Unit × Unit × Unit) ×
 (Bool ×
 Bool ×
 Bool ×
 Bool ×
 Bool ×
 Bool ×
 Bool ×
 Bool ×
 Bool ×
 Bool × Bool × Bool × Bool × Int × Bool × List UInt8 × List UInt8 × Unit) ×
 List (List UInt8) × Unit) =>
 Option.bind
 (bif s.snd.fst.snd.snd.snd.snd.snd.snd.snd.snd.snd.snd.snd.fst then
 if
 (List.length s.snd.snd.fst +
 List.length
 [[(45 : UInt8), (45 : UInt8), (105 : UInt8), (103 : UInt8), (110 : UInt8),
 (111 : UInt8), (114 : UInt8), (101 : UInt8), (45 : UInt8), (101 : UInt8),
 (120 : UInt8), (105 : UInt8), (115 : UInt8), (116 : UInt8), (105 : UInt8),
 (110 : UInt8), (103 : UInt8)]]) *
 (16 : Nat) ≤
 (140737488355328 : Nat) then
 some
 (((), (), ()), s.snd.fst,
 s.snd.snd.fst ++
 [[(45 : UInt8), (45 : UInt8), (105 : UInt8), (103 : UInt8), (110 : UInt8), (111 : UInt8),
 (114 : UInt8), (101 : UInt8), (45 : UInt8), (101 : UInt8), (120 : UInt8),
 (105 : UInt8), (115 : UInt8), (116 : UInt8), (105 : UInt8), (110 : UInt8),
 (103 : UInt8)]],
 ())
 else none
 else some (((), (), ()), s.snd))
 fun
 (s :
 (Unit × Unit × Unit) ×
 (Bool ×
 Bool ×
 Bool ×
 Bool ×
 Bool ×
 Bool ×
 Bool ×
 Bool ×
 Bool ×
 Bool ×
 Bool × Bool × Bool × Int × Bool × List UInt8 × List UInt8 × Unit) ×
 List (List UInt8) × Unit) =>
 Option.bind
 (bif s.snd.fst.snd.snd.snd.snd.snd.snd.snd.snd.snd.snd.snd.snd.snd.fst == (2 : Int) then
 if
 (List.length s.snd.snd.fst +
 List.length
 [[(45 : UInt8), (45 : UInt8), (100 : UInt8), (101 : UInt8), (108 : UInt8),
 (101 : UInt8), (116 : UInt8), (101 : UInt8)]]) *
 (16 : Nat) ≤
 (140737488355328 : Nat) then
 some
 (((), (), ()), s.snd.fst,
 s.snd.snd.fst ++
 [[(45 : UInt8), (45 : UInt8), (100 : UInt8), (101 : UInt8), (108 : UInt8),
 (101 : UInt8), (116 : UInt8), (101 : UInt8)]],
 ())
 else none
 else
 Option.bind
 (bif s.snd.fst.snd.snd.snd.snd.snd.snd.snd.snd.snd.snd.snd.snd.snd.fst == (1 : Int) then
 if
 (List.length s.snd.snd.fst +
 List.length
 [[(45 : UInt8), (45 : UInt8), (100 : UInt8), (101 : UInt8), (108 : UInt8),
 (101 : UInt8), (116 : UInt8), (101 : UInt8), (45 : UInt8), (98 : UInt8),
 (101 : UInt8), (102 : UInt8), (111 : UInt8), (114 : UInt8),
 (101 : UInt8)]]) *
 (16 : Nat) ≤
 (140737488355328 : Nat) then
 some
 (((), (), ()), s.snd.fst,
 s.snd.snd.fst ++
 [[(45 : UInt8), (45 : UInt8), (100 : UInt8), (101 : UInt8), (108 : UInt8),
 (101 : UInt8), (116 : UInt8), (101 : UInt8), (45 : UInt8), (98 : UInt8),
 (101 : UInt8), (102 : UInt8), (111 : UInt8), (114 : UInt8), (101 : UInt8)]],
 ())
 else none
 else
 Option.bind
 (bif s.snd.fst.snd.snd.snd.snd.snd.snd.snd.snd.snd.snd.snd.snd.snd.fst == (3 : Int) then
 if
 (List.length s.snd.snd.fst +
 List.length
 [[(45 : UInt8), (45 : UInt8), (100 : UInt8), (101 : UInt8), (108 : UInt8),
 (101 : UInt8), (116 : UInt8), (101 : UInt8), (45 : UInt8), (97 : UInt8),
 (102 : UInt8), (116 : UInt8), (101 : UInt8), (114 : UInt8)]]) *
 (16 : Nat) ≤
 (140737488355328 : Nat) then
 some
 (((), (), ()), s.snd.fst,
 s.snd.snd.fst ++
 [[(45 : UInt8), (45 : UInt8), (100 : UInt8), (101 : UInt8), (108 : UInt8),
 (101 : UInt8), (116 : UInt8), (101 : UInt8), (45 : UInt8), (97 : UInt8),
 (102 : UInt8), (116 : UInt8), (101 : UInt8), (114 : UInt8)]],
 ())
 else none
 else some (((), (), ()), s.snd))
 fun
 (s :
 (Unit × Unit × Unit) ×
 (Bool ×
 Bool ×
 Bool ×
 Bool ×
 Bool ×
 Bool ×
 Bool ×
 Bool ×
 Bool ×
 Bool ×
 Bool ×
 Bool ×
 Bool × Int × Bool × List UInt8 × List UInt8 × Unit) ×
 List (List UInt8) × Unit) =>
 some (((), (), ()), s.snd))
 fun
 (s :
 (Unit × Unit × Unit) ×
 (Bool ×
 Bool ×
 Bool ×
 Bool ×
 Bool ×
 Bool ×
 Bool ×
 Bool ×
 Bool ×
 Bool ×
 Bool ×
 Bool × Bool × Int × Bool × List UInt8 × List UInt8 × Unit) ×
 List (List UInt8) × Unit) =>
 some (((), (), ()), s.snd))
 fun
 (s :
 (Unit × Unit × Unit) ×
 (Bool ×
 Bool ×
 Bool ×
 Bool ×
 Bool ×
 Bool ×
 Bool ×
 Bool ×
 Bool ×
 Bool ×
 Bool × Bool × Bool × Int × Bool × List UInt8 × List UInt8 × Unit) ×
 List (List UInt8) × Unit) =>
 Option.bind
 (bif
 !s.snd.fst.snd.snd.snd.snd.snd.snd.snd.snd.snd.snd.snd.snd.snd.snd.snd.fst ==
 nilOf UInt8 then
 bif
 !s.snd.fst.snd.snd.snd.snd.snd.snd.snd.snd.snd.snd.snd.snd.snd.snd.snd.fst ==
 [(46 : UInt8), (98 : UInt8), (97 : UInt8), (107 : UInt8)] then
 some (((), (), true, ()), s.snd)
 else
 some
 (((), (),
 !s.snd.fst.snd.snd.snd.snd.snd.snd.snd.snd.snd.snd.snd.snd.snd.snd.snd.snd.fst ==
 nilOf UInt8,
 ()),
 s.snd)
 else some (((), (), false, ()), s.snd))
 fun
 (s :
 (Unit × Unit × Bool × Unit) ×
 (Bool ×
 Bool ×
 Bool ×
 Bool ×
 Bool ×
 Bool ×
 Bool ×
 Bool ×
 Bool ×
 Bool ×
 Bool × Bool × Bool × Int × Bool × List UInt8 × List UInt8 × Unit) ×
 List (List UInt8) × Unit) =>
 Option.bind
 (bif s.fst.snd.snd.fst then
 if
 List.length
 [(45 : UInt8), (45 : UInt8), (115 : UInt8), (117 : UInt8), (102 : UInt8),
 (102 : UInt8), (105 : UInt8), (120 : UInt8), (61 : UInt8)] +
 List.length
 s.snd.fst.snd.snd.snd.snd.snd.snd.snd.snd.snd.snd.snd.snd.snd.snd.snd.fst <
 (2 : Nat) ^ (63 : Nat) then
 if
 (List.length s.snd.snd.fst +
 List.length
 [[(45 : UInt8), (45 : UInt8), (115 : UInt8), (117 : UInt8), (102 : UInt8),
 (102 : UInt8), (105 : UInt8), (120 : UInt8), (61 : UInt8)] ++
 s.snd.fst.snd.snd.snd.snd.snd.snd.snd.snd.snd.snd.snd.snd.snd.snd.snd.fst]) *
 (16 : Nat) ≤
 (140737488355328 : Nat) then
 some
 (((), (), ()), s.snd.fst,
 s.snd.snd.fst ++
 [[(45 : UInt8), (45 : UInt8), (115 : UInt8), (117 : UInt8), (102 : UInt8),
 (102 : UInt8), (105 : UInt8), (120 : UInt8), (61 : UInt8)] ++
 s.snd.fst.snd.snd.snd.snd.snd.snd.snd.snd.snd.snd.snd.snd.snd.snd.snd.fst],
 ())
 else none
 else none
 else some (((), (), ()), s.snd))
 fun
 (s :
 (Unit × Unit × Unit) ×
 (Bool ×
 Bool ×
 Bool ×
 Bool ×
 Bool ×
 Bool ×
 Bool ×
 Bool ×
 Bool ×
 Bool ×
 Bool ×
 Bool × Bool × Int × Bool × List UInt8 × List UInt8 × Unit) ×
 List (List UInt8) × Unit) =>
 Option.bind
 (bif
 !s.snd.fst.snd.snd.snd.snd.snd.snd.snd.snd.snd.snd.snd.snd.snd.snd.snd.snd.fst ==
 nilOf UInt8 then
 if
 List.length
 [(45 : UInt8), (45 : UInt8), (98 : UInt8), (97 : UInt8), (99 : UInt8),
 (107 : UInt8), (117 : UInt8), (112 : UInt8), (45 : UInt8), (100 : UInt8),
 (105 : UInt8), (114 : UInt8), (61 : UInt8)] +
 List.length
 s.snd.fst.snd.snd.snd.snd.snd.snd.snd.snd.snd.snd.snd.snd.snd.snd.snd.snd.fst <
 (2 : Nat) ^ (63 : Nat) then
 if
 (List.length s.snd.snd.fst +
 List.length
 [[(45 : UInt8), (45 : UInt8), (98 : UInt8), (97 : UInt8), (99 : UInt8),
 (107 : UInt8), (117 : UInt8), (112 : UInt8), (45 : UInt8),
 (100 : UInt8), (105 : UInt8), (114 : UInt8), (61 : UInt8)] ++
 s.snd.fst.snd.snd.snd.snd.snd.snd.snd.snd.snd.snd.snd.snd.snd.snd.snd.snd.fst]) *
 (16 : Nat) ≤
 (140737488355328 : Nat) then
 some
 (((), ()),
 s.snd.snd.fst ++
 [[(45 : UInt8), (45 : UInt8), (98 : UInt8), (97 : UInt8), (99 : UInt8),
 (107 : UInt8), (117 : UInt8), (112 : UInt8), (45 : UInt8), (100 : UInt8),
 (105 : UInt8), (114 : UInt8), (61 : UInt8)] ++
 s.snd.fst.snd.snd.snd.snd.snd.snd.snd.snd.snd.snd.snd.snd.snd.snd.snd.snd.fst],
 ())
 else none
 else none
 else some (((), ()), s.snd.snd))
 fun (s : (Unit × Unit) × List (List UInt8) × Unit) =>
 Option.bind
 (loopC
 (List.length (nilOf UInt8) + Int.toNat (0 : Int) + List.length s.snd.fst + (300 : Nat))
 (fun (s : (Unit × List UInt8 × Int × Unit) × List (List UInt8) × Unit)
 (k :
 (Unit × List UInt8 × Int × Unit) × List (List UInt8) × Unit →
 Option ((List UInt8 × Unit) × Unit)) =>
 bif decide (s.fst.snd.snd.fst < (↑(List.length s.snd.fst) : Int)) then
 Option.bind
 (bif decide (s.fst.snd.snd.fst > (0 : Int)) then
 if
 List.length s.fst.snd.fst + List.length [(32 : UInt8)] <
 (2 : Nat) ^ (63 : Nat) then
 some (((), s.fst.snd.fst ++ [(32 : UInt8)], s.fst.snd.snd), s.snd)
 else none
 else some (((), s.fst.snd), s.snd))
 fun (s : (Unit × List UInt8 × Int × Unit) × List (List UInt8) × Unit) =>
 if
 (0 : Int) ≤ s.fst.snd.snd.fst ∧
 s.fst.snd.snd.fst < (↑(List.length s.snd.fst) : Int) then
 if Int.toNat s.fst.snd.snd.fst < List.length s.snd.fst then
 if
 List.length s.fst.snd.fst +
 List.length
 (List.getD s.snd.fst (Int.toNat s.fst.snd.snd.fst) (nilOf UInt8)) <
 (2 : Nat) ^ (63 : Nat) then
 k
 (((),
 s.fst.snd.fst ++
 List.getD s.snd.fst (Int.toNat s.fst.snd.snd.fst) (nilOf UInt8),
 IntKind.wrap IntKind.i64 (s.fst.snd.snd.fst + (1 : Int)), ()),
 s.snd)
 else none
 else none
 else none
 else some ((s.fst.snd.fst, ()), ()))
 (((), nilOf UInt8, (0 : Int), ()), s.snd))
 fun (s : (List UInt8 × Unit) × Unit) => some s.fst
-- impl.within
def m_impl_within (a0 : Int) (a1 : Int) (a2 : Int) : Option (Bool × Unit) :=
 Option.bind (bif decide (a0 ≥ a1) then some ((decide (a0 ≤ a2), ()), ()) else some ((false, ()), ()))
 fun (s : (Bool × PUnit) × PUnit) => some (s.fst.fst, ())
-- impl.NameOk
def m_impl_NameOk (a0 : List UInt8) : Option (Bool × Unit) :=
 joinC
 (loopC (List.length a0 + Int.toNat (↑(List.length a0) : Int) + Int.toNat (0 : Int) + (300 : Nat))
 (fun (s : (List UInt8 × Int × Int × Unit) × Unit)
 (k : (List UInt8 × Int × Int × Unit) × Unit → Option ((List UInt8 × Unit) × Unit ⊕ Bool × Unit)) =>
 bif decide (s.fst.snd.snd.fst < s.fst.snd.fst) then
 if (0 : Int) ≤ s.fst.snd.snd.fst ∧ s.fst.snd.snd.fst < (↑(List.length s.fst.fst) : Int) then
 Option.bind
 (bif
 decide
 ((↑(UInt8.toNat (List.getD s.fst.fst (Int.toNat s.fst.snd.snd.fst) (0 : UInt8))) : Int) ≥
 (97 : Int)) then
 bif
 decide
 ((↑(UInt8.toNat (List.getD s.fst.fst (Int.toNat s.fst.snd.snd.fst) (0 : UInt8))) : Int) ≤
 (122 : Int)) then
 some ((s.fst.fst, s.fst.snd.fst, s.fst.snd.snd.fst, !true, ()), ())
 else
 bif
 decide
 ((↑(UInt8.toNat (List.getD s.fst.fst (Int.toNat s.fst.snd.snd.fst) (0 : UInt8))) : Int) ≥
 (65 : Int)) then
 bif
 decide
 ((↑(UInt8.toNat (List.getD s.fst.fst (Int.toNat s.fst.snd.snd.fst) (0 : UInt8))) : Int) ≤
 (90 : Int)) then
 some ((s.fst.fst, s.fst.snd.fst, s.fst.snd.snd.fst, !true, ()), ())
 else
 bif
 decide
 ((↑(UInt8.toNat (List.getD s.fst.fst (Int.toNat s.fst.snd.snd.fst) (0 : UInt8))) : Int) ≥
 (48 : Int)) then
 bif
 decide
 ((↑(UInt8.toNat (List.getD s.fst.fst (Int.toNat s.fst.snd.snd.fst) (0 : UInt8))) : Int) ≤
 (57 : Int)) then
 some ((s.fst.fst, s.fst.snd.fst, s.fst.snd.snd.fst, !true, ()), ())
 else
 bif
 (↑(UInt8.toNat (List.getD s.fst.fst (Int.toNat s.fst.snd.snd.fst) (0 : UInt8))) : Int) ==
 (46 : Int) then
 some ((s.fst.fst, s.fst.snd.fst, s.fst.snd.snd.fst, !true, ()), ())
 else
 bif
 (↑(UInt8.toNat (List.getD s.fst.fst (Int.toNat s.fst.snd.snd.fst) (0 : UInt8))) :
 Int) ==
 (95 : Int) then
 some ((s.fst.fst, s.fst.snd.fst, s.fst.snd.snd.fst, !true, ()), ())
 else
 some
 ((s.fst.fst, s.fst.snd.fst, s.fst.snd.snd.fst,
 !(↑(UInt8.toNat (List.getD s.fst.fst (Int.toNat s.fst.snd.snd.fst) (0 : UInt8))) :
 Int) ==
 (45 : Int),
 ()),
 ())
 else
 bif
 (↑(UInt8.toNat (List.getD s.fst.fst (Int.toNat s.fst.snd.snd.fst) (0 : UInt8))) : Int) ==
 (46 : Int) then
 some ((s.fst.fst, s.fst.snd.fst, s.fst.snd.snd.fst, !true, ()), ())
 else
 bif
 (↑(UInt8.toNat (List.getD s.fst.fst (Int.toNat s.fst.snd.snd.fst) (0 : UInt8))) : Int) ==
 (95 : Int) then
 some ((s.fst.fst, s.fst.snd.fst, s.fst.snd.snd.fst, !true, ()), ())
 else
 some
 ((s.fst.fst, s.fst.snd.fst, s.fst.snd.snd.fst,
 !(↑(UInt8.toNat (List.getD s.fst.fst (Int.toNat s.fst.snd.snd.fst) (0 : UInt8))) :
 Int) ==
 (45 : Int),
 ()),
 ())
 else
 bif
 decide
 ((↑(UInt8.toNat (List.getD s.fst.fst (Int.toNat s.fst.snd.snd.fst) (0 : UInt8))) : Int) ≥
 (48 : Int)) then
 bif
 decide
 ((↑(UInt8.toNat (List.getD s.fst.fst (Int.toNat s.fst.snd.snd.fst) (0 : UInt8))) : Int) ≤
 (57 : Int)) then
 some ((s.fst.fst, s.fst.snd.fst, s.fst.snd.snd.fst, !true, ()), ())
 else
 bif
 (↑(UInt8.toNat (List.getD s.fst.fst (Int.toNat s.fst.snd.snd.fst) (0 : UInt8))) : Int) ==
 (46 : Int) then
 some ((s.fst.fst, s.fst.snd.fst, s.fst.snd.snd.fst, !true, ()), ())
 else
 bif
 (↑(UInt8.toNat (List.getD s.fst.fst (Int.toNat s.fst.snd.snd.fst) (0 : UInt8))) : Int) ==
 (95 : Int) then
 some ((s.fst.fst, s.fst.snd.fst, s.fst.snd.snd.fst, !true, ()), ())
 else
 some
 ((s.fst.fst, s.fst.snd.fst, s.fst.snd.snd.fst,
 !(↑(UInt8.toNat (List.getD s.fst.fst (Int.toNat s.fst.snd.snd.fst) (0 : UInt8))) :
 Int) ==
 (45 : Int),
 ()),
 ())
 else
 bif
 (↑(UInt8.toNat (List.getD s.fst.fst (Int.toNat s.fst.snd.snd.fst) (0 : UInt8))) : Int) ==
 (46 : Int) then
 some ((s.fst.fst, s.fst.snd.fst, s.fst.snd.snd.fst, !true, ()), ())
 else
 bif
 (↑(UInt8.toNat (List.getD s.fst.fst (Int.toNat s.fst.snd.snd.fst) (0 : UInt8))) : Int) ==
 (95 : Int) then
 some ((s.fst.fst, s.fst.snd.fst, s.fst.snd.snd.fst, !true, ()), ())
 else
 some
 ((s.fst.fst, s.fst.snd.fst, s.fst.snd.snd.fst,
 !(↑(UInt8.toNat (List.getD s.fst.fst (Int.toNat s.fst.snd.snd.fst) (0 : UInt8))) :
 Int) ==
 (45 : Int),
 ()),
 ())
 else
 bif
 decide
 ((↑(UInt8.toNat (List.getD s.fst.fst (Int.toNat s.fst.snd.snd.fst) (0 : UInt8))) : Int) ≥
 (65 : Int)) then
 bif
 decide
 ((↑(UInt8.toNat (List.getD s.fst.fst (Int.toNat s.fst.snd.snd.fst) (0 : UInt8))) : Int) ≤
 (90 : Int)) then
 some ((s.fst.fst, s.fst.snd.fst, s.fst.snd.snd.fst, !true, ()), ())
 else
 bif
 decide
 ((↑(UInt8.toNat (List.getD s.fst.fst (Int.toNat s.fst.snd.snd.fst) (0 : UInt8))) : Int) ≥
 (48 : Int)) then
 bif
 decide
 ((↑(UInt8.toNat (List.getD s.fst.fst (Int.toNat s.fst.snd.snd.fst) (0 : UInt8))) : Int) ≤
 (57 : Int)) then
 some ((s.fst.fst, s.fst.snd.fst, s.fst.snd.snd.fst, !true, ()), ())
 else
 bif
 (↑(UInt8.toNat (List.getD s.fst.fst (Int.toNat s.fst.snd.snd.fst) (0 : UInt8))) : Int) ==
 (46 : Int) then
 some ((s.fst.fst, s.fst.snd.fst, s.fst.snd.snd.fst, !true, ()), ())
 else
 bif
 (↑(UInt8.toNat (List.getD s.fst.fst (Int.toNat s.fst.snd.snd.fst) (0 : UInt8))) : Int) ==
 (95 : Int) then
 some ((s.fst.fst, s.fst.snd.fst, s.fst.snd.snd.fst, !true, ()), ())
 else
 some
 ((s.fst.fst, s.fst.snd.fst, s.fst.snd.snd.fst,
 !(↑(UInt8.toNat (List.getD s.fst.fst (Int.toNat s.fst.snd.snd.fst) (0 : UInt8))) :
 Int) ==
 (45 : Int),
 ()),
 ())
 else
 bif
 (↑(UInt8.toNat (List.getD s.fst.fst (Int.toNat s.fst.snd.snd.fst) (0 : UInt8))) : Int) ==
 (46 : Int) then
 some ((s.fst.fst, s.fst.snd.fst, s.fst.snd.snd.fst, !true, ()), ())
 else
 bif
 (↑(UInt8.toNat (List.getD s.fst.fst (Int.toNat s.fst.snd.snd.fst) (0 : UInt8))) : Int) ==
 (95 : Int) then
 some ((s.fst.fst, s.fst.snd.fst, s.fst.snd.snd.fst, !true, ()), ())
 else
 some
 ((s.fst.fst, s.fst.snd.fst, s.fst.snd.snd.fst,
 !(↑(UInt8.toNat (List.getD s.fst.fst (Int.toNat s.fst.snd.snd.fst) (0 : UInt8))) :
 Int) ==
 (45 : Int),
 ()),
 ())
 else
 bif
 decide
 ((↑(UInt8.toNat (List.getD s.fst.fst (Int.toNat s.fst.snd.snd.fst) (0 : UInt8))) : Int) ≥
 (48 : Int)) then
 bif
 decide
 ((↑(UInt8.toNat (List.getD s.fst.fst (Int.toNat s.fst.snd.snd.fst) (0 : UInt8))) : Int) ≤
 (57 : Int)) then
 some ((s.fst.fst, s.fst.snd.fst, s.fst.snd.snd.fst, !true, ()), ())
 else
 bif
 (↑(UInt8.toNat (List.getD s.fst.fst (Int.toNat s.fst.snd.snd.fst) (0 : UInt8))) : Int) ==
 (46 : Int) then
 some ((s.fst.fst, s.fst.snd.fst, s.fst.snd.snd.fst, !true, ()), ())
 else
 bif
 (↑(UInt8.toNat (List.getD s.fst.fst (Int.toNat s.fst.snd.snd.fst) (0 : UInt8))) : Int) ==
 (95 : Int) then
 some ((s.fst.fst, s.fst.snd.fst, s.fst.snd.snd.fst, !true, ()), ())
 else
 some
 ((s.fst.fst, s.fst.snd.fst, s.fst.snd.snd.fst,
 !(↑(UInt8.toNat (List.getD s.fst.fst (Int.toNat s.fst.snd.snd.fst) (0 : UInt8))) :
 Int) ==
 (45 : Int),
 ()),
 ())
 else
 bif
 (↑(UInt8.toNat (List.getD s.fst.fst (Int.toNat s.fst.snd.snd.fst) (0 : UInt8))) : Int) ==
 (46 : Int) then
 some ((s.fst.fst, s.fst.snd.fst, s.fst.snd.snd.fst, !true, ()), ())
 else
 bif
 (↑(UInt8.toNat (List.getD s.fst.fst (Int.toNat s.fst.snd.snd.fst) (0 : UInt8))) : Int) ==
 (95 : Int) then
 some ((s.fst.fst, s.fst.snd.fst, s.fst.snd.snd.fst, !true, ()), ())
 else
 some
 ((s.fst.fst, s.fst.snd.fst, s.fst.snd.snd.fst,
 !(↑(UInt8.toNat (List.getD s.fst.fst (Int.toNat s.fst.snd.snd.fst) (0 : UInt8))) : Int) ==
 (45 : Int),
 ()),
 ()))
 fun (s : (List UInt8 × Int × Int × Bool × Unit) × Unit) =>
 bif s.fst.snd.snd.snd.fst then some (Sum.inr (false, ()))
 else k ((s.fst.fst, s.fst.snd.fst, IntKind.wrap IntKind.i64 (s.fst.snd.snd.fst + (1 : Int)), ()), ())
 else none
 else some (Sum.inl ((s.fst.fst, ()), ())))
 ((a0, (↑(List.length a0) : Int), (0 : Int), ()), ()))
 fun (s : (List UInt8 × Unit) × Unit) =>
 Option.bind
 (Option.bind (m_impl_within (↑(List.length s.fst.fst) : Int) (1 : Int) (20 : Int)) fun (r : Bool × Unit) =>
 bif r.fst then
 bif !s.fst.fst == [(46 : UInt8)] then some ((!s.fst.fst == [(46 : UInt8), (46 : UInt8)], ()), ())
 else some ((false, ()), ())
 else some ((false, ()), ()))
 fun (s : (Bool × Unit) × Unit) => some s.fst
-- impl.isSuffix
def m_impl_isSuffix (a0 : List UInt8) : Option (Bool × Unit) :=
 Option.bind
 (Option.bind (m_impl_within (↑(List.length a0) : Int) (1 : Int) (8 : Int)) fun (r : Bool × Unit) =>
 bif r.fst then
 if List.length [(120 : UInt8)] + List.length a0 < (2 : Nat) ^ (63 : Nat) then
 Option.bind (m_impl_NameOk ([(120 : UInt8)] ++ a0)) fun (r : Bool × Unit) => some (r, ())
 else none
 else some ((false, ()), ()))
 fun (s : (Bool × Unit) × Unit) => some s.fst
-- internal/bytealg.CountString
def m_bytealg_CountString (a0 : List UInt8) (a1 : Int) : Option (Int × Unit) := some ((Go.Lib.countByte a0 a1.toNat.toUInt8 : Nat), ())
-- strings.Count
def m_strings_Count (a0 : List UInt8) : Option (Int × Unit) :=
 if (0 : Int) ≤ (0 : Int) ∧ (0 : Int) < (↑(List.length [(47 : UInt8)]) : Int) then
 Option.bind
 (m_bytealg_CountString a0 (↑(UInt8.toNat (List.getD [(47 : UInt8)] (Int.toNat (0 : Int)) (0 : UInt8))) : Int))
 fun (r : Int × Unit) => some r
 else none
-- internal/bytealg.IndexByteString
def m_bytealg_IndexByteString (a0 : List UInt8) (a1 : Int) : Option (Int × Unit) := some (Go.Lib.indexByte a0 a1.toNat.toUInt8, ())
-- internal/stringslite.IndexByte
def m_stringslite_IndexByte (a0 : List UInt8) (a1 : Int) : Option (Int × Unit) :=
 Option.bind (m_bytealg_IndexByteString a0 a1) fun (r : Int × Unit) => some r
-- internal/stringslite.Index
def m_stringslite_Index (a0 : List UInt8) : Option (Int × Unit) :=
 bif [(47 : UInt8)] == a0 then some ((0 : Int), ())
 else
 if (0 : Int) ≤ (0 : Int) ∧ (0 : Int) < (↑(List.length [(47 : UInt8)]) : Int) then
 Option.bind
 (m_stringslite_IndexByte a0 (↑(UInt8.toNat (List.getD [(47 : UInt8)] (Int.toNat (0 : Int)) (0 : UInt8))) : Int))
 fun (r : Int × Unit) => some r
 else none
-- strings.Index
def m_strings_Index (a0 : List UInt8) : Option (Int × Unit) := Option.bind (m_stringslite_Index a0) fun (r : Int × Unit) => some r
-- strings.genSplit
def m_strings_genSplit (a0 : List UInt8) : Option (List (List UInt8) × Unit) :=
 Option.bind (m_strings_Count a0) fun (r : Int × Unit) =>
 if
 ((0 : Int) ≤
 if
 IntKind.wrap IntKind.i64 ((↑(List.length a0) : Int) + (1 : Int)) <
 IntKind.wrap IntKind.i64 (r.fst + (1 : Int)) then
 IntKind.wrap IntKind.i64 ((↑(List.length a0) : Int) + (1 : Int))
 else IntKind.wrap IntKind.i64 (r.fst + (1 : Int))) ∧
 ((if
 IntKind.wrap IntKind.i64 ((↑(List.length a0) : Int) + (1 : Int)) <
 IntKind.wrap IntKind.i64 (r.fst + (1 : Int)) then
 IntKind.wrap IntKind.i64 ((↑(List.length a0) : Int) + (1 : Int))
 else IntKind.wrap IntKind.i64 (r.fst + (1 : Int))) ≤
 if
 IntKind.wrap IntKind.i64 ((↑(List.length a0) : Int) + (1 : Int)) <
 IntKind.wrap IntKind.i64 (r.fst + (1 : Int)) then
 IntKind.wrap IntKind.i64 ((↑(List.length a0) : Int) + (1 : Int))
 else IntKind.wrap IntKind.i64 (r.fst + (1 : Int))) ∧
 ((↑(16 : Nat) : Int) *
 if
 IntKind.wrap IntKind.i64 ((↑(List.length a0) : Int) + (1 : Int)) <
 IntKind.wrap IntKind.i64 (r.fst + (1 : Int)) then
 IntKind.wrap IntKind.i64 ((↑(List.length a0) : Int) + (1 : Int))
 else IntKind.wrap IntKind.i64 (r.fst + (1 : Int))) ≤
 (140737488355328 : Int) ∧
 (if
 IntKind.wrap IntKind.i64 ((↑(List.length a0) : Int) + (1 : Int)) <
 IntKind.wrap IntKind.i64 (r.fst + (1 : Int)) then
 IntKind.wrap IntKind.i64 ((↑(List.length a0) : Int) + (1 : Int))
 else IntKind.wrap IntKind.i64 (r.fst + (1 : Int))) <
 (2 : Int) ^ (62 : Nat) then
 Option.bind
 (loopC
 (List.length a0 +
 Int.toNat
 (IntKind.wrap IntKind.i64
 ((if
 IntKind.wrap IntKind.i64 ((↑(List.length a0) : Int) + (1 : Int)) <
 IntKind.wrap IntKind.i64 (r.fst + (1 : Int)) then
 IntKind.wrap IntKind.i64 ((↑(List.length a0) : Int) + (1 : Int))
 else IntKind.wrap IntKind.i64 (r.fst + (1 : Int))) -
 (1 : Int))) +
 Int.toNat (0 : Int) +
 List.length
 (List.replicate
 (Int.toNat
 (if
 IntKind.wrap IntKind.i64 ((↑(List.length a0) : Int) + (1 : Int)) <
 IntKind.wrap IntKind.i64 (r.fst + (1 : Int)) then
 IntKind.wrap IntKind.i64 ((↑(List.length a0) : Int) + (1 : Int))
 else IntKind.wrap IntKind.i64 (r.fst + (1 : Int))))
 (nilOf UInt8)) +
 (300 : Nat))
 (fun (s : (List UInt8 × Unit × Unit × Int × Unit × Int × Unit) × List (List UInt8) × Unit)
 (k :
 (List UInt8 × Unit × Unit × Int × Unit × Int × Unit) × List (List UInt8) × Unit →
 Option ((List UInt8 × Unit × Int × Unit) × List (List UInt8) × Unit)) =>
 bif decide (s.fst.snd.snd.snd.snd.snd.fst < s.fst.snd.snd.snd.fst) then
 Option.bind (m_strings_Index s.fst.fst) fun (r : Int × Unit) =>
 bif decide (r.fst < (0 : Int)) then some ((s.fst.fst, (), s.fst.snd.snd.snd.snd.snd), s.snd)
 else
 if
 (0 : Int) ≤ (0 : Int) ∧
 (0 : Int) ≤ IntKind.wrap IntKind.i64 (r.fst + (0 : Int)) ∧
 IntKind.wrap IntKind.i64 (r.fst + (0 : Int)) ≤ (↑(List.length s.fst.fst) : Int) then
 if
 (0 : Int) ≤ s.fst.snd.snd.snd.snd.snd.fst ∧
 s.fst.snd.snd.snd.snd.snd.fst < (↑(List.length s.snd.fst) : Int) then
 if Int.toNat s.fst.snd.snd.snd.snd.snd.fst < List.length s.snd.fst then
 if
 (0 : Int) ≤ IntKind.wrap IntKind.i64 (r.fst + (↑(List.length [(47 : UInt8)]) : Int)) ∧
 IntKind.wrap IntKind.i64 (r.fst + (↑(List.length [(47 : UInt8)]) : Int)) ≤
 (↑(List.length s.fst.fst) : Int) ∧
 (↑(List.length s.fst.fst) : Int) ≤ (↑(List.length s.fst.fst) : Int) then
 k
 ((List.drop
 (Int.toNat (IntKind.wrap IntKind.i64 (r.fst + (↑(List.length [(47 : UInt8)]) : Int))))
 (List.take (Int.toNat (↑(List.length s.fst.fst) : Int)) s.fst.fst),
 (), (), s.fst.snd.snd.snd.fst, (),
 IntKind.wrap IntKind.i64 (s.fst.snd.snd.snd.snd.snd.fst + (1 : Int)), ()),
 List.set s.snd.fst (Int.toNat s.fst.snd.snd.snd.snd.snd.fst)
 (List.drop (Int.toNat (0 : Int))
 (List.take (Int.toNat (IntKind.wrap IntKind.i64 (r.fst + (0 : Int)))) s.fst.fst)),
 ())
 else none
 else none
 else none
 else none
 else some ((s.fst.fst, (), s.fst.snd.snd.snd.snd.snd), s.snd))
 ((a0, (), (),
 IntKind.wrap IntKind.i64
 ((if
 IntKind.wrap IntKind.i64 ((↑(List.length a0) : Int) + (1 : Int)) <
 IntKind.wrap IntKind.i64 (r.fst + (1 : Int)) then
 IntKind.wrap IntKind.i64 ((↑(List.length a0) : Int) + (1 : Int))
 else IntKind.wrap IntKind.i64 (r.fst + (1 : Int))) -
 (1 : Int)),
 (), (0 : Int), ()),
 List.replicate
 (Int.toNat
 (if
 IntKind.wrap IntKind.i64 ((↑(List.length a0) : Int) + (1 : Int)) <
 IntKind.wrap IntKind.i64 (r.fst + (1 : Int)) then
 IntKind.wrap IntKind.i64 ((↑(List.length a0) : Int) + (1 : Int))
 else IntKind.wrap IntKind.i64 (r.fst + (1 : Int))))
 (nilOf UInt8),
 ()))
 fun (s : (List UInt8 × Unit × Int × Unit) × List (List UInt8) × Unit) =>
 if (0 : Int) ≤ s.fst.snd.snd.fst ∧ s.fst.snd.snd.fst < (↑(List.length s.snd.fst) : Int) then
 if Int.toNat s.fst.snd.snd.fst < List.length s.snd.fst then
 if
 (0 : Int) ≤ (0 : Int) ∧
 (0 : Int) ≤ IntKind.wrap IntKind.i64 (s.fst.snd.snd.fst + (1 : Int)) ∧
 IntKind.wrap IntKind.i64 (s.fst.snd.snd.fst + (1 : Int)) ≤
 (↑(List.length (List.set s.snd.fst (Int.toNat s.fst.snd.snd.fst) s.fst.fst)) : Int) then
 some
 (List.drop (Int.toNat (0 : Int))
 (List.take (Int.toNat (IntKind.wrap IntKind.i64 (s.fst.snd.snd.fst + (1 : Int))))
 (List.set s.snd.fst (Int.toNat s.fst.snd.snd.fst) s.fst.fst)),
 ())
 else none
 else none
 else none
 else none
-- strings.Split
def m_strings_Split (a0 : List UInt8) : Option (List (List UInt8) × Unit) :=
 Option.bind (m_strings_genSplit a0) fun (r : List (List UInt8) × Unit) => some r
-- impl.Names
def m_impl_Names (a0 : List UInt8) : Option (List (List UInt8) × Unit) :=
 bif decide ((↑(List.length a0) : Int) > (168 : Int)) then some (nilOf (List UInt8), ())
 else
 Option.bind (m_strings_Split a0) fun (r : List (List UInt8) × Unit) =>
 bif decide ((↑(List.length r.fst) : Int) > (8 : Int)) then some (nilOf (List UInt8), ())
 else
 joinC
 (loopC
 (List.length r.fst + List.length r.fst + Int.toNat (↑(List.length r.fst) : Int) + Int.toNat (0 : Int) +
 (300 : Nat))
 (fun (s : (List (List UInt8) × List (List UInt8) × Int × Int × Unit) × Unit)
 (k :
 (List (List UInt8) × List (List UInt8) × Int × Int × Unit) × Unit →
 Option ((List (List UInt8) × Unit) × Unit ⊕ List (List UInt8) × Unit)) =>
 bif decide (s.fst.snd.snd.snd.fst < s.fst.snd.snd.fst) then
 if (0 : Int) ≤ s.fst.snd.snd.snd.fst ∧ s.fst.snd.snd.snd.fst < (↑(List.length s.fst.snd.fst) : Int) then
 Option.bind (m_impl_NameOk (List.getD s.fst.snd.fst (Int.toNat s.fst.snd.snd.snd.fst) (nilOf UInt8)))
 fun (r : Bool × Unit) =>
 bif !r.fst then some (Sum.inr (nilOf (List UInt8), ()))
 else
 k
 ((s.fst.fst, s.fst.snd.fst, s.fst.snd.snd.fst,
 IntKind.wrap IntKind.i64 (s.fst.snd.snd.snd.fst + (1 : Int)), ()),
 ())
 else none
 else some (Sum.inl ((s.fst.fst, ()), ())))
 ((r.fst, r.fst, (↑(List.length r.fst) : Int), (0 : Int), ()), ()))
 fun (s : (List (List UInt8) × Unit) × Unit) => some s.fst
-- impl.PathOk
def m_impl_PathOk (a0 : List UInt8) : Option (Bool × Unit) :=
 Option.bind (m_impl_Names a0) fun (r : List (List UInt8) × Unit) =>
 some (decide ((↑(List.length r.fst) : Int) > (0 : Int)), ())
-- impl.OptsOk
def m_impl_OptsOk (a0 : (Bool × (Bool × (Bool × (Bool × (Bool × (Bool × (Bool × (Bool × (Bool × (Bool × (Bool × (Bool × (Bool × (Int × (Bool × (List UInt8 × List UInt8))))))))))))))))) : Option (Bool × Unit) :=
 Option.bind
 (Option.bind (m_impl_within a0.snd.snd.snd.snd.snd.snd.snd.snd.snd.snd.snd.snd.snd.fst (0 : Int) (3 : Int))
 fun (r : Bool × Unit) =>
 bif !r.fst then
 some
 (((), true, ()),
 (a0.fst, a0.snd.fst, a0.snd.snd.fst, a0.snd.snd.snd.fst, a0.snd.snd.snd.snd.fst, a0.snd.snd.snd.snd.snd.fst,
 a0.snd.snd.snd.snd.snd.snd.fst, a0.snd.snd.snd.snd.snd.snd.snd.fst,
 a0.snd.snd.snd.snd.snd.snd.snd.snd.fst, a0.snd.snd.snd.snd.snd.snd.snd.snd.snd.fst,
 a0.snd.snd.snd.snd.snd.snd.snd.snd.snd.snd.fst, a0.snd.snd.snd.snd.snd.snd.snd.snd.snd.snd.snd.fst,
 a0.snd.snd.snd.snd.snd.snd.snd.snd.snd.snd.snd.snd.fst,
 a0.snd.snd.snd.snd.snd.snd.snd.snd.snd.snd.snd.snd.snd.fst,
 a0.snd.snd.snd.snd.snd.snd.snd.snd.snd.snd.snd.snd.snd.snd.fst,
 a0.snd.snd.snd.snd.snd.snd.snd.snd.snd.snd.snd.snd.snd.snd.snd.fst,
 a0.snd.snd.snd.snd.snd.snd.snd.snd.snd.snd.snd.snd.snd.snd.snd.snd, ()),
 ())
 else
 bif a0.snd.snd.snd.snd.snd.snd.snd.snd.snd.snd.snd.snd.snd.fst != (0 : Int) then
 bif !a0.fst then
 some
 (((), true, ()),
 (a0.fst, a0.snd.fst, a0.snd.snd.fst, a0.snd.snd.snd.fst, a0.snd.snd.snd.snd.fst,
 a0.snd.snd.snd.snd.snd.fst, a0.snd.snd.snd.snd.snd.snd.fst, a0.snd.snd.snd.snd.snd.snd.snd.fst,
 a0.snd.snd.snd.snd.snd.snd.snd.snd.fst, a0.snd.snd.snd.snd.snd.snd.snd.snd.snd.fst,
 a0.snd.snd.snd.snd.snd.snd.snd.snd.snd.snd.fst, a0.snd.snd.snd.snd.snd.snd.snd.snd.snd.snd.snd.fst,
 a0.snd.snd.snd.snd.snd.snd.snd.snd.snd.snd.snd.snd.fst,
 a0.snd.snd.snd.snd.snd.snd.snd.snd.snd.snd.snd.snd.snd.fst,
 a0.snd.snd.snd.snd.snd.snd.snd.snd.snd.snd.snd.snd.snd.snd.fst,
 a0.snd.snd.snd.snd.snd.snd.snd.snd.snd.snd.snd.snd.snd.snd.snd.fst,
 a0.snd.snd.snd.snd.snd.snd.snd.snd.snd.snd.snd.snd.snd.snd.snd.snd, ()),
 ())
 else
 bif a0.snd.snd.snd.snd.snd.fst then
 some
 (((), a0.snd.snd.snd.snd.snd.snd.fst, ()),
 (a0.fst, a0.snd.fst, a0.snd.snd.fst, a0.snd.snd.snd.fst, a0.snd.snd.snd.snd.fst,
 a0.snd.snd.snd.snd.snd.fst, a0.snd.snd.snd.snd.snd.snd.fst, a0.snd.snd.snd.snd.snd.snd.snd.fst,
 a0.snd.snd.snd.snd.snd.snd.snd.snd.fst, a0.snd.snd.snd.snd.snd.snd.snd.snd.snd.fst,
 a0.snd.snd.snd.snd.snd.snd.snd.snd.snd.snd.fst, a0.snd.snd.snd.snd.snd.snd.snd.snd.snd.snd.snd.fst,
 a0.snd.snd.snd.snd.snd.snd.snd.snd.snd.snd.snd.snd.fst,
 a0.snd.snd.snd.snd.snd.snd.snd.snd.snd.snd.snd.snd.snd.fst,
 a0.snd.snd.snd.snd.snd.snd.snd.snd.snd.snd.snd.snd.snd.snd.fst,
 a0.snd.snd.snd.snd.snd.snd.snd.snd.snd.snd.snd.snd.snd.snd.snd.fst,
 a0.snd.snd.snd.snd.snd.snd.snd.snd.snd.snd.snd.snd.snd.snd.snd.snd, ()),
 ())
 else
 some
 (((), false, ()),
 (a0.fst, a0.snd.fst, a0.snd.snd.fst, a0.snd.snd.snd.fst, a0.snd.snd.snd.snd.fst,
 a0.snd.snd.snd.snd.snd.fst, a0.snd.snd.snd.snd.snd.snd.fst, a0.snd.snd.snd.snd.snd.snd.snd.fst,
 a0.snd.snd.snd.snd.snd.snd.snd.snd.fst, a0.snd.snd.snd.snd.snd.snd.snd.snd.snd.fst,
 a0.snd.snd.snd.snd.snd.snd.snd.snd.snd.snd.fst, a0.snd.snd.snd.snd.snd.snd.snd.snd.snd.snd.snd.fst,
 a0.snd.snd.snd.snd.snd.snd.snd.snd.snd.snd.snd.snd.fst,
 a0.snd.snd.snd.snd.snd.snd.snd.snd.snd.snd.snd.snd.snd.fst,
 a0.snd.snd.snd.snd.snd.snd.snd.snd.snd.snd.snd.snd.snd.snd.fst,
 a0.snd.snd.snd.snd.snd.snd.snd.snd.snd.snd.snd.snd.snd.snd.snd.fst,
 a0.snd.snd.snd.snd.snd.snd.snd.snd.snd.snd.snd.snd.snd.snd.snd.snd, ()),
 ())
 else
 bif a0.snd.snd.snd.snd.snd.fst then
 some
 (((), a0.snd.snd.snd.snd.snd.snd.fst, ()),
 (a0.fst, a0.snd.fst, a0.snd.snd.fst, a0.snd.snd.snd.fst, a0.snd.snd.snd.snd.fst,
 a0.snd.snd.snd.snd.snd.fst, a0.snd.snd.snd.snd.snd.snd.fst, a0.snd.snd.snd.snd.snd.snd.snd.fst,
 a0.snd.snd.snd.snd.snd.snd.snd.snd.fst, a0.snd.snd.snd.snd.snd.snd.snd.snd.snd.fst,
 a0.snd.snd.snd.snd.snd.snd.snd.snd.snd.snd.fst, a0.snd.snd.snd.snd.snd.snd.snd.snd.snd.snd.snd.fst,
 a0.snd.snd.snd.snd.snd.snd.snd.snd.snd.snd.snd.snd.fst,
 a0.snd.snd.snd.snd.snd.snd.snd.snd.snd.snd.snd.snd.snd.fst,
 a0.snd.snd.snd.snd.snd.snd.snd.snd.snd.snd.snd.snd.snd.snd.fst,
 a0.snd.snd.snd.snd.snd.snd.snd.snd.snd.snd.snd.snd.snd.snd.snd.fst,
 a0.snd.snd.snd.snd.snd.snd.snd.snd.snd.snd.snd.snd.snd.snd.snd.snd, ()),
 ())
 else
 some
 (((), false, ()),
 (a0.fst, a0.snd.fst, a0.snd.snd.fst, a0.snd.snd.snd.fst, a0.snd.snd.snd.snd.fst,
 a0.snd.snd.snd.snd.snd.fst, a0.snd.snd.snd.snd.snd.snd.fst, a0.snd.snd.snd.snd.snd.snd.snd.fst,
 a0.snd.snd.snd.snd.snd.snd.snd.snd.fst, a0.snd.snd.snd.snd.snd.snd.snd.snd.snd.fst,
 a0.snd.snd.snd.snd.snd.snd.snd.snd.snd.snd.fst, a0.snd.snd.snd.snd.snd.snd.snd.snd.snd.snd.snd.fst,
 a0.snd.snd.snd.snd.snd.snd.snd.snd.snd.snd.snd.snd.fst,
 a0.snd.snd.snd.snd.snd.snd.snd.snd.snd.snd.snd.snd.snd.fst,
 a0.snd.snd.snd.snd.snd.snd.snd.snd.snd.snd.snd.snd.snd.snd.fst,
 a0.snd.snd.snd.snd.snd.snd.snd.snd.snd.snd.snd.snd.snd.snd.snd.fst,
 a0.snd.snd.snd.snd.snd.snd.snd.snd.snd.snd.snd.snd.snd.snd.snd.snd, ()),
 ()))
 fun
 (s :
 (Unit × Bool × Unit) ×
 (Bool ×
 Bool ×
 Bool ×
 Bool ×
 Bool ×
 Bool ×
 Bool × Bool × Bool × Bool × Bool × Bool × Bool × Int × Bool × List UInt8 × List UInt8 × Unit) ×
 Unit) =>
 bif s.fst.snd.fst then some (false, ())
 else
 bif !s.snd.fst.snd.snd.snd.snd.snd.snd.snd.snd.snd.snd.snd.snd.snd.snd.fst then
 Option.bind
 (bif s.snd.fst.snd.snd.snd.snd.snd.snd.snd.snd.snd.snd.snd.snd.snd.snd.snd.fst == nilOf UInt8 then
 some
 ((s.snd.fst.snd.snd.snd.snd.snd.snd.snd.snd.snd.snd.snd.snd.snd.snd.snd.snd.fst == nilOf UInt8, ()), ())
 else some ((false, ()), ()))
 fun (s : (Bool × Unit) × Unit) => some s.fst
 else
 Option.bind
 (bif s.snd.fst.snd.snd.snd.snd.snd.snd.snd.snd.snd.snd.snd.snd.snd.snd.snd.fst == nilOf UInt8 then
 bif s.snd.fst.snd.snd.snd.snd.snd.snd.snd.snd.snd.snd.snd.snd.snd.snd.snd.snd.fst == nilOf UInt8 then
 bif !s.snd.fst.snd.snd.snd.snd.snd.snd.snd.snd.snd.snd.snd.snd.snd.snd.snd.fst == nilOf UInt8 then
 some ((true, ()), ())
 else
 some
 ((!s.snd.fst.snd.snd.snd.snd.snd.snd.snd.snd.snd.snd.snd.snd.snd.snd.snd.snd.fst == nilOf UInt8, ()),
 ())
 else
 Option.bind (m_impl_PathOk s.snd.fst.snd.snd.snd.snd.snd.snd.snd.snd.snd.snd.snd.snd.snd.snd.snd.snd.fst)
 fun (r : Bool × Unit) =>
 bif r.fst then
 bif !s.snd.fst.snd.snd.snd.snd.snd.snd.snd.snd.snd.snd.snd.snd.snd.snd.snd.fst == nilOf UInt8 then
 some ((true, ()), ())
 else
 some
 ((!s.snd.fst.snd.snd.snd.snd.snd.snd.snd.snd.snd.snd.snd.snd.snd.snd.snd.snd.fst == nilOf UInt8,
 ()),
 ())
 else some ((false, ()), ())
 else
 Option.bind (m_impl_isSuffix s.snd.fst.snd.snd.snd.snd.snd.snd.snd.snd.snd.snd.snd.snd.snd.snd.snd.fst)
 fun (r : Bool × Unit) =>
 bif r.fst then
 bif s.snd.fst.snd.snd.snd.snd.snd.snd.snd.snd.snd.snd.snd.snd.snd.snd.snd.snd.fst == nilOf UInt8 then
 bif !s.snd.fst.snd.snd.snd.snd.snd.snd.snd.snd.snd.snd.snd.snd.snd.snd.snd.fst == nilOf UInt8 then
 some ((true, ()), ())
 else
 some
 ((!s.snd.fst.snd.snd.snd.snd.snd.snd.snd.snd.snd.snd.snd.snd.snd.snd.snd.snd.fst == nilOf UInt8,
 ()),
 ())
 else
 Option.bind
 (m_impl_PathOk s.snd.fst.snd.snd.snd.snd.snd.snd.snd.snd.snd.snd.snd.snd.snd.snd.snd.snd.fst)
 fun (r : Bool × Unit) =>
 bif r.fst then
 bif !s.snd.fst.snd.snd.snd.snd.snd.snd.snd.snd.snd.snd.snd.snd.snd.snd.snd.fst == nilOf UInt8 then
 some ((true, ()), ())
 else
 some
 ((!s.snd.fst.snd.snd.snd.snd.snd.snd.snd.snd.snd.snd.snd.snd.snd.snd.snd.snd.fst ==
 nilOf UInt8,
 ()),
 ())
 else some ((false, ()), ())
 else some ((false, ()), ()))
 fun (s : (Bool × Unit) × Unit) => some s.fst
-- (*impl.Opts).letters
def m_impl_Opts_letters (s0 : (Bool × Bool × Bool × Bool × Bool × Bool × Bool × Bool × Bool × Bool × Bool × Bool × Bool × Int × Bool × List UInt8 × List UInt8 × Unit)) : Option (Unit × ((Bool × Bool × Bool × Bool × Bool × Bool × Bool × Bool × Bool × Bool × Bool × Bool × Bool × Int × Bool × List UInt8 × List UInt8 × Unit) × (Int × Unit × Int × Unit × Int × Unit × Int × Unit × Int × Unit × Int × Unit × Int × Unit × Int × Unit × Int × Unit × Int × Unit × Int × Unit × Unit) × Unit)) :=
 some
 ((), s0,
 ((114 : Int), (), (108 : Int), (), (112 : Int), (), (116 : Int), (), (72 : Int), (), (99 : Int), (), (110 : Int),
 (), (87 : Int), (), (117 : Int), (), (121 : Int), (), (98 : Int), (), ()),
 ())
-- impl.ShowOpts$1
def m_impl_ShowOpts_1 (a0 : Bool) (a1 : List UInt8) (s0 : (Unit × Unit)) (s1 : List (List UInt8)) : Option ((Unit) × ((Unit × Unit) × List (List UInt8) × Unit)) :=
 Option.bind
 (bif a0 then
 if (List.length s1 + List.length [a1]) * (16 : Nat) ≤ (140737488355328 : Nat) then
 some ((), ((), ()), s1 ++ [a1], ())
 else none
 else some ((), ((), ()), s1, ()))
 fun (s : Unit × (Unit × Unit) × List (List UInt8) × Unit) => some ((), ((), ()), s.snd.snd)
-- impl.deleteWords
def m_impl_deleteWords  : Option (List (List UInt8) × Unit) :=
 some
 ([nilOf UInt8,
 [(45 : UInt8), (45 : UInt8), (100 : UInt8), (101 : UInt8), (108 : UInt8), (101 : UInt8), (116 : UInt8),
 (101 : UInt8), (45 : UInt8), (98 : UInt8), (101 : UInt8), (102 : UInt8), (111 : UInt8), (114 : UInt8),
 (101 : UInt8)],
 [(45 : UInt8), (45 : UInt8), (100 : UInt8), (101 : UInt8), (108 : UInt8), (101 : UInt8), (116 : UInt8),
 (101 : UInt8)],
 [(45 : UInt8), (45 : UInt8), (100 : UInt8), (101 : UInt8), (108 : UInt8), (101 : UInt8), (116 : UInt8),
 (101 : UInt8), (45 : UInt8), (97 : UInt8), (102 : UInt8), (116 : UInt8), (101 : UInt8), (114 : UInt8)]],
 ())
-- strings.Join
def m_strings_Join (a0 : List (List UInt8)) (a1 : List UInt8) : Option (List UInt8 × Unit) := joinM a0 a1
-- impl.ShowOpts
def m_impl_ShowOpts (a0 : (Bool × (Bool × (Bool × (Bool × (Bool × (Bool × (Bool × (Bool × (Bool × (Bool × (Bool × (Bool × (Bool × (Int × (Bool × (List UInt8 × List UInt8))))))))))))))))) : Option (List UInt8 × Unit) :=
 Option.bind (m_impl_OptsOk a0) fun (r : Bool × Unit) =>
 bif !r.fst then some (nilOf UInt8, ())
 else
 Option.bind
 (m_impl_Opts_letters
 (a0.fst, a0.snd.fst, a0.snd.snd.fst, a0.snd.snd.snd.fst, a0.snd.snd.snd.snd.fst, a0.snd.snd.snd.snd.snd.fst,
 a0.snd.snd.snd.snd.snd.snd.fst, a0.snd.snd.snd.snd.snd.snd.snd.fst, a0.snd.snd.snd.snd.snd.snd.snd.snd.fst,
 a0.snd.snd.snd.snd.snd.snd.snd.snd.snd.fst, a0.snd.snd.snd.snd.snd.snd.snd.snd.snd.snd.fst,
 a0.snd.snd.snd.snd.snd.snd.snd.snd.snd.snd.snd.fst, a0.snd.snd.snd.snd.snd.snd.snd.snd.snd.snd.snd.snd.fst,
 a0.snd.snd.snd.snd.snd.snd.snd.snd.snd.snd.snd.snd.snd.fst,
 a0.snd.snd.snd.snd.snd.snd.snd.snd.snd.snd.snd.snd.snd.snd.fst,
 a0.snd.snd.snd.snd.snd.snd.snd.snd.snd.snd.snd.snd.snd.snd.snd.fst,
 a0.snd.snd.snd.snd.snd.snd.snd.snd.snd.snd.snd.snd.snd.snd.snd.snd, ()))
 fun
 (r :
 Unit ×
 (Bool ×
 Bool ×
 Bool ×
 Bool ×
 Bool ×
 Bool ×
 Bool ×
 Bool × Bool × Bool × Bool × Bool × Bool × Int × Bool × List UInt8 × List UInt8 × Unit) ×
 (Int ×
 Unit ×
 Int ×
 Unit ×
 Int ×
 Unit ×
 Int ×
 Unit ×
 Int ×
 Unit ×
 Int ×
 Unit ×
 Int × Unit × Int × Unit × Int × Unit × Int × Unit × Int × Unit × Unit) ×
 Unit) =>
 Option.bind
 (bif r.snd.fst.fst then
 bif r.snd.fst.snd.fst then
 bif r.snd.fst.snd.snd.fst then
 some
 (((), (), [(45 : UInt8)], r.snd.fst.snd.snd.snd.fst, ()), r.snd.fst,
 (r.snd.snd.fst.fst, (), r.snd.snd.fst.snd.snd.fst, (), r.snd.snd.fst.snd.snd.snd.snd.fst, (),
 r.snd.snd.fst.snd.snd.snd.snd.snd.snd.fst, (), r.snd.snd.fst.snd.snd.snd.snd.snd.snd.snd.snd.fst,
 (), r.snd.snd.fst.snd.snd.snd.snd.snd.snd.snd.snd.snd.snd.fst, (),
 r.snd.snd.fst.snd.snd.snd.snd.snd.snd.snd.snd.snd.snd.snd.snd.fst, (),
 r.snd.snd.fst.snd.snd.snd.snd.snd.snd.snd.snd.snd.snd.snd.snd.snd.snd.fst, (),
 r.snd.snd.fst.snd.snd.snd.snd.snd.snd.snd.snd.snd.snd.snd.snd.snd.snd.snd.snd.fst, (),
 r.snd.snd.fst.snd.snd.snd.snd.snd.snd.snd.snd.snd.snd.snd.snd.snd.snd.snd.snd.snd.snd.fst, (),
 r.snd.snd.fst.snd.snd.snd.snd.snd.snd.snd.snd.snd.snd.snd.snd.snd.snd.snd.snd.snd.snd.snd.snd.fst,
 (), ()),
 ())
 else
 some
 (((), (), [(45 : UInt8)], false, ()), r.snd.fst,
 (r.snd.snd.fst.fst, (), r.snd.snd.fst.snd.snd.fst, (), r.snd.snd.fst.snd.snd.snd.snd.fst, (),
 r.snd.snd.fst.snd.snd.snd.snd.snd.snd.fst, (), r.snd.snd.fst.snd.snd.snd.snd.snd.snd.snd.snd.fst,
 (), r.snd.snd.fst.snd.snd.snd.snd.snd.snd.snd.snd.snd.snd.fst, (),
 r.snd.snd.fst.snd.snd.snd.snd.snd.snd.snd.snd.snd.snd.snd.snd.fst, (),
 r.snd.snd.fst.snd.snd.snd.snd.snd.snd.snd.snd.snd.snd.snd.snd.snd.snd.fst, (),
 r.snd.snd.fst.snd.snd.snd.snd.snd.snd.snd.snd.snd.snd.snd.snd.snd.snd.snd.snd.fst, (),
 r.snd.snd.fst.snd.snd.snd.snd.snd.snd.snd.snd.snd.snd.snd.snd.snd.snd.snd.snd.snd.snd.fst, (),
 r.snd.snd.fst.snd.snd.snd.snd.snd.snd.snd.snd.snd.snd.snd.snd.snd.snd.snd.snd.snd.snd.snd.snd.fst,
 (), ()),
 ())
 else
 some
 (((), (), [(45 : UInt8)], false, ()), r.snd.fst,
 (r.snd.snd.fst.fst, (), r.snd.snd.fst.snd.snd.fst, (), r.snd.snd.fst.snd.snd.snd.snd.fst, (),
 r.snd.snd.fst.snd.snd.snd.snd.snd.snd.fst, (), r.snd.snd.fst.snd.snd.snd.snd.snd.snd.snd.snd.fst,
 (), r.snd.snd.fst.snd.snd.snd.snd.snd.snd.snd.snd.snd.snd.fst, (),
 r.snd.snd.fst.snd.snd.snd.snd.snd.snd.snd.snd.snd.snd.snd.snd.fst, (),
 r.snd.snd.fst.snd.snd.snd.snd.snd.snd.snd.snd.snd.snd.snd.snd.snd.snd.fst, (),
 r.snd.snd.fst.snd.snd.snd.snd.snd.snd.snd.snd.snd.snd.snd.snd.snd.snd.snd.snd.fst, (),
 r.snd.snd.fst.snd.snd.snd.snd.snd.snd.snd.snd.snd.snd.snd.snd.snd.snd.snd.snd.snd.snd.fst, (),
 r.snd.snd.fst.snd.snd.snd.snd.snd.snd.snd.snd.snd.snd.snd.snd.snd.snd.snd.snd.snd.snd.snd.snd.fst,
 (), ()),
 ())
 else
 some
 (((), (), [(45 : UInt8)], false, ()), r.snd.fst,
 (r.snd.snd.fst.fst, (), r.snd.snd.fst.snd.snd.fst, (), r.snd.snd.fst.snd.snd.snd.snd.fst, (),
 r.snd.snd.fst.snd.snd.snd.snd.snd.snd.fst, (), r.snd.snd.fst.snd.snd.snd.snd.snd.snd.snd.snd.fst, (),
 r.snd.snd.fst.snd.snd.snd.snd.snd.snd.snd.snd.snd.snd.fst, (),
 r.snd.snd.fst.snd.snd.snd.snd.snd.snd.snd.snd.snd.snd.snd.snd.fst, (),
 r.snd.snd.fst.snd.snd.snd.snd.snd.snd.snd.snd.snd.snd.snd.snd.snd.snd.fst, (),
 r.snd.snd.fst.snd.snd.snd.snd.snd.snd.snd.snd.snd.snd.snd.snd.snd.snd.snd.snd.fst, (),
 r.snd.snd.fst.snd.snd.snd.snd.snd.snd.snd.snd.snd.snd.snd.snd.snd.snd.snd.snd.snd.snd.fst, (),
 r.snd.snd.fst.snd.snd.snd.snd.snd.snd.snd.snd.snd.snd.snd.snd.snd.snd.snd.snd.snd.snd.snd.snd.fst, (),
 ()),
 ()))
 fun
 (s :
 (Unit × Unit × List UInt8 × Bool × Unit) ×
 (Bool ×
 Bool ×
 Bool ×
 Bool ×
 Bool ×
 Bool ×
 Bool ×
 Bool ×
 Bool × Bool × Bool × Bool × Bool × Int × Bool × List UInt8 × List UInt8 × Unit) ×
 (Int ×
 Unit ×
 Int ×
 Unit ×
 Int ×
 Unit ×
 Int ×
 Unit ×
 Int ×
 Unit ×
 Int ×
 Unit ×
 Int ×
 Unit × Int × Unit × Int × Unit × Int × Unit × Int × Unit × Unit) ×
 Unit) =>
 Option.bind
 (bif s.fst.snd.snd.snd.fst then
 if List.length s.fst.snd.snd.fst + List.length [(97 : UInt8)] < (2 : Nat) ^ (63 : Nat) then
 if
 (0 : Int) ≤ (4 : Int) ∧
 (4 : Int) ≤ (↑(11 : Nat) : Int) ∧ (↑(11 : Nat) : Int) ≤ (↑(11 : Nat) : Int) then
 some
 (((),
 ((0 : Nat) + Int.toNat (4 : Int) * (2 : Nat),
 Int.toNat (↑(11 : Nat) : Int) - Int.toNat (4 : Int)),
 s.fst.snd.snd.fst ++ [(97 : UInt8)], ()),
 s.snd.fst,
 (s.snd.snd.fst.fst, (), s.snd.snd.fst.snd.snd.fst, (), s.snd.snd.fst.snd.snd.snd.snd.fst, (),
 s.snd.snd.fst.snd.snd.snd.snd.snd.snd.fst, (),
 s.snd.snd.fst.snd.snd.snd.snd.snd.snd.snd.snd.fst, (),
 s.snd.snd.fst.snd.snd.snd.snd.snd.snd.snd.snd.snd.snd.fst, (),
 s.snd.snd.fst.snd.snd.snd.snd.snd.snd.snd.snd.snd.snd.snd.snd.fst, (),
 s.snd.snd.fst.snd.snd.snd.snd.snd.snd.snd.snd.snd.snd.snd.snd.snd.snd.fst, (),
 s.snd.snd.fst.snd.snd.snd.snd.snd.snd.snd.snd.snd.snd.snd.snd.snd.snd.snd.snd.fst, (),
 s.snd.snd.fst.snd.snd.snd.snd.snd.snd.snd.snd.snd.snd.snd.snd.snd.snd.snd.snd.snd.snd.fst, (),
 s.snd.snd.fst.snd.snd.snd.snd.snd.snd.snd.snd.snd.snd.snd.snd.snd.snd.snd.snd.snd.snd.snd.snd.fst,
 (), ()),
 ())
 else none
 else none
 else
 some
 (((), ((0 : Nat), (11 : Nat)), s.fst.snd.snd.fst, ()), s.snd.fst,
 (s.snd.snd.fst.fst, (), s.snd.snd.fst.snd.snd.fst, (), s.snd.snd.fst.snd.snd.snd.snd.fst, (),
 s.snd.snd.fst.snd.snd.snd.snd.snd.snd.fst, (), s.snd.snd.fst.snd.snd.snd.snd.snd.snd.snd.snd.fst,
 (), s.snd.snd.fst.snd.snd.snd.snd.snd.snd.snd.snd.snd.snd.fst, (),
 s.snd.snd.fst.snd.snd.snd.snd.snd.snd.snd.snd.snd.snd.snd.snd.fst, (),
 s.snd.snd.fst.snd.snd.snd.snd.snd.snd.snd.snd.snd.snd.snd.snd.snd.snd.fst, (),
 s.snd.snd.fst.snd.snd.snd.snd.snd.snd.snd.snd.snd.snd.snd.snd.snd.snd.snd.snd.fst, (),
 s.snd.snd.fst.snd.snd.snd.snd.snd.snd.snd.snd.snd.snd.snd.snd.snd.snd.snd.snd.snd.snd.fst, (),
 s.snd.snd.fst.snd.snd.snd.snd.snd.snd.snd.snd.snd.snd.snd.snd.snd.snd.snd.snd.snd.snd.snd.snd.fst,
 (), ()),
 ()))
 fun
 (s :
 (Unit × (Nat × Nat) × List UInt8 × Unit) ×
 (Bool ×
 Bool ×
 Bool ×
 Bool ×
 Bool ×
 Bool ×
 Bool ×
 Bool ×
 Bool × Bool × Bool × Bool × Bool × Int × Bool × List UInt8 × List UInt8 × Unit) ×
 (Int ×
 Unit ×
 Int ×
 Unit ×
 Int ×
 Unit ×
 Int ×
 Unit ×
 Int ×
 Unit ×
 Int ×
 Unit ×
 Int ×
 Unit × Int × Unit × Int × Unit × Int × Unit × Int × Unit × Unit) ×
 Unit) =>
 Option.bind
 (loopC
 (List.length s.fst.snd.snd.fst + Int.toNat (↑s.fst.snd.fst.snd : Int) + Int.toNat (0 : Int) +
 Int.toNat
 s.snd.fst.snd.snd.snd.snd.snd.snd.snd.snd.snd.snd.snd.snd.snd.fst +
 List.length
 s.snd.fst.snd.snd.snd.snd.snd.snd.snd.snd.snd.snd.snd.snd.snd.snd.snd.fst +
 List.length
 s.snd.fst.snd.snd.snd.snd.snd.snd.snd.snd.snd.snd.snd.snd.snd.snd.snd.snd.fst +
 Int.toNat s.snd.snd.fst.fst +
 Int.toNat s.snd.snd.fst.snd.snd.fst +
 Int.toNat s.snd.snd.fst.snd.snd.snd.snd.fst +
 Int.toNat s.snd.snd.fst.snd.snd.snd.snd.snd.snd.fst +
 Int.toNat s.snd.snd.fst.snd.snd.snd.snd.snd.snd.snd.snd.fst +
 Int.toNat s.snd.snd.fst.snd.snd.snd.snd.snd.snd.snd.snd.snd.snd.fst +
 Int.toNat s.snd.snd.fst.snd.snd.snd.snd.snd.snd.snd.snd.snd.snd.snd.snd.fst +
 Int.toNat s.snd.snd.fst.snd.snd.snd.snd.snd.snd.snd.snd.snd.snd.snd.snd.snd.snd.fst +
 Int.toNat s.snd.snd.fst.snd.snd.snd.snd.snd.snd.snd.snd.snd.snd.snd.snd.snd.snd.snd.snd.fst +
 Int.toNat
 s.snd.snd.fst.snd.snd.snd.snd.snd.snd.snd.snd.snd.snd.snd.snd.snd.snd.snd.snd.snd.snd.fst +
 Int.toNat
 s.snd.snd.fst.snd.snd.snd.snd.snd.snd.snd.snd.snd.snd.snd.snd.snd.snd.snd.snd.snd.snd.snd.snd.fst +
 (300 : Nat))
 (fun
 (s :
 (Unit × List UInt8 × (Nat × Nat) × Int × Int × Unit) ×
 (Bool ×
 Bool ×
 Bool ×
 Bool ×
 Bool ×
 Bool ×
 Bool ×
 Bool ×
 Bool ×
 Bool × Bool × Bool × Bool × Int × Bool × List UInt8 × List UInt8 × Unit) ×
 (Int ×
 Unit ×
 Int ×
 Unit ×
 Int ×
 Unit ×
 Int ×
 Unit ×
 Int ×
 Unit ×
 Int ×
 Unit ×
 Int ×
 Unit ×
 Int × Unit × Int × Unit × Int × Unit × Int × Unit × Unit) ×
 Unit)
 (k :
 (Unit × List UInt8 × (Nat × Nat) × Int × Int × Unit) ×
 (Bool ×
 Bool ×
 Bool ×
 Bool ×
 Bool ×
 Bool ×
 Bool ×
 Bool ×
 Bool ×
 Bool ×
 Bool × Bool × Bool × Int × Bool × List UInt8 × List UInt8 × Unit) ×
 (Int ×
 Unit ×
 Int ×
 Unit ×
 Int ×
 Unit ×
 Int ×
 Unit ×
 Int ×
 Unit ×
 Int ×
 Unit ×
 Int ×
 Unit ×
 Int ×
 Unit × Int × Unit × Int × Unit × Int × Unit × Unit) ×
 Unit →
 Option
 ((Unit × List UInt8 × Unit) ×
 (Bool ×
 Bool ×
 Bool ×
 Bool ×
 Bool ×
 Bool ×
 Bool ×
 Bool ×
 Bool ×
 Bool ×
 Bool × Bool × Bool × Int × Bool × List UInt8 × List UInt8 × Unit) ×
 Unit)) =>
 bif decide (s.fst.snd.snd.snd.snd.fst < s.fst.snd.snd.snd.fst) then
 Option.bind
 (bif Nat.beq s.fst.snd.snd.fst.fst (0 : Nat) && Nat.beq s.fst.snd.snd.fst.snd (11 : Nat) then
 Option.bind
 (bif s.fst.snd.snd.snd.snd.fst == (↑(0 : Nat) : Int) then
 if (0 : Int) ≤ (↑(0 : Nat) : Int) ∧ (↑(0 : Nat) : Int) < (↑(11 : Nat) : Int) then
 Option.bind
 (bif s.snd.fst.fst then
 if
 List.length s.fst.snd.fst +
 List.length
 (List.map (fun (n : Int) => UInt8.ofNat (Int.toNat n))
 [s.snd.snd.fst.fst]) <
 (2 : Nat) ^ (63 : Nat) then
 some
 (((),
 s.fst.snd.fst ++
 List.map (fun (n : Int) => UInt8.ofNat (Int.toNat n)) [s.snd.snd.fst.fst],
 (), s.fst.snd.snd.snd.fst, (↑(0 : Nat) : Int), ()),
 s.snd.fst,
 (s.snd.snd.fst.fst, (), s.snd.snd.fst.snd.snd.fst, (),
 s.snd.snd.fst.snd.snd.snd.snd.fst, (),
 s.snd.snd.fst.snd.snd.snd.snd.snd.snd.fst, (),
 s.snd.snd.fst.snd.snd.snd.snd.snd.snd.snd.snd.fst, (),
 s.snd.snd.fst.snd.snd.snd.snd.snd.snd.snd.snd.snd.snd.fst, (),
 s.snd.snd.fst.snd.snd.snd.snd.snd.snd.snd.snd.snd.snd.snd.snd.fst, (),
 s.snd.snd.fst.snd.snd.snd.snd.snd.snd.snd.snd.snd.snd.snd.snd.snd.snd.fst, (),
 s.snd.snd.fst.snd.snd.snd.snd.snd.snd.snd.snd.snd.snd.snd.snd.snd.snd.snd.snd.fst,
 (),
 s.snd.snd.fst.snd.snd.snd.snd.snd.snd.snd.snd.snd.snd.snd.snd.snd.snd.snd.snd.snd.snd.fst,
 (),
 s.snd.snd.fst.snd.snd.snd.snd.snd.snd.snd.snd.snd.snd.snd.snd.snd.snd.snd.snd.snd.snd.snd.snd.fst,
 (), ()),
 ())
 else none
 else
 some
 (((), s.fst.snd.fst, (), s.fst.snd.snd.snd.fst, (↑(0 : Nat) : Int), ()), s.snd.fst,
 (s.snd.snd.fst.fst, (), s.snd.snd.fst.snd.snd.fst, (),
 s.snd.snd.fst.snd.snd.snd.snd.fst, (),
 s.snd.snd.fst.snd.snd.snd.snd.snd.snd.fst, (),
 s.snd.snd.fst.snd.snd.snd.snd.snd.snd.snd.snd.fst, (),
 s.snd.snd.fst.snd.snd.snd.snd.snd.snd.snd.snd.snd.snd.fst, (),
 s.snd.snd.fst.snd.snd.snd.snd.snd.snd.snd.snd.snd.snd.snd.snd.fst, (),
 s.snd.snd.fst.snd.snd.snd.snd.snd.snd.snd.snd.snd.snd.snd.snd.snd.snd.fst, (),
 s.snd.snd.fst.snd.snd.snd.snd.snd.snd.snd.snd.snd.snd.snd.snd.snd.snd.snd.snd.fst,
 (),
 s.snd.snd.fst.snd.snd.snd.snd.snd.snd.snd.snd.snd.snd.snd.snd.snd.snd.snd.snd.snd.snd.fst,
 (),
 s.snd.snd.fst.snd.snd.snd.snd.snd.snd.snd.snd.snd.snd.snd.snd.snd.snd.snd.snd.snd.snd.snd.snd.fst,
 (), ()),
 ()))
 fun
 (s :
 (Unit × List UInt8 × Unit × Int × Int × Unit) ×
 (Bool ×
 Bool ×
 Bool ×
 Bool ×
 Bool ×
 Bool ×
 Bool ×
 Bool ×
 Bool ×
 Bool ×
 Bool ×
 Bool ×
 Bool × Int × Bool × List UInt8 × List UInt8 × Unit) ×
 (Int ×
 Unit ×
 Int ×
 Unit ×
 Int ×
 Unit ×
 Int ×
 Unit ×
 Int ×
 Unit ×
 Int ×
 Unit ×
 Int ×
 Unit ×
 Int ×
 Unit ×
 Int ×
 Unit × Int × Unit × Int × Unit × Unit) ×
 Unit) =>
 some
 (((), s.fst.snd.fst, (), s.fst.snd.snd.snd), s.snd.fst,
 (s.snd.snd.fst.fst, (), s.snd.snd.fst.snd.snd.fst, (),
 s.snd.snd.fst.snd.snd.snd.snd.fst, (), s.snd.snd.fst.snd.snd.snd.snd.snd.snd.fst,
 (), s.snd.snd.fst.snd.snd.snd.snd.snd.snd.snd.snd.fst, (),
 s.snd.snd.fst.snd.snd.snd.snd.snd.snd.snd.snd.snd.snd.fst, (),
 s.snd.snd.fst.snd.snd.snd.snd.snd.snd.snd.snd.snd.snd.snd.snd.fst, (),
 s.snd.snd.fst.snd.snd.snd.snd.snd.snd.snd.snd.snd.snd.snd.snd.snd.snd.fst, (),
 s.snd.snd.fst.snd.snd.snd.snd.snd.snd.snd.snd.snd.snd.snd.snd.snd.snd.snd.snd.fst,
 (),
 s.snd.snd.fst.snd.snd.snd.snd.snd.snd.snd.snd.snd.snd.snd.snd.snd.snd.snd.snd.snd.snd.fst,
 (),
 s.snd.snd.fst.snd.snd.snd.snd.snd.snd.snd.snd.snd.snd.snd.snd.snd.snd.snd.snd.snd.snd.snd.snd.fst,
 (), ()),
 ())
 else none
 else
 bif s.fst.snd.snd.snd.snd.fst == (↑(1 : Nat) : Int) then
 if (0 : Int) ≤ (↑(1 : Nat) : Int) ∧ (↑(1 : Nat) : Int) < (↑(11 : Nat) : Int) then
 Option.bind
 (bif s.snd.fst.snd.fst then
 if
 List.length s.fst.snd.fst +
 List.length
 (List.map (fun (n : Int) => UInt8.ofNat (Int.toNat n))
 [s.snd.snd.fst.snd.snd.fst]) <
 (2 : Nat) ^ (63 : Nat) then
 some
 (((),
 s.fst.snd.fst ++
 List.map (fun (n : Int) => UInt8.ofNat (Int.toNat n))
 [s.snd.snd.fst.snd.snd.fst],
 (), s.fst.snd.snd.snd.fst, (↑(1 : Nat) : Int), ()),
 s.snd.fst,
 (s.snd.snd.fst.fst, (), s.snd.snd.fst.snd.snd.fst, (),
 s.snd.snd.fst.snd.snd.snd.snd.fst, (),
 s.snd.snd.fst.snd.snd.snd.snd.snd.snd.fst, (),
 s.snd.snd.fst.snd.snd.snd.snd.snd.snd.snd.snd.fst, (),
 s.snd.snd.fst.snd.snd.snd.snd.snd.snd.snd.snd.snd.snd.fst, (),
 s.snd.snd.fst.snd.snd.snd.snd.snd.snd.snd.snd.snd.snd.snd.snd.fst, (),
 s.snd.snd.fst.snd.snd.snd.snd.snd.snd.snd.snd.snd.snd.snd.snd.snd.snd.fst,
 (),
 s.snd.snd.fst.snd.snd.snd.snd.snd.snd.snd.snd.snd.snd.snd.snd.snd.snd.snd.snd.fst,
 (),
 s.snd.snd.fst.snd.snd.snd.snd.snd.snd.snd.snd.snd.snd.snd.snd.snd.snd.snd.snd.snd.snd.fst,
 (),
 s.snd.snd.fst.snd.snd.snd.snd.snd.snd.snd.snd.snd.snd.snd.snd.snd.snd.snd.snd.snd.snd.snd.snd.fst,
 (), ()),
 ())
 else none
 else
 some
 (((), s.fst.snd.fst, (), s.fst.snd.snd.snd.fst, (↑(1 : Nat) : Int), ()),
 s.snd.fst,
 (s.snd.snd.fst.fst, (), s.snd.snd.fst.snd.snd.fst, (),
 s.snd.snd.fst.snd.snd.snd.snd.fst, (),
 s.snd.snd.fst.snd.snd.snd.snd.snd.snd.fst, (),
 s.snd.snd.fst.snd.snd.snd.snd.snd.snd.snd.snd.fst, (),
 s.snd.snd.fst.snd.snd.snd.snd.snd.snd.snd.snd.snd.snd.fst, (),
 s.snd.snd.fst.snd.snd.snd.snd.snd.snd.snd.snd.snd.snd.snd.snd.fst, (),
 s.snd.snd.fst.snd.snd.snd.snd.snd.snd.snd.snd.snd.snd.snd.snd.snd.snd.fst, (),
 s.snd.snd.fst.snd.snd.snd.snd.snd.snd.snd.snd.snd.snd.snd.snd.snd.snd.snd.snd.fst,
 (),
 s.snd.snd.fst.snd.snd.snd.snd.snd.snd.snd.snd.snd.snd.snd.snd.snd.snd.snd.snd.snd.snd.fst,
 (),
 s.snd.snd.fst.snd.snd.snd.snd.snd.snd.snd.snd.snd.snd.snd.snd.snd.snd.snd.snd.snd.snd.snd.snd.fst,
 (), ()),
 ()))
 fun
 (s :
 (Unit × List UInt8 × Unit × Int × Int × Unit) ×
 (Bool ×
 Bool ×
 Bool ×
 Bool ×
 Bool ×
 Bool ×
 Bool ×
 Bool ×
 Bool ×
 Bool ×
 Bool ×
 Bool ×
 Bool × Int × Bool × List UInt8 × List UInt8 × Unit) ×
 (Int ×
 Unit ×
 Int ×
 Unit ×
 Int ×
 Unit ×
 Int ×
 Unit ×
 Int ×
 Unit ×
 Int ×
 Unit ×
 Int ×
 Unit ×
 Int ×
 Unit ×
 Int ×
 Unit ×
 Int × Unit × Int × Unit × Unit) ×
 Unit) =>
 some
 (((), s.fst.snd.fst, (), s.fst.snd.snd.snd), s.snd.fst,
 (s.snd.snd.fst.fst, (), s.snd.snd.fst.snd.snd.fst, (),
 s.snd.snd.fst.snd.snd.snd.snd.fst, (),
 s.snd.snd.fst.snd.snd.snd.snd.snd.snd.fst, (),
 s.snd.snd.fst.snd.snd.snd.snd.snd.snd.snd.snd.fst, (),
 s.snd.snd.fst.snd.snd.snd.snd.snd.snd.snd.snd.snd.snd.fst, (),
 s.snd.snd.fst.snd.snd.snd.snd.snd.snd.snd.snd.snd.snd.snd.snd.fst, (),
 s.snd.snd.fst.snd.snd.snd.snd.snd.snd.snd.snd.snd.snd.snd.snd.snd.snd.fst, (),
 s.snd.snd.fst.snd.snd.snd.snd.snd.snd.snd.snd.snd.snd.snd.snd.snd.snd.snd.snd.fst,
 (),
 s.snd.snd.fst.snd.snd.snd.snd.snd.snd.snd.snd.snd.snd.snd.snd.snd.snd.snd.snd.snd.snd.fst,
 (),
 s.snd.snd.fst.snd.snd.snd.snd.snd.snd.snd.snd.snd.snd.snd.snd.snd.snd.snd.snd.snd.snd.snd.snd.fst,
 (), ()),
 ())
 else none
 else
 bif s.fst.snd.snd.snd.snd.fst == (↑(2 : Nat) : Int) then
 if (0 : Int) ≤ (↑(2 : Nat) : Int) ∧ (↑(2 : Nat) : Int) < (↑(11 : Nat) : Int) then
 Option.bind
 (bif s.snd.fst.snd.snd.fst then
 if
 List.length s.fst.snd.fst +
 List.length
 (List.map (fun (n : Int) => UInt8.ofNat (Int.toNat n))
 [s.snd.snd.fst.snd.snd.snd.snd.fst]) <
 (2 : Nat) ^ (63 : Nat) then
 some
 (((),
 s.fst.snd.fst ++
 List.map (fun (n : Int) => UInt8.ofNat (Int.toNat n))
 [s.snd.snd.fst.snd.snd.snd.snd.fst],
 (), s.fst.snd.snd.snd.fst, (↑(2 : Nat) : Int), ()),
 s.snd.fst,
 (s.snd.snd.fst.fst, (), s.snd.snd.fst.snd.snd.fst, (),
 s.snd.snd.fst.snd.snd.snd.snd.fst, (),
 s.snd.snd.fst.snd.snd.snd.snd.snd.snd.fst, (),
 s.snd.snd.fst.snd.snd.snd.snd.snd.snd.snd.snd.fst, (),
 s.snd.snd.fst.snd.snd.snd.snd.snd.snd.snd.snd.snd.snd.fst, (),
 s.snd.snd.fst.snd.snd.snd.snd.snd.snd.snd.snd.snd.snd.snd.snd.fst, (),
 s.snd.snd.fst.snd.snd.snd.snd.snd.snd.snd.snd.snd.snd.snd.snd.snd.snd.fst,
 (),
 s.snd.snd.fst.snd.snd.snd.snd.snd.snd.snd.snd.snd.snd.snd.snd.snd.snd.snd.snd.fst,
 (),
 s.snd.snd.fst.snd.snd.snd.snd.snd.snd.snd.snd.snd.snd.snd.snd.snd.snd.snd.snd.snd.snd.fst,
 (),
 s.snd.snd.fst.snd.snd.snd.snd.snd.snd.snd.snd.snd.snd.snd.snd.snd.snd.snd.snd.snd.snd.snd.snd.fst,
 (), ()),
 ())
 else none
 else
 some
 (((), s.fst.snd.fst, (), s.fst.snd.snd.snd.fst, (↑(2 : Nat) : Int), ()),
 s.snd.fst,
 (s.snd.snd.fst.fst, (), s.snd.snd.fst.snd.snd.fst, (),
 s.snd.snd.fst.snd.snd.snd.snd.fst, (),
 s.snd.snd.fst.snd.snd.snd.snd.snd.snd.fst, (),
 s.snd.snd.fst.snd.snd.snd.snd.snd.snd.snd.snd.fst, (),
 s.snd.snd.fst.snd.snd.snd.snd.snd.snd.snd.snd.snd.snd.fst, (),
 s.snd.snd.fst.snd.snd.snd.snd.snd.snd.snd.snd.snd.snd.snd.snd.fst, (),
 s.snd.snd.fst.snd.snd.snd.snd.snd.snd.snd.snd.snd.snd.snd.snd.snd.snd.fst,
 (),
 s.snd.snd.fst.snd.snd.snd.snd.snd.snd.snd.snd.snd.snd.snd.snd.snd.snd.snd.snd.fst,
 (),
 s.snd.snd.fst.snd.snd.snd.snd.snd.snd.snd.snd.snd.snd.snd.snd.snd.snd.snd.snd.snd.snd.fst,
 (),
 s.snd.snd.fst.snd.snd.snd.snd.snd.snd.snd.snd.snd.snd.snd.snd.snd.snd.snd.snd.snd.snd.snd.snd.fst,
 (), ()),
 ()))
 fun
 (s :
 (Unit × List UInt8 × Unit × Int × Int × Unit) ×
 (Bool ×
 Bool ×
 Bool ×
 Bool ×
 Bool ×
 Bool ×
 Bool ×
 Bool ×
 Bool ×
 Bool ×
 Bool ×
 Bool ×
 Bool ×
 Int × Bool × List UInt8 × List UInt8 × Unit) ×
 (Int ×
 Unit ×
 Int ×
 Unit ×
 Int ×
 Unit ×
 Int ×
 Unit ×
 Int ×
 Unit ×
 Int ×
 Unit ×
 Int ×
 Unit ×
 Int ×
 Unit ×
 Int ×
 Unit ×
 Int × Unit × Int × Unit × Unit) ×
 Unit) =>
 some
 (((), s.fst.snd.fst, (), s.fst.snd.snd.snd), s.snd.fst,
 (s.snd.snd.fst.fst, (), s.snd.snd.fst.snd.snd.fst, (),
 s.snd.snd.fst.snd.snd.snd.snd.fst, (),
 s.snd.snd.fst.snd.snd.snd.snd.snd.snd.fst, (),
 s.snd.snd.fst.snd.snd.snd.snd.snd.snd.snd.snd.fst, (),
 s.snd.snd.fst.snd.snd.snd.snd.snd.snd.snd.snd.snd.snd.fst, (),
 s.snd.snd.fst.snd.snd.snd.snd.snd.snd.snd.snd.snd.snd.snd.snd.fst, (),
 s.snd.snd.fst.snd.snd.snd.snd.snd.snd.snd.snd.snd.snd.snd.snd.snd.snd.fst, (),
 s.snd.snd.fst.snd.snd.snd.snd.snd.snd.snd.snd.snd.snd.snd.snd.snd.snd.snd.snd.fst,
 (),
 s.snd.snd.fst.snd.snd.snd.snd.snd.snd.snd.snd.snd.snd.snd.snd.snd.snd.snd.snd.snd.snd.fst,
 (),
 s.snd.snd.fst.snd.snd.snd.snd.snd.snd.snd.snd.snd.snd.snd.snd.snd.snd.snd.snd.snd.snd.snd.snd.fst,
 (), ()),
 ())
 else none
 else
 bif s.fst.snd.snd.snd.snd.fst == (↑(3 : Nat) : Int) then
 if (0 : Int) ≤ (↑(3 : Nat) : Int) ∧ (↑(3 : Nat) : Int) < (↑(11 : Nat) : Int) then
 Option.bind
 (bif s.snd.fst.snd.snd.snd.fst then
 if
 List.length s.fst.snd.fst +
 List.length
 (List.map (fun (n : Int) => UInt8.ofNat (Int.toNat n))
 [s.snd.snd.fst.snd.snd.snd.snd.snd.snd.fst]) <
 (2 : Nat) ^ (63 : Nat) then
 some
 (((),
 s.fst.snd.fst ++
 List.map (fun (n : Int) => UInt8.ofNat (Int.toNat n))
 [s.snd.snd.fst.snd.snd.snd.snd.snd.snd.fst],
 (), s.fst.snd.snd.snd.fst, (↑(3 : Nat) : Int), ()),
 s.snd.fst,
 (s.snd.snd.fst.fst, (), s.snd.snd.fst.snd.snd.fst, (),
 s.snd.snd.fst.snd.snd.snd.snd.fst, (),
 s.snd.snd.fst.snd.snd.snd.snd.snd.snd.fst, (),
 s.snd.snd.fst.snd.snd.snd.snd.snd.snd.snd.snd.fst, (),
 s.snd.snd.fst.snd.snd.snd.snd.snd.snd.snd.snd.snd.snd.fst, (),
 s.snd.snd.fst.snd.snd.snd.snd.snd.snd.snd.snd.snd.snd.snd.snd.fst, (),
 s.snd.snd.fst.snd.snd.snd.snd.snd.snd.snd.snd.snd.snd.snd.snd.snd.snd.fst,
 (),
 s.snd.snd.fst.snd.snd.snd.snd.snd.snd.snd.snd.snd.snd.snd.snd.snd.snd.snd.snd.fst,
 (),
 s.snd.snd.fst.snd.snd.snd.snd.snd.snd.snd.snd.snd.snd.snd.snd.snd.snd.snd.snd.snd.snd.fst,
 (),
 s.snd.snd.fst.snd.snd.snd.snd.snd.snd.snd.snd.snd.snd.snd.snd.snd.snd.snd.snd.snd.snd.snd.snd.fst,
 (), ()),
 ())
 else none
 else
 some
 (((), s.fst.snd.fst, (), s.fst.snd.snd.snd.fst, (↑(3 : Nat) : Int), ()),
 s.snd.fst,
 (s.snd.snd.fst.fst, (), s.snd.snd.fst.snd.snd.fst, (),
 s.snd.snd.fst.snd.snd.snd.snd.fst, (),
 s.snd.snd.fst.snd.snd.snd.snd.snd.snd.fst, (),
 s.snd.snd.fst.snd.snd.snd.snd.snd.snd.snd.snd.fst, (),
 s.snd.snd.fst.snd.snd.snd.snd.snd.snd.snd.snd.snd.snd.fst, (),
 s.snd.snd.fst.snd.snd.snd.snd.snd.snd.snd.snd.snd.snd.snd.snd.fst, (),
 s.snd.snd.fst.snd.snd.snd.snd.snd.snd.snd.snd.snd.snd.snd.snd.snd.snd.fst,
 (),
 s.snd.snd.fst.snd.snd.snd.snd.snd.snd.snd.snd.snd.snd.snd.snd.snd.snd.snd.snd.fst,
 (),
 s.snd.snd.fst.snd.snd.snd.snd.snd.snd.snd.snd.snd.snd.snd.snd.snd.snd.snd.snd.snd.snd.fst,
 (),
 s.snd.snd.fst.snd.snd.snd.snd.snd.snd.snd.snd.snd.snd.snd.snd.snd.snd.snd.snd.snd.snd.snd.snd.fst,
 (), ()),
 ()))
 fun
 (s :
 (Unit × List UInt8 × Unit × Int × Int × Unit) ×
 (Bool ×
 Bool ×
 Bool ×
 Bool ×
 Bool ×
 Bool ×
 Bool ×
 Bool ×
 Bool ×
 Bool ×
 Bool ×
 Bool ×
 Bool ×
 Int × Bool × List UInt8 × List UInt8 × Unit) ×
 (Int ×
 Unit ×
 Int ×
 Unit ×
 Int ×
 Unit ×
 Int ×
 Unit ×
 Int ×
 Unit ×
 Int ×
 Unit ×
 Int ×
 Unit ×
 Int ×
 Unit ×
 Int ×
 Unit ×
 Int × Unit × Int × Unit × Unit) ×
 Unit) =>
 some
 (((), s.fst.snd.fst, (), s.fst.snd.snd.snd), s.snd.fst,
 (s.snd.snd.fst.fst, (), s.snd.snd.fst.snd.snd.fst, (),
 s.snd.snd.fst.snd.snd.snd.snd.fst, (),
 s.snd.snd.fst.snd.snd.snd.snd.snd.snd.fst, (),
 s.snd.snd.fst.snd.snd.snd.snd.snd.snd.snd.snd.fst, (),
 s.snd.snd.fst.snd.snd.snd.snd.snd.snd.snd.snd.snd.snd.fst, (),
 s.snd.snd.fst.snd.snd.snd.snd.snd.snd.snd.snd.snd.snd.snd.snd.fst, (),
 s.snd.snd.fst.snd.snd.snd.snd.snd.snd.snd.snd.snd.snd.snd.snd.snd.snd.fst,
 (),
 s.snd.snd.fst.snd.snd.snd.snd.snd.snd.snd.snd.snd.snd.snd.snd.snd.snd.snd.snd.fst,
 (),
 s.snd.snd.fst.snd.snd.snd.snd.snd.snd.snd.snd.snd.snd.snd.snd.snd.snd.snd.snd.snd.snd.fst,
 (),
 s.snd.snd.fst.snd.snd.snd.snd.snd.snd.snd.snd.snd.snd.snd.snd.snd.snd.snd.snd.snd.snd.snd.snd.fst,
 (), ()),
 ())
 else none
 else
 bif s.fst.snd.snd.snd.snd.fst == (↑(4 : Nat) : Int) then
 if (0 : Int) ≤ (↑(4 : Nat) : Int) ∧ (↑(4 : Nat) : Int) < (↑(11 : Nat) : Int) then
 Option.bind
 (bif s.snd.fst.snd.snd.snd.snd.fst then
 if
 List.length s.fst.snd.fst +
 List.length
 (List.map (fun (n : Int) => UInt8.ofNat (Int.toNat n))
 [s.snd.snd.fst.snd.snd.snd.snd.snd.snd.snd.snd.fst]) <
 (2 : Nat) ^ (63 : Nat) then
 some
 (((),
 s.fst.snd.fst ++
 List.map (fun (n : Int) => UInt8.ofNat (Int.toNat n))
 [s.snd.snd.fst.snd.snd.snd.snd.snd.snd.snd.snd.fst],
 (), s.fst.snd.snd.snd.fst, (↑(4 : Nat) : Int), ()),
 s.snd.fst,
 (s.snd.snd.fst.fst, (), s.snd.snd.fst.snd.snd.fst, (),
 s.snd.snd.fst.snd.snd.snd.snd.fst, (),
 s.snd.snd.fst.snd.snd.snd.snd.snd.snd.fst, (),
 s.snd.snd.fst.snd.snd.snd.snd.snd.snd.snd.snd.fst, (),
 s.snd.snd.fst.snd.snd.snd.snd.snd.snd.snd.snd.snd.snd.fst, (),
 s.snd.snd.fst.snd.snd.snd.snd.snd.snd.snd.snd.snd.snd.snd.snd.fst, (),
 s.snd.snd.fst.snd.snd.snd.snd.snd.snd.snd.snd.snd.snd.snd.snd.snd.snd.fst,
 (),
 s.snd.snd.fst.snd.snd.snd.snd.snd.snd.snd.snd.snd.snd.snd.snd.snd.snd.snd.snd.fst,
 (),
 s.snd.snd.fst.snd.snd.snd.snd.snd.snd.snd.snd.snd.snd.snd.snd.snd.snd.snd.snd.snd.snd.fst,
 (),
 s.snd.snd.fst.snd.snd.snd.snd.snd.snd.snd.snd.snd.snd.snd.snd.snd.snd.snd.snd.snd.snd.snd.snd.fst,
 (), ()),
 ())
 else none
 else
 some
 (((), s.fst.snd.fst, (), s.fst.snd.snd.snd.fst, (↑(4 : Nat) : Int), ()),
 s.snd.fst,
 (s.snd.snd.fst.fst, (), s.snd.snd.fst.snd.snd.fst, (),
 s.snd.snd.fst.snd.snd.snd.snd.fst, (),
 s.snd.snd.fst.snd.snd.snd.snd.snd.snd.fst, (),
 s.snd.snd.fst.snd.snd.snd.snd.snd.snd.snd.snd.fst, (),
 s.snd.snd.fst.snd.snd.snd.snd.snd.snd.snd.snd.snd.snd.fst, (),
 s.snd.snd.fst.snd.snd.snd.snd.snd.snd.snd.snd.snd.snd.snd.snd.fst, (),
 s.snd.snd.fst.snd.snd.snd.snd.snd.snd.snd.snd.snd.snd.snd.snd.snd.snd.fst,
 (),
 s.snd.snd.fst.snd.snd.snd.snd.snd.snd.snd.snd.snd.snd.snd.snd.snd.snd.snd.snd.fst,
 (),
 s.snd.snd.fst.snd.snd.snd.snd.snd.snd.snd.snd.snd.snd.snd.snd.snd.snd.snd.snd.snd.snd.fst,
 (),
 s.snd.snd.fst.snd.snd.snd.snd.snd.snd.snd.snd.snd.snd.snd.snd.snd.snd.snd.snd.snd.snd.snd.snd.fst,
 (), ()),
 ()))
 fun
 (s :
 (Unit × List UInt8 × Unit × Int × Int × Unit) ×
 (Bool ×
 Bool ×
 Bool ×
 Bool ×
 Bool ×
 Bool ×
 Bool ×
 Bool ×
 Bool ×
 Bool ×
 Bool ×
 Bool ×
 Bool ×
 Int ×
 Bool × List UInt8 × List UInt8 × Unit) ×
 (Int ×
 Unit ×
 Int ×
 Unit ×
 Int ×
 Unit ×
 Int ×
 Unit ×
 Int ×
 Unit ×
 Int ×
 Unit ×
 Int ×
 Unit ×
 Int ×
 Unit ×
 Int ×
 Unit ×
 Int ×
 Unit × Int × Unit × Unit) ×
 Unit) =>
 some
 (((), s.fst.snd.fst, (), s.fst.snd.snd.snd), s.snd.fst,
 (s.snd.snd.fst.fst, (), s.snd.snd.fst.snd.snd.fst, (),
 s.snd.snd.fst.snd.snd.snd.snd.fst, (),
 s.snd.snd.fst.snd.snd.snd.snd.snd.snd.fst, (),
 s.snd.snd.fst.snd.snd.snd.snd.snd.snd.snd.snd.fst, (),
 s.snd.snd.fst.snd.snd.snd.snd.snd.snd.snd.snd.snd.snd.fst, (),
 s.snd.snd.fst.snd.snd.snd.snd.snd.snd.snd.snd.snd.snd.snd.snd.fst, (),
 s.snd.snd.fst.snd.snd.snd.snd.snd.snd.snd.snd.snd.snd.snd.snd.snd.snd.fst,
 (),
 s.snd.snd.fst.snd.snd.snd.snd.snd.snd.snd.snd.snd.snd.snd.snd.snd.snd.snd.snd.fst,
 (),
 s.snd.snd.fst.snd.snd.snd.snd.snd.snd.snd.snd.snd.snd.snd.snd.snd.snd.snd.snd.snd.snd.fst,
 (),
 s.snd.snd.fst.snd.snd.snd.snd.snd.snd.snd.snd.snd.snd.snd.snd.snd.snd.snd.snd.snd.snd.snd.snd.fst,
 (), ()),
 ())
 else none
 else
 bif s.fst.snd.snd.snd.snd.fst == (↑(5 : Nat) : Int) then
 if (0 : Int) ≤ (↑(5 : Nat) : Int) ∧ (↑(5 : Nat) : Int) < (↑(11 : Nat) : Int) then
 Option.bind
 (bif s.snd.fst.snd.snd.snd.snd.snd.fst then
 if
 List.length s.fst.snd.fst +
 List.length
 (List.map (fun (n : Int) => UInt8.ofNat (Int.toNat n))
 [s.snd.snd.fst.snd.snd.snd.snd.snd.snd.snd.snd.snd.snd.fst]) <
 (2 : Nat) ^ (63 : Nat) then
 some
 (((),
 s.fst.snd.fst ++
 List.map (fun (n : Int) => UInt8.ofNat (Int.toNat n))
 [s.snd.snd.fst.snd.snd.snd.snd.snd.snd.snd.snd.snd.snd.fst],
 (), s.fst.snd.snd.snd.fst, (↑(5 : Nat) : Int), ()),
 s.snd.fst,
 (s.snd.snd.fst.fst, (), s.snd.snd.fst.snd.snd.fst, (),
 s.snd.snd.fst.snd.snd.snd.snd.fst, (),
 s.snd.snd.fst.snd.snd.snd.snd.snd.snd.fst, (),
 s.snd.snd.fst.snd.snd.snd.snd.snd.snd.snd.snd.fst, (),
 s.snd.snd.fst.snd.snd.snd.snd.snd.snd.snd.snd.snd.snd.fst, (),
 s.snd.snd.fst.snd.snd.snd.snd.snd.snd.snd.snd.snd.snd.snd.snd.fst,
 (),
 s.snd.snd.fst.snd.snd.snd.snd.snd.snd.snd.snd.snd.snd.snd.snd.snd.snd.fst,
 (),
 s.snd.snd.fst.snd.snd.snd.snd.snd.snd.snd.snd.snd.snd.snd.snd.snd.snd.snd.snd.fst,
 (),
 s.snd.snd.fst.snd.snd.snd.snd.snd.snd.snd.snd.snd.snd.snd.snd.snd.snd.snd.snd.snd.snd.fst,
 (),
 s.snd.snd.fst.snd.snd.snd.snd.snd.snd.snd.snd.snd.snd.snd.snd.snd.snd.snd.snd.snd.snd.snd.snd.fst,
 (), ()),
 ())
 else none
 else
 some
 (((), s.fst.snd.fst, (), s.fst.snd.snd.snd.fst, (↑(5 : Nat) : Int), ()),
 s.snd.fst,
 (s.snd.snd.fst.fst, (), s.snd.snd.fst.snd.snd.fst, (),
 s.snd.snd.fst.snd.snd.snd.snd.fst, (),
 s.snd.snd.fst.snd.snd.snd.snd.snd.snd.fst, (),
 s.snd.snd.fst.snd.snd.snd.snd.snd.snd.snd.snd.fst, (),
 s.snd.snd.fst.snd.snd.snd.snd.snd.snd.snd.snd.snd.snd.fst, (),
 s.snd.snd.fst.snd.snd.snd.snd.snd.snd.snd.snd.snd.snd.snd.snd.fst, (),
 s.snd.snd.fst.snd.snd.snd.snd.snd.snd.snd.snd.snd.snd.snd.snd.snd.snd.fst,
 (),
 s.snd.snd.fst.snd.snd.snd.snd.snd.snd.snd.snd.snd.snd.snd.snd.snd.snd.snd.snd.fst,
 (),
 s.snd.snd.fst.snd.snd.snd.snd.snd.snd.snd.snd.snd.snd.snd.snd.snd.snd.snd.snd.snd.snd.fst,
 (),
 s.snd.snd.fst.snd.snd.snd.snd.snd.snd.snd.snd.snd.snd.snd.snd.snd.snd.snd.snd.snd.snd.snd.snd.fst,
 (), ()),
 ()))
 fun
 (s :
 (Unit × List UInt8 × Unit × Int × Int × Unit) ×
 (Bool ×
 Bool ×
 Bool ×
 Bool ×
 Bool ×
 Bool ×
 Bool ×
 Bool ×
 Bool ×
 Bool ×
 Bool ×
 Bool ×
 Bool ×
 Int ×
 Bool × List UInt8 × List UInt8 × Unit) ×
 (Int ×
 Unit ×
 Int ×
 Unit ×
 Int ×
 Unit ×
 Int ×
 Unit ×
 Int ×
 Unit ×
 Int ×
 Unit ×
 Int ×
 Unit ×
 Int ×
 Unit ×
 Int ×
 Unit ×
 Int ×
 Unit × Int × Unit × Unit) ×
 Unit) =>
 some
 (((), s.fst.snd.fst, (), s.fst.snd.snd.snd), s.snd.fst,
 (s.snd.snd.fst.fst, (), s.snd.snd.fst.snd.snd.fst, (),
 s.snd.snd.fst.snd.snd.snd.snd.fst, (),
 s.snd.snd.fst.snd.snd.snd.snd.snd.snd.fst, (),
 s.snd.snd.fst.snd.snd.snd.snd.snd.snd.snd.snd.fst, (),
 s.snd.snd.fst.snd.snd.snd.snd.snd.snd.snd.snd.snd.snd.fst, (),
 s.snd.snd.fst.snd.snd.snd.snd.snd.snd.snd.snd.snd.snd.snd.snd.fst, (),
 s.snd.snd.fst.snd.snd.snd.snd.snd.snd.snd.snd.snd.snd.snd.snd.snd.snd.fst,
 (),
 s.snd.snd.fst.snd.snd.snd.snd.snd.snd.snd.snd.snd.snd.snd.snd.snd.snd.snd.snd.fst,
 (),
 s.snd.snd.fst.snd.snd.snd.snd.snd.snd.snd.snd.snd.snd.snd.snd.snd.snd.snd.snd.snd.snd.fst,
 (),
 s.snd.snd.fst.snd.snd.snd.snd.snd.snd.snd.snd.snd.snd.snd.snd.snd.snd.snd.snd.snd.snd.snd.snd.fst,
 (), ()),
 ())
 else none
 else
 bif s.fst.snd.snd.snd.snd.fst == (↑(6 : Nat) : Int) then
 if
 (0 : Int) ≤ (↑(6 : Nat) : Int) ∧
 (↑(6 : Nat) : Int) < (↑(11 : Nat) : Int) then
 Option.bind
 (bif s.snd.fst.snd.snd.snd.snd.snd.snd.snd.fst then
 if
 List.length s.fst.snd.fst +
 List.length
 (List.map (fun (n : Int) => UInt8.ofNat (Int.toNat n))
 [s.snd.snd.fst.snd.snd.snd.snd.snd.snd.snd.snd.snd.snd.snd.snd.fst]) <
 (2 : Nat) ^ (63 : Nat) then
 some
 (((),
 s.fst.snd.fst ++
 List.map (fun (n : Int) => UInt8.ofNat (Int.toNat n))
 [s.snd.snd.fst.snd.snd.snd.snd.snd.snd.snd.snd.snd.snd.snd.snd.fst],
 (), s.fst.snd.snd.snd.fst, (↑(6 : Nat) : Int), ()),
 s.snd.fst,
 (s.snd.snd.fst.fst, (), s.snd.snd.fst.snd.snd.fst, (),
 s.snd.snd.fst.snd.snd.snd.snd.fst, (),
 s.snd.snd.fst.snd.snd.snd.snd.snd.snd.fst, (),
 s.snd.snd.fst.snd.snd.snd.snd.snd.snd.snd.snd.fst, (),
 s.snd.snd.fst.snd.snd.snd.snd.snd.snd.snd.snd.snd.snd.fst, (),
 s.snd.snd.fst.snd.snd.snd.snd.snd.snd.snd.snd.snd.snd.snd.snd.fst,
 (),
 s.snd.snd.fst.snd.snd.snd.snd.snd.snd.snd.snd.snd.snd.snd.snd.snd.snd.fst,
 (),
 s.snd.snd.fst.snd.snd.snd.snd.snd.snd.snd.snd.snd.snd.snd.snd.snd.snd.snd.snd.fst,
 (),
 s.snd.snd.fst.snd.snd.snd.snd.snd.snd.snd.snd.snd.snd.snd.snd.snd.snd.snd.snd.snd.snd.fst,
 (),
 s.snd.snd.fst.snd.snd.snd.snd.snd.snd.snd.snd.snd.snd.snd.snd.snd.snd.snd.snd.snd.snd.snd.snd.fst,
 (), ()),
 ())
 else none
 else
 some
 (((), s.fst.snd.fst, (), s.fst.snd.snd.snd.fst, (↑(6 : Nat) : Int), ()),
 s.snd.fst,
 (s.snd.snd.fst.fst, (), s.snd.snd.fst.snd.snd.fst, (),
 s.snd.snd.fst.snd.snd.snd.snd.fst, (),
 s.snd.snd.fst.snd.snd.snd.snd.snd.snd.fst, (),
 s.snd.snd.fst.snd.snd.snd.snd.snd.snd.snd.snd.fst, (),
 s.snd.snd.fst.snd.snd.snd.snd.snd.snd.snd.snd.snd.snd.fst, (),
 s.snd.snd.fst.snd.snd.snd.snd.snd.snd.snd.snd.snd.snd.snd.snd.fst,
 (),
 s.snd.snd.fst.snd.snd.snd.snd.snd.snd.snd.snd.snd.snd.snd.snd.snd.snd.fst,
 (),
 s.snd.snd.fst.snd.snd.snd.snd.snd.snd.snd.snd.snd.snd.snd.snd.snd.snd.snd.snd.fst,
 (),
 s.snd.snd.fst.snd.snd.snd.snd.snd.snd.snd.snd.snd.snd.snd.snd.snd.snd.snd.snd.snd.snd.fst,
 (),
 s.snd.snd.fst.snd.snd.snd.snd.snd.snd.snd.snd.snd.snd.snd.snd.snd.snd.snd.snd.snd.snd.snd.snd.fst,
 (), ()),
 ()))
 fun
 (s :
 (Unit × List UInt8 × Unit × Int × Int × Unit) ×
 (Bool ×
 Bool ×
 Bool ×
 Bool ×
 Bool ×
 Bool ×
 Bool ×
 Bool ×
 Bool ×
 Bool ×
 Bool ×
 Bool ×
 Bool ×
 Int ×
 Bool ×
 List UInt8 × List UInt8 × Unit) ×
 (Int ×
 Unit ×
 Int ×
 Unit ×
 Int ×
 Unit ×
 Int ×
 Unit ×
 Int ×
 Unit ×
 Int ×
 Unit ×
 Int ×
 Unit ×
 Int ×
 Unit ×
 Int ×
 Unit ×
 Int ×
 Unit ×
 Int × Unit × Unit) ×
 Unit) =>
 some
 (((), s.fst.snd.fst, (), s.fst.snd.snd.snd), s.snd.fst,
 (s.snd.snd.fst.fst, (), s.snd.snd.fst.snd.snd.fst, (),
 s.snd.snd.fst.snd.snd.snd.snd.fst, (),
 s.snd.snd.fst.snd.snd.snd.snd.snd.snd.fst, (),
 s.snd.snd.fst.snd.snd.snd.snd.snd.snd.snd.snd.fst, (),
 s.snd.snd.fst.snd.snd.snd.snd.snd.snd.snd.snd.snd.snd.fst, (),
 s.snd.snd.fst.snd.snd.snd.snd.snd.snd.snd.snd.snd.snd.snd.snd.fst, (),
 s.snd.snd.fst.snd.snd.snd.snd.snd.snd.snd.snd.snd.snd.snd.snd.snd.snd.fst,
 (),
 s.snd.snd.fst.snd.snd.snd.snd.snd.snd.snd.snd.snd.snd.snd.snd.snd.snd.snd.snd.fst,
 (),
 s.snd.snd.fst.snd.snd.snd.snd.snd.snd.snd.snd.snd.snd.snd.snd.snd.snd.snd.snd.snd.snd.fst,
 (),
 s.snd.snd.fst.snd.snd.snd.snd.snd.snd.snd.snd.snd.snd.snd.snd.snd.snd.snd.snd.snd.snd.snd.snd.fst,
 (), ()),
 ())
 else none
 else
 bif s.fst.snd.snd.snd.snd.fst == (↑(7 : Nat) : Int) then
 if
 (0 : Int) ≤ (↑(7 : Nat) : Int) ∧
 (↑(7 : Nat) : Int) < (↑(11 : Nat) : Int) then
 Option.bind
 (bif s.snd.fst.snd.snd.snd.snd.snd.snd.snd.snd.fst then
 if
 List.length s.fst.snd.fst +
 List.length
 (List.map (fun (n : Int) => UInt8.ofNat (Int.toNat n))
 [s.snd.snd.fst.snd.snd.snd.snd.snd.snd.snd.snd.snd.snd.snd.snd.snd.snd.fst]) <
 (2 : Nat) ^ (63 : Nat) then
 some
 (((),
 s.fst.snd.fst ++
 List.map (fun (n : Int) => UInt8.ofNat (Int.toNat n))
 [s.snd.snd.fst.snd.snd.snd.snd.snd.snd.snd.snd.snd.snd.snd.snd.snd.snd.fst],
 (), s.fst.snd.snd.snd.fst, (↑(7 : Nat) : Int), ()),
 s.snd.fst,
 (s.snd.snd.fst.fst, (), s.snd.snd.fst.snd.snd.fst, (),
 s.snd.snd.fst.snd.snd.snd.snd.fst, (),
 s.snd.snd.fst.snd.snd.snd.snd.snd.snd.fst, (),
 s.snd.snd.fst.snd.snd.snd.snd.snd.snd.snd.snd.fst, (),
 s.snd.snd.fst.snd.snd.snd.snd.snd.snd.snd.snd.snd.snd.fst, (),
 s.snd.snd.fst.snd.snd.snd.snd.snd.snd.snd.snd.snd.snd.snd.snd.fst,
 (),
 s.snd.snd.fst.snd.snd.snd.snd.snd.snd.snd.snd.snd.snd.snd.snd.snd.snd.fst,
 (),
 s.snd.snd.fst.snd.snd.snd.snd.snd.snd.snd.snd.snd.snd.snd.snd.snd.snd.snd.snd.fst,
 (),
 s.snd.snd.fst.snd.snd.snd.snd.snd.snd.snd.snd.snd.snd.snd.snd.snd.snd.snd.snd.snd.snd.fst,
 (),
 s.snd.snd.fst.snd.snd.snd.snd.snd.snd.snd.snd.snd.snd.snd.snd.snd.snd.snd.snd.snd.snd.snd.snd.fst,
 (), ()),
 ())
 else none
 else
 some
 (((), s.fst.snd.fst, (), s.fst.snd.snd.snd.fst, (↑(7 : Nat) : Int),
 ()),
 s.snd.fst,
 (s.snd.snd.fst.fst, (), s.snd.snd.fst.snd.snd.fst, (),
 s.snd.snd.fst.snd.snd.snd.snd.fst, (),
 s.snd.snd.fst.snd.snd.snd.snd.snd.snd.fst, (),
 s.snd.snd.fst.snd.snd.snd.snd.snd.snd.snd.snd.fst, (),
 s.snd.snd.fst.snd.snd.snd.snd.snd.snd.snd.snd.snd.snd.fst, (),
 s.snd.snd.fst.snd.snd.snd.snd.snd.snd.snd.snd.snd.snd.snd.snd.fst,
 (),
 s.snd.snd.fst.snd.snd.snd.snd.snd.snd.snd.snd.snd.snd.snd.snd.snd.snd.fst,
 (),
 s.snd.snd.fst.snd.snd.snd.snd.snd.snd.snd.snd.snd.snd.snd.snd.snd.snd.snd.snd.fst,
 (),
 s.snd.snd.fst.snd.snd.snd.snd.snd.snd.snd.snd.snd.snd.snd.snd.snd.snd.snd.snd.snd.snd.fst,
 (),
 s.snd.snd.fst.snd.snd.snd.snd.snd.snd.snd.snd.snd.snd.snd.snd.snd.snd.snd.snd.snd.snd.snd.snd.fst,
 (), ()),
 ()))
 fun
 (s :
 (Unit × List UInt8 × Unit × Int × Int × Unit) ×
 (Bool ×
 Bool ×
 Bool ×
 Bool ×
 Bool ×
 Bool ×
 Bool ×
 Bool ×
 Bool ×
 Bool ×
 Bool ×
 Bool ×
 Bool ×
 Int ×
 Bool ×
 List UInt8 × List UInt8 × Unit) ×
 (Int ×
 Unit ×
 Int ×
 Unit ×
 Int ×
 Unit ×
 Int ×
 Unit ×
 Int ×
 Unit ×
 Int ×
 Unit ×
 Int ×
 Unit ×
 Int ×
 Unit ×
 Int ×
 Unit ×
 Int ×
 Unit ×
 Int × Unit × Unit) ×
 Unit) =>
 some
 (((), s.fst.snd.fst, (), s.fst.snd.snd.snd), s.snd.fst,
 (s.snd.snd.fst.fst, (), s.snd.snd.fst.snd.snd.fst, (),
 s.snd.snd.fst.snd.snd.snd.snd.fst, (),
 s.snd.snd.fst.snd.snd.snd.snd.snd.snd.fst, (),
 s.snd.snd.fst.snd.snd.snd.snd.snd.snd.snd.snd.fst, (),
 s.snd.snd.fst.snd.snd.snd.snd.snd.snd.snd.snd.snd.snd.fst, (),
 s.snd.snd.fst.snd.snd.snd.snd.snd.snd.snd.snd.snd.snd.snd.snd.fst,
 (),
 s.snd.snd.fst.snd.snd.snd.snd.snd.snd.snd.snd.snd.snd.snd.snd.snd.snd.fst,
 (),
 s.snd.snd.fst.snd.snd.snd.snd.snd.snd.snd.snd.snd.snd.snd.snd.snd.snd.snd.snd.fst,
 (),
 s.snd.snd.fst.snd.snd.snd.snd.snd.snd.snd.snd.snd.snd.snd.snd.snd.snd.snd.snd.snd.snd.fst,
 (),
 s.snd.snd.fst.snd.snd.snd.snd.snd.snd.snd.snd.snd.snd.snd.snd.snd.snd.snd.snd.snd.snd.snd.snd.fst,
 (), ()),
 ())
 else none
 else
 bif s.fst.snd.snd.snd.snd.fst == (↑(8 : Nat) : Int) then
 if
 (0 : Int) ≤ (↑(8 : Nat) : Int) ∧
 (↑(8 : Nat) : Int) < (↑(11 : Nat) : Int) then
 Option.bind
 (bif s.snd.fst.snd.snd.snd.snd.snd.snd.snd.snd.snd.fst then
 if
 List.length s.fst.snd.fst +
 List.length
 (List.map (fun (n : Int) => UInt8.ofNat (Int.toNat n))
 [s.snd.snd.fst.snd.snd.snd.snd.snd.snd.snd.snd.snd.snd.snd.snd.snd.snd.snd.snd.fst]) <
 (2 : Nat) ^ (63 : Nat) then
 some
 (((),
 s.fst.snd.fst ++
 List.map (fun (n : Int) => UInt8.ofNat (Int.toNat n))
 [s.snd.snd.fst.snd.snd.snd.snd.snd.snd.snd.snd.snd.snd.snd.snd.snd.snd.snd.snd.fst],
 (), s.fst.snd.snd.snd.fst, (↑(8 : Nat) : Int), ()),
 s.snd.fst,
 (s.snd.snd.fst.fst, (), s.snd.snd.fst.snd.snd.fst, (),
 s.snd.snd.fst.snd.snd.snd.snd.fst, (),
 s.snd.snd.fst.snd.snd.snd.snd.snd.snd.fst, (),
 s.snd.snd.fst.snd.snd.snd.snd.snd.snd.snd.snd.fst, (),
 s.snd.snd.fst.snd.snd.snd.snd.snd.snd.snd.snd.snd.snd.fst, (),
 s.snd.snd.fst.snd.snd.snd.snd.snd.snd.snd.snd.snd.snd.snd.snd.fst,
 (),
 s.snd.snd.fst.snd.snd.snd.snd.snd.snd.snd.snd.snd.snd.snd.snd.snd.snd.fst,
 (),
 s.snd.snd.fst.snd.snd.snd.snd.snd.snd.snd.snd.snd.snd.snd.snd.snd.snd.snd.snd.fst,
 (),
 s.snd.snd.fst.snd.snd.snd.snd.snd.snd.snd.snd.snd.snd.snd.snd.snd.snd.snd.snd.snd.snd.fst,
 (),
 s.snd.snd.fst.snd.snd.snd.snd.snd.snd.snd.snd.snd.snd.snd.snd.snd.snd.snd.snd.snd.snd.snd.snd.fst,
 (), ()),
 ())
 else none
 else
 some
 (((), s.fst.snd.fst, (), s.fst.snd.snd.snd.fst, (↑(8 : Nat) : Int),
 ()),
 s.snd.fst,
 (s.snd.snd.fst.fst, (), s.snd.snd.fst.snd.snd.fst, (),
 s.snd.snd.fst.snd.snd.snd.snd.fst, (),
 s.snd.snd.fst.snd.snd.snd.snd.snd.snd.fst, (),
 s.snd.snd.fst.snd.snd.snd.snd.snd.snd.snd.snd.fst, (),
 s.snd.snd.fst.snd.snd.snd.snd.snd.snd.snd.snd.snd.snd.fst, (),
 s.snd.snd.fst.snd.snd.snd.snd.snd.snd.snd.snd.snd.snd.snd.snd.fst,
 (),
 s.snd.snd.fst.snd.snd.snd.snd.snd.snd.snd.snd.snd.snd.snd.snd.snd.snd.fst,
 (),
 s.snd.snd.fst.snd.snd.snd.snd.snd.snd.snd.snd.snd.snd.snd.snd.snd.snd.snd.snd.fst,
 (),
 s.snd.snd.fst.snd.snd.snd.snd.snd.snd.snd.snd.snd.snd.snd.snd.snd.snd.snd.snd.snd.snd.fst,
 (),
 s.snd.snd.fst.snd.snd.snd.snd.snd.snd.snd.snd.snd.snd.snd.snd.snd.snd.snd.snd.snd.snd.snd.snd.fst,
 (), ()),
 ()))
 fun
 (s :
 (Unit × List UInt8 × Unit × Int × Int × Unit) ×
 (Bool ×
 Bool ×
 Bool ×
 Bool ×
 Bool ×
 Bool ×
 Bool ×
 Bool ×
 Bool ×
 Bool ×
 Bool ×
 Bool ×
 Bool ×
 Int ×
 Bool ×
 List UInt8 × List UInt8 × Unit) ×
 (Int ×
 Unit ×
 Int ×
 Unit ×
 Int ×
 Unit ×
 Int ×
 Unit ×
 Int ×
 Unit ×
 Int ×
 Unit ×
 Int ×
 Unit ×
 Int ×
 Unit ×
 Int ×
 Unit ×
 Int ×
 Unit ×
 Int × Unit × Unit) ×
 Unit) =>
 some
 (((), s.fst.snd.fst, (), s.fst.snd.snd.snd), s.snd.fst,
 (s.snd.snd.fst.fst, (), s.snd.snd.fst.snd.snd.fst, (),
 s.snd.snd.fst.snd.snd.snd.snd.fst, (),
 s.snd.snd.fst.snd.snd.snd.snd.snd.snd.fst, (),
 s.snd.snd.fst.snd.snd.snd.snd.snd.snd.snd.snd.fst, (),
 s.snd.snd.fst.snd.snd.snd.snd.snd.snd.snd.snd.snd.snd.fst, (),
 s.snd.snd.fst.snd.snd.snd.snd.snd.snd.snd.snd.snd.snd.snd.snd.fst,
 (),
 s.snd.snd.fst.snd.snd.snd.snd.snd.snd.snd.snd.snd.snd.snd.snd.snd.snd.fst,
 (),
 s.snd.snd.fst.snd.snd.snd.snd.snd.snd.snd.snd.snd.snd.snd.snd.snd.snd.snd.snd.fst,
 (),
 s.snd.snd.fst.snd.snd.snd.snd.snd.snd.snd.snd.snd.snd.snd.snd.snd.snd.snd.snd.snd.snd.fst,
 (),
 s.snd.snd.fst.snd.snd.snd.snd.snd.snd.snd.snd.snd.snd.snd.snd.snd.snd.snd.snd.snd.snd.snd.snd.fst,
 (), ()),
 ())
 else none
 else
 bif s.fst.snd.snd.snd.snd.fst == (↑(9 : Nat) : Int) then
 if
 (0 : Int) ≤ (↑(9 : Nat) : Int) ∧
 (↑(9 : Nat) : Int) < (↑(11 : Nat) : Int) then
 Option.bind
 (bif
 s.snd.fst.snd.snd.snd.snd.snd.snd.snd.snd.snd.snd.snd.snd.fst then
 if
 List.length s.fst.snd.fst +
 List.length
 (List.map (fun (n : Int) => UInt8.ofNat (Int.toNat n))
 [s.snd.snd.fst.snd.snd.snd.snd.snd.snd.snd.snd.snd.snd.snd.snd.snd.snd.snd.snd.snd.snd.fst]) <
 (2 : Nat) ^ (63 : Nat) then
 some
 (((),
 s.fst.snd.fst ++
 List.map (fun (n : Int) => UInt8.ofNat (Int.toNat n))
 [s.snd.snd.fst.snd.snd.snd.snd.snd.snd.snd.snd.snd.snd.snd.snd.snd.snd.snd.snd.snd.snd.fst],
 (), s.fst.snd.snd.snd.fst, (↑(9 : Nat) : Int), ()),
 s.snd.fst,
 (s.snd.snd.fst.fst, (), s.snd.snd.fst.snd.snd.fst, (),
 s.snd.snd.fst.snd.snd.snd.snd.fst, (),
 s.snd.snd.fst.snd.snd.snd.snd.snd.snd.fst, (),
 s.snd.snd.fst.snd.snd.snd.snd.snd.snd.snd.snd.fst, (),
 s.snd.snd.fst.snd.snd.snd.snd.snd.snd.snd.snd.snd.snd.fst,
 (),
 s.snd.snd.fst.snd.snd.snd.snd.snd.snd.snd.snd.snd.snd.snd.snd.fst,
 (),
 s.snd.snd.fst.snd.snd.snd.snd.snd.snd.snd.snd.snd.snd.snd.snd.snd.snd.fst,
 (),
 s.snd.snd.fst.snd.snd.snd.snd.snd.snd.snd.snd.snd.snd.snd.snd.snd.snd.snd.snd.fst,
 (),
 s.snd.snd.fst.snd.snd.snd.snd.snd.snd.snd.snd.snd.snd.snd.snd.snd.snd.snd.snd.snd.snd.fst,
 (),
 s.snd.snd.fst.snd.snd.snd.snd.snd.snd.snd.snd.snd.snd.snd.snd.snd.snd.snd.snd.snd.snd.snd.snd.fst,
 (), ()),
 ())
 else none
 else
 some
 (((), s.fst.snd.fst, (), s.fst.snd.snd.snd.fst,
 (↑(9 : Nat) : Int), ()),
 s.snd.fst,
 (s.snd.snd.fst.fst, (), s.snd.snd.fst.snd.snd.fst, (),
 s.snd.snd.fst.snd.snd.snd.snd.fst, (),
 s.snd.snd.fst.snd.snd.snd.snd.snd.snd.fst, (),
 s.snd.snd.fst.snd.snd.snd.snd.snd.snd.snd.snd.fst, (),
 s.snd.snd.fst.snd.snd.snd.snd.snd.snd.snd.snd.snd.snd.fst, (),
 s.snd.snd.fst.snd.snd.snd.snd.snd.snd.snd.snd.snd.snd.snd.snd.fst,
 (),
 s.snd.snd.fst.snd.snd.snd.snd.snd.snd.snd.snd.snd.snd.snd.snd.snd.snd.fst,
 (),
 s.snd.snd.fst.snd.snd.snd.snd.snd.snd.snd.snd.snd.snd.snd.snd.snd.snd.snd.snd.fst,
 (),
 s.snd.snd.fst.snd.snd.snd.snd.snd.snd.snd.snd.snd.snd.snd.snd.snd.snd.snd.snd.snd.snd.fst,
 (),
 s.snd.snd.fst.snd.snd.snd.snd.snd.snd.snd.snd.snd.snd.snd.snd.snd.snd.snd.snd.snd.snd.snd.snd.fst,
 (), ()),
 ()))
 fun
 (s :
 (Unit × List UInt8 × Unit × Int × Int × Unit) ×
 (Bool ×
 Bool ×
 Bool ×
 Bool ×
 Bool ×
 Bool ×
 Bool ×
 Bool ×
 Bool ×
 Bool ×
 Bool ×
 Bool ×
 Bool ×
 Int ×
 Bool ×
 List UInt8 ×
 List UInt8 × Unit) ×
 (Int ×
 Unit ×
 Int ×
 Unit ×
 Int ×
 Unit ×
 Int ×
 Unit ×
 Int ×
 Unit ×
 Int ×
 Unit ×
 Int ×
 Unit ×
 Int ×
 Unit ×
 Int ×
 Unit ×
 Int ×
 Unit ×
 Int ×
 Unit × Unit) ×
 Unit) =>
 some
 (((), s.fst.snd.fst, (), s.fst.snd.snd.snd), s.snd.fst,
 (s.snd.snd.fst.fst, (), s.snd.snd.fst.snd.snd.fst, (),
 s.snd.snd.fst.snd.snd.snd.snd.fst, (),
 s.snd.snd.fst.snd.snd.snd.snd.snd.snd.fst, (),
 s.snd.snd.fst.snd.snd.snd.snd.snd.snd.snd.snd.fst, (),
 s.snd.snd.fst.snd.snd.snd.snd.snd.snd.snd.snd.snd.snd.fst, (),
 s.snd.snd.fst.snd.snd.snd.snd.snd.snd.snd.snd.snd.snd.snd.snd.fst,
 (),
 s.snd.snd.fst.snd.snd.snd.snd.snd.snd.snd.snd.snd.snd.snd.snd.snd.snd.fst,
 (),
 s.snd.snd.fst.snd.snd.snd.snd.snd.snd.snd.snd.snd.snd.snd.snd.snd.snd.snd.snd.fst,
 (),
 s.snd.snd.fst.snd.snd.snd.snd.snd.snd.snd.snd.snd.snd.snd.snd.snd.snd.snd.snd.snd.snd.fst,
 (),
 s.snd.snd.fst.snd.snd.snd.snd.snd.snd.snd.snd.snd.snd.snd.snd.snd.snd.snd.snd.snd.snd.snd.snd.fst,
 (), ()),
 ())
 else none
 else
 bif s.fst.snd.snd.snd.snd.fst == (↑(10 : Nat) : Int) then
 if
 (0 : Int) ≤ (↑(10 : Nat) : Int) ∧
 (↑(10 : Nat) : Int) < (↑(11 : Nat) : Int) then
 Option.bind
 (bif
 s.snd.fst.snd.snd.snd.snd.snd.snd.snd.snd.snd.snd.snd.snd.snd.snd.fst then
 if
 List.length s.fst.snd.fst +
 List.length
 (List.map (fun (n : Int) => UInt8.ofNat (Int.toNat n))
 [s.snd.snd.fst.snd.snd.snd.snd.snd.snd.snd.snd.snd.snd.snd.snd.snd.snd.snd.snd.snd.snd.snd.snd.fst]) <
 (2 : Nat) ^ (63 : Nat) then
 some
 (((),
 s.fst.snd.fst ++
 List.map (fun (n : Int) => UInt8.ofNat (Int.toNat n))
 [s.snd.snd.fst.snd.snd.snd.snd.snd.snd.snd.snd.snd.snd.snd.snd.snd.snd.snd.snd.snd.snd.snd.snd.fst],
 (), s.fst.snd.snd.snd.fst, (↑(10 : Nat) : Int), ()),
 s.snd.fst,
 (s.snd.snd.fst.fst, (), s.snd.snd.fst.snd.snd.fst, (),
 s.snd.snd.fst.snd.snd.snd.snd.fst, (),
 s.snd.snd.fst.snd.snd.snd.snd.snd.snd.fst, (),
 s.snd.snd.fst.snd.snd.snd.snd.snd.snd.snd.snd.fst, (),
 s.snd.snd.fst.snd.snd.snd.snd.snd.snd.snd.snd.snd.snd.fst,
 (),
 s.snd.snd.fst.snd.snd.snd.snd.snd.snd.snd.snd.snd.snd.snd.snd.fst,
 (),
 s.snd.snd.fst.snd.snd.snd.snd.snd.snd.snd.snd.snd.snd.snd.snd.snd.snd.fst,
 (),
 s.snd.snd.fst.snd.snd.snd.snd.snd.snd.snd.snd.snd.snd.snd.snd.snd.snd.snd.snd.fst,
 (),
 s.snd.snd.fst.snd.snd.snd.snd.snd.snd.snd.snd.snd.snd.snd.snd.snd.snd.snd.snd.snd.snd.fst,
 (),
 s.snd.snd.fst.snd.snd.snd.snd.snd.snd.snd.snd.snd.snd.snd.snd.snd.snd.snd.snd.snd.snd.snd.snd.fst,
 (), ()),
 ())
 else none
 else
 some
 (((), s.fst.snd.fst, (), s.fst.snd.snd.snd.fst,
 (↑(10 : Nat) : Int), ()),
 s.snd.fst,
 (s.snd.snd.fst.fst, (), s.snd.snd.fst.snd.snd.fst, (),
 s.snd.snd.fst.snd.snd.snd.snd.fst, (),
 s.snd.snd.fst.snd.snd.snd.snd.snd.snd.fst, (),
 s.snd.snd.fst.snd.snd.snd.snd.snd.snd.snd.snd.fst, (),
 s.snd.snd.fst.snd.snd.snd.snd.snd.snd.snd.snd.snd.snd.fst,
 (),
 s.snd.snd.fst.snd.snd.snd.snd.snd.snd.snd.snd.snd.snd.snd.snd.fst,
 (),
 s.snd.snd.fst.snd.snd.snd.snd.snd.snd.snd.snd.snd.snd.snd.snd.snd.snd.fst,
 (),
 s.snd.snd.fst.snd.snd.snd.snd.snd.snd.snd.snd.snd.snd.snd.snd.snd.snd.snd.snd.fst,
 (),
 s.snd.snd.fst.snd.snd.snd.snd.snd.snd.snd.snd.snd.snd.snd.snd.snd.snd.snd.snd.snd.snd.fst,
 (),
 s.snd.snd.fst.snd.snd.snd.snd.snd.snd.snd.snd.snd.snd.snd.snd.snd.snd.snd.snd.snd.snd.snd.snd.fst,
 (), ()),
 ()))
 fun
 (s :
 (Unit × List UInt8 × Unit × Int × Int × Unit) ×
 (Bool ×
 Bool ×
 Bool ×
 Bool ×
 Bool ×
 Bool ×
 Bool ×
 Bool ×
 Bool ×
 Bool ×
 Bool ×
 Bool ×
 Bool ×
 Int ×
 Bool ×
 List UInt8 ×
 List UInt8 × Unit) ×
 (Int ×
 Unit ×
 Int ×
 Unit ×
 Int ×
 Unit ×
 Int ×
 Unit ×
 Int ×
 Unit ×
 Int ×
 Unit ×
 Int ×
 Unit ×
 Int ×
 Unit ×
 Int ×
 Unit ×
 Int ×
 Unit ×
 Int ×
 Unit × Unit) ×
 Unit) =>
 some
 (((), s.fst.snd.fst, (), s.fst.snd.snd.snd), s.snd.fst,
 (s.snd.snd.fst.fst, (), s.snd.snd.fst.snd.snd.fst, (),
 s.snd.snd.fst.snd.snd.snd.snd.fst, (),
 s.snd.snd.fst.snd.snd.snd.snd.snd.snd.fst, (),
 s.snd.snd.fst.snd.snd.snd.snd.snd.snd.snd.snd.fst, (),
 s.snd.snd.fst.snd.snd.snd.snd.snd.snd.snd.snd.snd.snd.fst, (),
 s.snd.snd.fst.snd.snd.snd.snd.snd.snd.snd.snd.snd.snd.snd.snd.fst,
 (),
 s.snd.snd.fst.snd.snd.snd.snd.snd.snd.snd.snd.snd.snd.snd.snd.snd.snd.fst,
 (),
 s.snd.snd.fst.snd.snd.snd.snd.snd.snd.snd.snd.snd.snd.snd.snd.snd.snd.snd.snd.fst,
 (),
 s.snd.snd.fst.snd.snd.snd.snd.snd.snd.snd.snd.snd.snd.snd.snd.snd.snd.snd.snd.snd.snd.fst,
 (),
 s.snd.snd.fst.snd.snd.snd.snd.snd.snd.snd.snd.snd.snd.snd.snd.snd.snd.snd.snd.snd.snd.snd.snd.fst,
 (), ()),
 ())
 else none
 else none)
 fun
 (s :
 (Unit × List UInt8 × Unit × Int × Int × Unit) ×
 (Bool ×
 Bool ×
 Bool ×
 Bool ×
 Bool ×
 Bool ×
 Bool ×
 Bool ×
 Bool ×
 Bool ×
 Bool ×
 Bool × Bool × Int × Bool × List UInt8 × List UInt8 × Unit) ×
 (Int ×
 Unit ×
 Int ×
 Unit ×
 Int ×
 Unit ×
 Int ×
 Unit ×
 Int ×
 Unit ×
 Int ×
 Unit ×
 Int ×
 Unit ×
 Int ×
 Unit ×
 Int × Unit × Int × Unit × Int × Unit × Unit) ×
 Unit) =>
 some
 (((), s.fst.snd.fst, ((0 : Nat), (11 : Nat)), s.fst.snd.snd.snd), s.snd.fst,
 (s.snd.snd.fst.fst, (), s.snd.snd.fst.snd.snd.fst, (), s.snd.snd.fst.snd.snd.snd.snd.fst,
 (), s.snd.snd.fst.snd.snd.snd.snd.snd.snd.fst, (),
 s.snd.snd.fst.snd.snd.snd.snd.snd.snd.snd.snd.fst, (),
 s.snd.snd.fst.snd.snd.snd.snd.snd.snd.snd.snd.snd.snd.fst, (),
 s.snd.snd.fst.snd.snd.snd.snd.snd.snd.snd.snd.snd.snd.snd.snd.fst, (),
 s.snd.snd.fst.snd.snd.snd.snd.snd.snd.snd.snd.snd.snd.snd.snd.snd.snd.fst, (),
 s.snd.snd.fst.snd.snd.snd.snd.snd.snd.snd.snd.snd.snd.snd.snd.snd.snd.snd.snd.fst, (),
 s.snd.snd.fst.snd.snd.snd.snd.snd.snd.snd.snd.snd.snd.snd.snd.snd.snd.snd.snd.snd.snd.fst,
 (),
 s.snd.snd.fst.snd.snd.snd.snd.snd.snd.snd.snd.snd.snd.snd.snd.snd.snd.snd.snd.snd.snd.snd.snd.fst,
 (), ()),
 ())
 else
 bif Nat.beq s.fst.snd.snd.fst.fst (8 : Nat) && Nat.beq s.fst.snd.snd.fst.snd (7 : Nat) then
 Option.bind
 (bif s.fst.snd.snd.snd.snd.fst == (↑(0 : Nat) : Int) then
 if (0 : Int) ≤ (↑(0 : Nat) : Int) ∧ (↑(0 : Nat) : Int) < (↑(7 : Nat) : Int) then
 Option.bind
 (bif s.snd.fst.snd.snd.snd.snd.fst then
 if
 List.length s.fst.snd.fst +
 List.length
 (List.map (fun (n : Int) => UInt8.ofNat (Int.toNat n))
 [s.snd.snd.fst.snd.snd.snd.snd.snd.snd.snd.snd.fst]) <
 (2 : Nat) ^ (63 : Nat) then
 some
 (((),
 s.fst.snd.fst ++
 List.map (fun (n : Int) => UInt8.ofNat (Int.toNat n))
 [s.snd.snd.fst.snd.snd.snd.snd.snd.snd.snd.snd.fst],
 (), s.fst.snd.snd.snd.fst, (↑(0 : Nat) : Int), ()),
 s.snd.fst,
 (s.snd.snd.fst.fst, (), s.snd.snd.fst.snd.snd.fst, (),
 s.snd.snd.fst.snd.snd.snd.snd.fst, (),
 s.snd.snd.fst.snd.snd.snd.snd.snd.snd.fst, (),
 s.snd.snd.fst.snd.snd.snd.snd.snd.snd.snd.snd.fst, (),
 s.snd.snd.fst.snd.snd.snd.snd.snd.snd.snd.snd.snd.snd.fst, (),
 s.snd.snd.fst.snd.snd.snd.snd.snd.snd.snd.snd.snd.snd.snd.snd.fst, (),
 s.snd.snd.fst.snd.snd.snd.snd.snd.snd.snd.snd.snd.snd.snd.snd.snd.snd.fst,
 (),
 s.snd.snd.fst.snd.snd.snd.snd.snd.snd.snd.snd.snd.snd.snd.snd.snd.snd.snd.snd.fst,
 (),
 s.snd.snd.fst.snd.snd.snd.snd.snd.snd.snd.snd.snd.snd.snd.snd.snd.snd.snd.snd.snd.snd.fst,
 (),
 s.snd.snd.fst.snd.snd.snd.snd.snd.snd.snd.snd.snd.snd.snd.snd.snd.snd.snd.snd.snd.snd.snd.snd.fst,
 (), ()),
 ())
 else none
 else
 some
 (((), s.fst.snd.fst, (), s.fst.snd.snd.snd.fst, (↑(0 : Nat) : Int), ()),
 s.snd.fst,
 (s.snd.snd.fst.fst, (), s.snd.snd.fst.snd.snd.fst, (),
 s.snd.snd.fst.snd.snd.snd.snd.fst, (),
 s.snd.snd.fst.snd.snd.snd.snd.snd.snd.fst, (),
 s.snd.snd.fst.snd.snd.snd.snd.snd.snd.snd.snd.fst, (),
 s.snd.snd.fst.snd.snd.snd.snd.snd.snd.snd.snd.snd.snd.fst, (),
 s.snd.snd.fst.snd.snd.snd.snd.snd.snd.snd.snd.snd.snd.snd.snd.fst, (),
 s.snd.snd.fst.snd.snd.snd.snd.snd.snd.snd.snd.snd.snd.snd.snd.snd.snd.fst, (),
 s.snd.snd.fst.snd.snd.snd.snd.snd.snd.snd.snd.snd.snd.snd.snd.snd.snd.snd.snd.fst,
 (),
 s.snd.snd.fst.snd.snd.snd.snd.snd.snd.snd.snd.snd.snd.snd.snd.snd.snd.snd.snd.snd.snd.fst,
 (),
 s.snd.snd.fst.snd.snd.snd.snd.snd.snd.snd.snd.snd.snd.snd.snd.snd.snd.snd.snd.snd.snd.snd.snd.fst,
 (), ()),
 ()))
 fun
 (s :
 (Unit × List UInt8 × Unit × Int × Int × Unit) ×
 (Bool ×
 Bool ×
 Bool ×
 Bool ×
 Bool ×
 Bool ×
 Bool ×
 Bool ×
 Bool ×
 Bool ×
 Bool ×
 Bool ×
 Bool × Int × Bool × List UInt8 × List UInt8 × Unit) ×
 (Int ×
 Unit ×
 Int ×
 Unit ×
 Int ×
 Unit ×
 Int ×
 Unit ×
 Int ×
 Unit ×
 Int ×
 Unit ×
 Int ×
 Unit ×
 Int ×
 Unit ×
 Int ×
 Unit ×
 Int × Unit × Int × Unit × Unit) ×
 Unit) =>
 some
 (((), s.fst.snd.fst, (), s.fst.snd.snd.snd), s.snd.fst,
 (s.snd.snd.fst.fst, (), s.snd.snd.fst.snd.snd.fst, (),
 s.snd.snd.fst.snd.snd.snd.snd.fst, (),
 s.snd.snd.fst.snd.snd.snd.snd.snd.snd.fst, (),
 s.snd.snd.fst.snd.snd.snd.snd.snd.snd.snd.snd.fst, (),
 s.snd.snd.fst.snd.snd.snd.snd.snd.snd.snd.snd.snd.snd.fst, (),
 s.snd.snd.fst.snd.snd.snd.snd.snd.snd.snd.snd.snd.snd.snd.snd.fst, (),
 s.snd.snd.fst.snd.snd.snd.snd.snd.snd.snd.snd.snd.snd.snd.snd.snd.snd.fst, (),
 s.snd.snd.fst.snd.snd.snd.snd.snd.snd.snd.snd.snd.snd.snd.snd.snd.snd.snd.snd.fst,
 (),
 s.snd.snd.fst.snd.snd.snd.snd.snd.snd.snd.snd.snd.snd.snd.snd.snd.snd.snd.snd.snd.snd.fst,
 (),
 s.snd.snd.fst.snd.snd.snd.snd.snd.snd.snd.snd.snd.snd.snd.snd.snd.snd.snd.snd.snd.snd.snd.snd.fst,
 (), ()),
 ())
 else none
 else
 bif s.fst.snd.snd.snd.snd.fst == (↑(1 : Nat) : Int) then
 if (0 : Int) ≤ (↑(1 : Nat) : Int) ∧ (↑(1 : Nat) : Int) < (↑(7 : Nat) : Int) then
 Option.bind
 (bif s.snd.fst.snd.snd.snd.snd.snd.fst then
 if
 List.length s.fst.snd.fst +
 List.length
 (List.map (fun (n : Int) => UInt8.ofNat (Int.toNat n))
 [s.snd.snd.fst.snd.snd.snd.snd.snd.snd.snd.snd.snd.snd.fst]) <
 (2 : Nat) ^ (63 : Nat) then
 some
 (((),
 s.fst.snd.fst ++
 List.map (fun (n : Int) => UInt8.ofNat (Int.toNat n))
 [s.snd.snd.fst.snd.snd.snd.snd.snd.snd.snd.snd.snd.snd.fst],
 (), s.fst.snd.snd.snd.fst, (↑(1 : Nat) : Int), ()),
 s.snd.fst,
 (s.snd.snd.fst.fst, (), s.snd.snd.fst.snd.snd.fst, (),
 s.snd.snd.fst.snd.snd.snd.snd.fst, (),
 s.snd.snd.fst.snd.snd.snd.snd.snd.snd.fst, (),
 s.snd.snd.fst.snd.snd.snd.snd.snd.snd.snd.snd.fst, (),
 s.snd.snd.fst.snd.snd.snd.snd.snd.snd.snd.snd.snd.snd.fst, (),
 s.snd.snd.fst.snd.snd.snd.snd.snd.snd.snd.snd.snd.snd.snd.snd.fst, (),
 s.snd.snd.fst.snd.snd.snd.snd.snd.snd.snd.snd.snd.snd.snd.snd.snd.snd.fst,
 (),
 s.snd.snd.fst.snd.snd.snd.snd.snd.snd.snd.snd.snd.snd.snd.snd.snd.snd.snd.snd.fst,
 (),
 s.snd.snd.fst.snd.snd.snd.snd.snd.snd.snd.snd.snd.snd.snd.snd.snd.snd.snd.snd.snd.snd.fst,
 (),
 s.snd.snd.fst.snd.snd.snd.snd.snd.snd.snd.snd.snd.snd.snd.snd.snd.snd.snd.snd.snd.snd.snd.snd.fst,
 (), ()),
 ())
 else none
 else
 some
 (((), s.fst.snd.fst, (), s.fst.snd.snd.snd.fst, (↑(1 : Nat) : Int), ()),
 s.snd.fst,
 (s.snd.snd.fst.fst, (), s.snd.snd.fst.snd.snd.fst, (),
 s.snd.snd.fst.snd.snd.snd.snd.fst, (),
 s.snd.snd.fst.snd.snd.snd.snd.snd.snd.fst, (),
 s.snd.snd.fst.snd.snd.snd.snd.snd.snd.snd.snd.fst, (),
 s.snd.snd.fst.snd.snd.snd.snd.snd.snd.snd.snd.snd.snd.fst, (),
 s.snd.snd.fst.snd.snd.snd.snd.snd.snd.snd.snd.snd.snd.snd.snd.fst, (),
 s.snd.snd.fst.snd.snd.snd.snd.snd.snd.snd.snd.snd.snd.snd.snd.snd.snd.fst,
 (),
 s.snd.snd.fst.snd.snd.snd.snd.snd.snd.snd.snd.snd.snd.snd.snd.snd.snd.snd.snd.fst,
 (),
 s.snd.snd.fst.snd.snd.snd.snd.snd.snd.snd.snd.snd.snd.snd.snd.snd.snd.snd.snd.snd.snd.fst,
 (),
 s.snd.snd.fst.snd.snd.snd.snd.snd.snd.snd.snd.snd.snd.snd.snd.snd.snd.snd.snd.snd.snd.snd.snd.fst,
 (), ()),
 ()))
 fun
 (s :
 (Unit × List UInt8 × Unit × Int × Int × Unit) ×
 (Bool ×
 Bool ×
 Bool ×
 Bool ×
 Bool ×
 Bool ×
 Bool ×
 Bool ×
 Bool ×
 Bool ×
 Bool ×
 Bool ×
 Bool ×
 Int × Bool × List UInt8 × List UInt8 × Unit) ×
 (Int ×
 Unit ×
 Int ×
 Unit ×
 Int ×
 Unit ×
 Int ×
 Unit ×
 Int ×
 Unit ×
 Int ×
 Unit ×
 Int ×
 Unit ×
 Int ×
 Unit ×
 Int ×
 Unit ×
 Int × Unit × Int × Unit × Unit) ×
 Unit) =>
 some
 (((), s.fst.snd.fst, (), s.fst.snd.snd.snd), s.snd.fst,
 (s.snd.snd.fst.fst, (), s.snd.snd.fst.snd.snd.fst, (),
 s.snd.snd.fst.snd.snd.snd.snd.fst, (),
 s.snd.snd.fst.snd.snd.snd.snd.snd.snd.fst, (),
 s.snd.snd.fst.snd.snd.snd.snd.snd.snd.snd.snd.fst, (),
 s.snd.snd.fst.snd.snd.snd.snd.snd.snd.snd.snd.snd.snd.fst, (),
 s.snd.snd.fst.snd.snd.snd.snd.snd.snd.snd.snd.snd.snd.snd.snd.fst, (),
 s.snd.snd.fst.snd.snd.snd.snd.snd.snd.snd.snd.snd.snd.snd.snd.snd.snd.fst, (),
 s.snd.snd.fst.snd.snd.snd.snd.snd.snd.snd.snd.snd.snd.snd.snd.snd.snd.snd.snd.fst,
 (),
 s.snd.snd.fst.snd.snd.snd.snd.snd.snd.snd.snd.snd.snd.snd.snd.snd.snd.snd.snd.snd.snd.fst,
 (),
 s.snd.snd.fst.snd.snd.snd.snd.snd.snd.snd.snd.snd.snd.snd.snd.snd.snd.snd.snd.snd.snd.snd.snd.fst,
 (), ()),
 ())
 else none
 else
 bif s.fst.snd.snd.snd.snd.fst == (↑(2 : Nat) : Int) then
 if (0 : Int) ≤ (↑(2 : Nat) : Int) ∧ (↑(2 : Nat) : Int) < (↑(7 : Nat) : Int) then
 Option.bind
 (bif s.snd.fst.snd.snd.snd.snd.snd.snd.snd.fst then
 if
 List.length s.fst.snd.fst +
 List.length
 (List.map (fun (n : Int) => UInt8.ofNat (Int.toNat n))
 [s.snd.snd.fst.snd.snd.snd.snd.snd.snd.snd.snd.snd.snd.snd.snd.fst]) <
 (2 : Nat) ^ (63 : Nat) then
 some
 (((),
 s.fst.snd.fst ++
 List.map (fun (n : Int) => UInt8.ofNat (Int.toNat n))
 [s.snd.snd.fst.snd.snd.snd.snd.snd.snd.snd.snd.snd.snd.snd.snd.fst],
 (), s.fst.snd.snd.snd.fst, (↑(2 : Nat) : Int), ()),
 s.snd.fst,
 (s.snd.snd.fst.fst, (), s.snd.snd.fst.snd.snd.fst, (),
 s.snd.snd.fst.snd.snd.snd.snd.fst, (),
 s.snd.snd.fst.snd.snd.snd.snd.snd.snd.fst, (),
 s.snd.snd.fst.snd.snd.snd.snd.snd.snd.snd.snd.fst, (),
 s.snd.snd.fst.snd.snd.snd.snd.snd.snd.snd.snd.snd.snd.fst, (),
 s.snd.snd.fst.snd.snd.snd.snd.snd.snd.snd.snd.snd.snd.snd.snd.fst, (),
 s.snd.snd.fst.snd.snd.snd.snd.snd.snd.snd.snd.snd.snd.snd.snd.snd.snd.fst,
 (),
 s.snd.snd.fst.snd.snd.snd.snd.snd.snd.snd.snd.snd.snd.snd.snd.snd.snd.snd.snd.fst,
 (),
 s.snd.snd.fst.snd.snd.snd.snd.snd.snd.snd.snd.snd.snd.snd.snd.snd.snd.snd.snd.snd.snd.fst,
 (),
 s.snd.snd.fst.snd.snd.snd.snd.snd.snd.snd.snd.snd.snd.snd.snd.snd.snd.snd.snd.snd.snd.snd.snd.fst,
 (), ()),
 ())
 else none
 else
 some
 (((), s.fst.snd.fst, (), s.fst.snd.snd.snd.fst, (↑(2 : Nat) : Int), ()),
 s.snd.fst,
 (s.snd.snd.fst.fst, (), s.snd.snd.fst.snd.snd.fst, (),
 s.snd.snd.fst.snd.snd.snd.snd.fst, (),
 s.snd.snd.fst.snd.snd.snd.snd.snd.snd.fst, (),
 s.snd.snd.fst.snd.snd.snd.snd.snd.snd.snd.snd.fst, (),
 s.snd.snd.fst.snd.snd.snd.snd.snd.snd.snd.snd.snd.snd.fst, (),
 s.snd.snd.fst.snd.snd.snd.snd.snd.snd.snd.snd.snd.snd.snd.snd.fst, (),
 s.snd.snd.fst.snd.snd.snd.snd.snd.snd.snd.snd.snd.snd.snd.snd.snd.snd.fst,
 (),
 s.snd.snd.fst.snd.snd.snd.snd.snd.snd.snd.snd.snd.snd.snd.snd.snd.snd.snd.snd.fst,
 (),
 s.snd.snd.fst.snd.snd.snd.snd.snd.snd.snd.snd.snd.snd.snd.snd.snd.snd.snd.snd.snd.snd.fst,
 (),
 s.snd.snd.fst.snd.snd.snd.snd.snd.snd.snd.snd.snd.snd.snd.snd.snd.snd.snd.snd.snd.snd.snd.snd.fst,
 (), ()),
 ()))
 fun
 (s :
 (Unit × List UInt8 × Unit × Int × Int × Unit) ×
 (Bool ×
 Bool ×
 Bool ×
 Bool ×
 Bool ×
 Bool ×
 Bool ×
 Bool ×
 Bool ×
 Bool ×
 Bool ×
 Bool ×
 Bool ×
 Int × Bool × List UInt8 × List UInt8 × Unit) ×
 (Int ×
 Unit ×
 Int ×
 Unit ×
 Int ×
 Unit ×
 Int ×
 Unit ×
 Int ×
 Unit ×
 Int ×
 Unit ×
 Int ×
 Unit ×
 Int ×
 Unit ×
 Int ×
 Unit ×
 Int × Unit × Int × Unit × Unit) ×
 Unit) =>
 some
 (((), s.fst.snd.fst, (), s.fst.snd.snd.snd), s.snd.fst,
 (s.snd.snd.fst.fst, (), s.snd.snd.fst.snd.snd.fst, (),
 s.snd.snd.fst.snd.snd.snd.snd.fst, (),
 s.snd.snd.fst.snd.snd.snd.snd.snd.snd.fst, (),
 s.snd.snd.fst.snd.snd.snd.snd.snd.snd.snd.snd.fst, (),
 s.snd.snd.fst.snd.snd.snd.snd.snd.snd.snd.snd.snd.snd.fst, (),
 s.snd.snd.fst.snd.snd.snd.snd.snd.snd.snd.snd.snd.snd.snd.snd.fst, (),
 s.snd.snd.fst.snd.snd.snd.snd.snd.snd.snd.snd.snd.snd.snd.snd.snd.snd.fst,
 (),
 s.snd.snd.fst.snd.snd.snd.snd.snd.snd.snd.snd.snd.snd.snd.snd.snd.snd.snd.snd.fst,
 (),
 s.snd.snd.fst.snd.snd.snd.snd.snd.snd.snd.snd.snd.snd.snd.snd.snd.snd.snd.snd.snd.snd.fst,
 (),
 s.snd.snd.fst.snd.snd.snd.snd.snd.snd.snd.snd.snd.snd.snd.snd.snd.snd.snd.snd.snd.snd.snd.snd.fst,
 (), ()),
 ())
 else none
 else
 bif s.fst.snd.snd.snd.snd.fst == (↑(3 : Nat) : Int) then
 if (0 : Int) ≤ (↑(3 : Nat) : Int) ∧ (↑(3 : Nat) : Int) < (↑(7 : Nat) : Int) then
 Option.bind
 (bif s.snd.fst.snd.snd.snd.snd.snd.snd.snd.snd.fst then
 if
 List.length s.fst.snd.fst +
 List.length
 (List.map (fun (n : Int) => UInt8.ofNat (Int.toNat n))
 [s.snd.snd.fst.snd.snd.snd.snd.snd.snd.snd.snd.snd.snd.snd.snd.snd.snd.fst]) <
 (2 : Nat) ^ (63 : Nat) then
 some
 (((),
 s.fst.snd.fst ++
 List.map (fun (n : Int) => UInt8.ofNat (Int.toNat n))
 [s.snd.snd.fst.snd.snd.snd.snd.snd.snd.snd.snd.snd.snd.snd.snd.snd.snd.fst],
 (), s.fst.snd.snd.snd.fst, (↑(3 : Nat) : Int), ()),
 s.snd.fst,
 (s.snd.snd.fst.fst, (), s.snd.snd.fst.snd.snd.fst, (),
 s.snd.snd.fst.snd.snd.snd.snd.fst, (),
 s.snd.snd.fst.snd.snd.snd.snd.snd.snd.fst, (),
 s.snd.snd.fst.snd.snd.snd.snd.snd.snd.snd.snd.fst, (),
 s.snd.snd.fst.snd.snd.snd.snd.snd.snd.snd.snd.snd.snd.fst, (),
 s.snd.snd.fst.snd.snd.snd.snd.snd.snd.snd.snd.snd.snd.snd.snd.fst, (),
 s.snd.snd.fst.snd.snd.snd.snd.snd.snd.snd.snd.snd.snd.snd.snd.snd.snd.fst,
 (),
 s.snd.snd.fst.snd.snd.snd.snd.snd.snd.snd.snd.snd.snd.snd.snd.snd.snd.snd.snd.fst,
 (),
 s.snd.snd.fst.snd.snd.snd.snd.snd.snd.snd.snd.snd.snd.snd.snd.snd.snd.snd.snd.snd.snd.fst,
 (),
 s.snd.snd.fst.snd.snd.snd.snd.snd.snd.snd.snd.snd.snd.snd.snd.snd.snd.snd.snd.snd.snd.snd.snd.fst,
 (), ()),
 ())
 else none
 else
 some
 (((), s.fst.snd.fst, (), s.fst.snd.snd.snd.fst, (↑(3 : Nat) : Int), ()),
 s.snd.fst,
 (s.snd.snd.fst.fst, (), s.snd.snd.fst.snd.snd.fst, (),
 s.snd.snd.fst.snd.snd.snd.snd.fst, (),
 s.snd.snd.fst.snd.snd.snd.snd.snd.snd.fst, (),
 s.snd.snd.fst.snd.snd.snd.snd.snd.snd.snd.snd.fst, (),
 s.snd.snd.fst.snd.snd.snd.snd.snd.snd.snd.snd.snd.snd.fst, (),
 s.snd.snd.fst.snd.snd.snd.snd.snd.snd.snd.snd.snd.snd.snd.snd.fst, (),
 s.snd.snd.fst.snd.snd.snd.snd.snd.snd.snd.snd.snd.snd.snd.snd.snd.snd.fst,
 (),
 s.snd.snd.fst.snd.snd.snd.snd.snd.snd.snd.snd.snd.snd.snd.snd.snd.snd.snd.snd.fst,
 (),
 s.snd.snd.fst.snd.snd.snd.snd.snd.snd.snd.snd.snd.snd.snd.snd.snd.snd.snd.snd.snd.snd.fst,
 (),
 s.snd.snd.fst.snd.snd.snd.snd.snd.snd.snd.snd.snd.snd.snd.snd.snd.snd.snd.snd.snd.snd.snd.snd.fst,
 (), ()),
 ()))
 fun
 (s :
 (Unit × List UInt8 × Unit × Int × Int × Unit) ×
 (Bool ×
 Bool ×
 Bool ×
 Bool ×
 Bool ×
 Bool ×
 Bool ×
 Bool ×
 Bool ×
 Bool ×
 Bool ×
 Bool ×
 Bool ×
 Int ×
 Bool × List UInt8 × List UInt8 × Unit) ×
 (Int ×
 Unit ×
 Int ×
 Unit ×
 Int ×
 Unit ×
 Int ×
 Unit ×
 Int ×
 Unit ×
 Int ×
 Unit ×
 Int ×
 Unit ×
 Int ×
 Unit ×
 Int ×
 Unit ×
 Int ×
 Unit × Int × Unit × Unit) ×
 Unit) =>
 some
 (((), s.fst.snd.fst, (), s.fst.snd.snd.snd), s.snd.fst,
 (s.snd.snd.fst.fst, (), s.snd.snd.fst.snd.snd.fst, (),
 s.snd.snd.fst.snd.snd.snd.snd.fst, (),
 s.snd.snd.fst.snd.snd.snd.snd.snd.snd.fst, (),
 s.snd.snd.fst.snd.snd.snd.snd.snd.snd.snd.snd.fst, (),
 s.snd.snd.fst.snd.snd.snd.snd.snd.snd.snd.snd.snd.snd.fst, (),
 s.snd.snd.fst.snd.snd.snd.snd.snd.snd.snd.snd.snd.snd.snd.snd.fst, (),
 s.snd.snd.fst.snd.snd.snd.snd.snd.snd.snd.snd.snd.snd.snd.snd.snd.snd.fst,
 (),
 s.snd.snd.fst.snd.snd.snd.snd.snd.snd.snd.snd.snd.snd.snd.snd.snd.snd.snd.snd.fst,
 (),
 s.snd.snd.fst.snd.snd.snd.snd.snd.snd.snd.snd.snd.snd.snd.snd.snd.snd.snd.snd.snd.snd.fst,
 (),
 s.snd.snd.fst.snd.snd.snd.snd.snd.snd.snd.snd.snd.snd.snd.snd.snd.snd.snd.snd.snd.snd.snd.snd.fst,
 (), ()),
 ())
 else none
 else
 bif s.fst.snd.snd.snd.snd.fst == (↑(4 : Nat) : Int) then
 if (0 : Int) ≤ (↑(4 : Nat) : Int) ∧ (↑(4 : Nat) : Int) < (↑(7 : Nat) : Int) then
 Option.bind
 (bif s.snd.fst.snd.snd.snd.snd.snd.snd.snd.snd.snd.fst then
 if
 List.length s.fst.snd.fst +
 List.length
 (List.map (fun (n : Int) => UInt8.ofNat (Int.toNat n))
 [s.snd.snd.fst.snd.snd.snd.snd.snd.snd.snd.snd.snd.snd.snd.snd.snd.snd.snd.snd.fst]) <
 (2 : Nat) ^ (63 : Nat) then
 some
 (((),
 s.fst.snd.fst ++
 List.map (fun (n : Int) => UInt8.ofNat (Int.toNat n))
 [s.snd.snd.fst.snd.snd.snd.snd.snd.snd.snd.snd.snd.snd.snd.snd.snd.snd.snd.snd.fst],
 (), s.fst.snd.snd.snd.fst, (↑(4 : Nat) : Int), ()),
 s.snd.fst,
 (s.snd.snd.fst.fst, (), s.snd.snd.fst.snd.snd.fst, (),
 s.snd.snd.fst.snd.snd.snd.snd.fst, (),
 s.snd.snd.fst.snd.snd.snd.snd.snd.snd.fst, (),
 s.snd.snd.fst.snd.snd.snd.snd.snd.snd.snd.snd.fst, (),
 s.snd.snd.fst.snd.snd.snd.snd.snd.snd.snd.snd.snd.snd.fst, (),
 s.snd.snd.fst.snd.snd.snd.snd.snd.snd.snd.snd.snd.snd.snd.snd.fst,
 (),
 s.snd.snd.fst.snd.snd.snd.snd.snd.snd.snd.snd.snd.snd.snd.snd.snd.snd.fst,
 (),
 s.snd.snd.fst.snd.snd.snd.snd.snd.snd.snd.snd.snd.snd.snd.snd.snd.snd.snd.snd.fst,
 (),
 s.snd.snd.fst.snd.snd.snd.snd.snd.snd.snd.snd.snd.snd.snd.snd.snd.snd.snd.snd.snd.snd.fst,
 (),
 s.snd.snd.fst.snd.snd.snd.snd.snd.snd.snd.snd.snd.snd.snd.snd.snd.snd.snd.snd.snd.snd.snd.snd.fst,
 (), ()),
 ())
 else none
 else
 some
 (((), s.fst.snd.fst, (), s.fst.snd.snd.snd.fst, (↑(4 : Nat) : Int), ()),
 s.snd.fst,
 (s.snd.snd.fst.fst, (), s.snd.snd.fst.snd.snd.fst, (),
 s.snd.snd.fst.snd.snd.snd.snd.fst, (),
 s.snd.snd.fst.snd.snd.snd.snd.snd.snd.fst, (),
 s.snd.snd.fst.snd.snd.snd.snd.snd.snd.snd.snd.fst, (),
 s.snd.snd.fst.snd.snd.snd.snd.snd.snd.snd.snd.snd.snd.fst, (),
 s.snd.snd.fst.snd.snd.snd.snd.snd.snd.snd.snd.snd.snd.snd.snd.fst, (),
 s.snd.snd.fst.snd.snd.snd.snd.snd.snd.snd.snd.snd.snd.snd.snd.snd.snd.fst,
 (),
 s.snd.snd.fst.snd.snd.snd.snd.snd.snd.snd.snd.snd.snd.snd.snd.snd.snd.snd.snd.fst,
 (),
 s.snd.snd.fst.snd.snd.snd.snd.snd.snd.snd.snd.snd.snd.snd.snd.snd.snd.snd.snd.snd.snd.fst,
 (),
 s.snd.snd.fst.snd.snd.snd.snd.snd.snd.snd.snd.snd.snd.snd.snd.snd.snd.snd.snd.snd.snd.snd.snd.fst,
 (), ()),
 ()))
 fun
 (s :
 (Unit × List UInt8 × Unit × Int × Int × Unit) ×
 (Bool ×
 Bool ×
 Bool ×
 Bool ×
 Bool ×
 Bool ×
 Bool ×
 Bool ×
 Bool ×
 Bool ×
 Bool ×
 Bool ×
 Bool ×
 Int ×
 Bool × List UInt8 × List UInt8 × Unit) ×
 (Int ×
 Unit ×
 Int ×
 Unit ×
 Int ×
 Unit ×
 Int ×
 Unit ×
 Int ×
 Unit ×
 Int ×
 Unit ×
 Int ×
 Unit ×
 Int ×
 Unit ×
 Int ×
 Unit ×
 Int ×
 Unit × Int × Unit × Unit) ×
 Unit) =>
 some
 (((), s.fst.snd.fst, (), s.fst.snd.snd.snd), s.snd.fst,
 (s.snd.snd.fst.fst, (), s.snd.snd.fst.snd.snd.fst, (),
 s.snd.snd.fst.snd.snd.snd.snd.fst, (),
 s.snd.snd.fst.snd.snd.snd.snd.snd.snd.fst, (),
 s.snd.snd.fst.snd.snd.snd.snd.snd.snd.snd.snd.fst, (),
 s.snd.snd.fst.snd.snd.snd.snd.snd.snd.snd.snd.snd.snd.fst, (),
 s.snd.snd.fst.snd.snd.snd.snd.snd.snd.snd.snd.snd.snd.snd.snd.fst, (),
 s.snd.snd.fst.snd.snd.snd.snd.snd.snd.snd.snd.snd.snd.snd.snd.snd.snd.fst,
 (),
 s.snd.snd.fst.snd.snd.snd.snd.snd.snd.snd.snd.snd.snd.snd.snd.snd.snd.snd.snd.fst,
 (),
 s.snd.snd.fst.snd.snd.snd.snd.snd.snd.snd.snd.snd.snd.snd.snd.snd.snd.snd.snd.snd.snd.fst,
 (),
 s.snd.snd.fst.snd.snd.snd.snd.snd.snd.snd.snd.snd.snd.snd.snd.snd.snd.snd.snd.snd.snd.snd.snd.fst,
 (), ()),
 ())
 else none
 else
 bif s.fst.snd.snd.snd.snd.fst == (↑(5 : Nat) : Int) then
 if (0 : Int) ≤ (↑(5 : Nat) : Int) ∧ (↑(5 : Nat) : Int) < (↑(7 : Nat) : Int) then
 Option.bind
 (bif s.snd.fst.snd.snd.snd.snd.snd.snd.snd.snd.snd.snd.snd.snd.fst then
 if
 List.length s.fst.snd.fst +
 List.length
 (List.map (fun (n : Int) => UInt8.ofNat (Int.toNat n))
 [s.snd.snd.fst.snd.snd.snd.snd.snd.snd.snd.snd.snd.snd.snd.snd.snd.snd.snd.snd.snd.snd.fst]) <
 (2 : Nat) ^ (63 : Nat) then
 some
 (((),
 s.fst.snd.fst ++
 List.map (fun (n : Int) => UInt8.ofNat (Int.toNat n))
 [s.snd.snd.fst.snd.snd.snd.snd.snd.snd.snd.snd.snd.snd.snd.snd.snd.snd.snd.snd.snd.snd.fst],
 (), s.fst.snd.snd.snd.fst, (↑(5 : Nat) : Int), ()),
 s.snd.fst,
 (s.snd.snd.fst.fst, (), s.snd.snd.fst.snd.snd.fst, (),
 s.snd.snd.fst.snd.snd.snd.snd.fst, (),
 s.snd.snd.fst.snd.snd.snd.snd.snd.snd.fst, (),
 s.snd.snd.fst.snd.snd.snd.snd.snd.snd.snd.snd.fst, (),
 s.snd.snd.fst.snd.snd.snd.snd.snd.snd.snd.snd.snd.snd.fst, (),
 s.snd.snd.fst.snd.snd.snd.snd.snd.snd.snd.snd.snd.snd.snd.snd.fst,
 (),
 s.snd.snd.fst.snd.snd.snd.snd.snd.snd.snd.snd.snd.snd.snd.snd.snd.snd.fst,
 (),
 s.snd.snd.fst.snd.snd.snd.snd.snd.snd.snd.snd.snd.snd.snd.snd.snd.snd.snd.snd.fst,
 (),
 s.snd.snd.fst.snd.snd.snd.snd.snd.snd.snd.snd.snd.snd.snd.snd.snd.snd.snd.snd.snd.snd.fst,
 (),
 s.snd.snd.fst.snd.snd.snd.snd.snd.snd.snd.snd.snd.snd.snd.snd.snd.snd.snd.snd.snd.snd.snd.snd.fst,
 (), ()),
 ())
 else none
 else
 some
 (((), s.fst.snd.fst, (), s.fst.snd.snd.snd.fst, (↑(5 : Nat) : Int), ()),
 s.snd.fst,
 (s.snd.snd.fst.fst, (), s.snd.snd.fst.snd.snd.fst, (),
 s.snd.snd.fst.snd.snd.snd.snd.fst, (),
 s.snd.snd.fst.snd.snd.snd.snd.snd.snd.fst, (),
 s.snd.snd.fst.snd.snd.snd.snd.snd.snd.snd.snd.fst, (),
 s.snd.snd.fst.snd.snd.snd.snd.snd.snd.snd.snd.snd.snd.fst, (),
 s.snd.snd.fst.snd.snd.snd.snd.snd.snd.snd.snd.snd.snd.snd.snd.fst,
 (),
 s.snd.snd.fst.snd.snd.snd.snd.snd.snd.snd.snd.snd.snd.snd.snd.snd.snd.fst,
 (),
 s.snd.snd.fst.snd.snd.snd.snd.snd.snd.snd.snd.snd.snd.snd.snd.snd.snd.snd.snd.fst,
 (),
 s.snd.snd.fst.snd.snd.snd.snd.snd.snd.snd.snd.snd.snd.snd.snd.snd.snd.snd.snd.snd.snd.fst,
 (),
 s.snd.snd.fst.snd.snd.snd.snd.snd.snd.snd.snd.snd.snd.snd.snd.snd.snd.snd.snd.snd.snd.snd.snd.fst,
 (), ()),
 ()))
 fun
 (s :
 (Unit × List UInt8 × Unit × Int × Int × Unit) ×
 (Bool ×
 Bool ×
 Bool ×
 Bool ×
 Bool ×
 Bool ×
 Bool ×
 Bool ×
 Bool ×
 Bool ×
 Bool ×
 Bool ×
 Bool ×
 Int ×
 Bool ×
 List UInt8 × List UInt8 × Unit) ×
 (Int ×
 Unit ×
 Int ×
 Unit ×
 Int ×
 Unit ×
 Int ×
 Unit ×
 Int ×
 Unit ×
 Int ×
 Unit ×
 Int ×
 Unit ×
 Int ×
 Unit ×
 Int ×
 Unit ×
 Int ×
 Unit ×
 Int × Unit × Unit) ×
 Unit) =>
 some
 (((), s.fst.snd.fst, (), s.fst.snd.snd.snd), s.snd.fst,
 (s.snd.snd.fst.fst, (), s.snd.snd.fst.snd.snd.fst, (),
 s.snd.snd.fst.snd.snd.snd.snd.fst, (),
 s.snd.snd.fst.snd.snd.snd.snd.snd.snd.fst, (),
 s.snd.snd.fst.snd.snd.snd.snd.snd.snd.snd.snd.fst, (),
 s.snd.snd.fst.snd.snd.snd.snd.snd.snd.snd.snd.snd.snd.fst, (),
 s.snd.snd.fst.snd.snd.snd.snd.snd.snd.snd.snd.snd.snd.snd.snd.fst, (),
 s.snd.snd.fst.snd.snd.snd.snd.snd.snd.snd.snd.snd.snd.snd.snd.snd.snd.fst,
 (),
 s.snd.snd.fst.snd.snd.snd.snd.snd.snd.snd.snd.snd.snd.snd.snd.snd.snd.snd.snd.fst,
 (),
 s.snd.snd.fst.snd.snd.snd.snd.snd.snd.snd.snd.snd.snd.snd.snd.snd.snd.snd.snd.snd.snd.fst,
 (),
 s.snd.snd.fst.snd.snd.snd.snd.snd.snd.snd.snd.snd.snd.snd.snd.snd.snd.snd.snd.snd.snd.snd.snd.fst,
 (), ()),
 ())
 else none
 else
 bif s.fst.snd.snd.snd.snd.fst == (↑(6 : Nat) : Int) then
 if
 (0 : Int) ≤ (↑(6 : Nat) : Int) ∧
 (↑(6 : Nat) : Int) < (↑(7 : Nat) : Int) then
 Option.bind
 (bif
 s.snd.fst.snd.snd.snd.snd.snd.snd.snd.snd.snd.snd.snd.snd.snd.snd.fst then
 if
 List.length s.fst.snd.fst +
 List.length
 (List.map (fun (n : Int) => UInt8.ofNat (Int.toNat n))
 [s.snd.snd.fst.snd.snd.snd.snd.snd.snd.snd.snd.snd.snd.snd.snd.snd.snd.snd.snd.snd.snd.snd.snd.fst]) <
 (2 : Nat) ^ (63 : Nat) then
 some
 (((),
 s.fst.snd.fst ++
 List.map (fun (n : Int) => UInt8.ofNat (Int.toNat n))
 [s.snd.snd.fst.snd.snd.snd.snd.snd.snd.snd.snd.snd.snd.snd.snd.snd.snd.snd.snd.snd.snd.snd.snd.fst],
 (), s.fst.snd.snd.snd.fst, (↑(6 : Nat) : Int), ()),
 s.snd.fst,
 (s.snd.snd.fst.fst, (), s.snd.snd.fst.snd.snd.fst, (),
 s.snd.snd.fst.snd.snd.snd.snd.fst, (),
 s.snd.snd.fst.snd.snd.snd.snd.snd.snd.fst, (),
 s.snd.snd.fst.snd.snd.snd.snd.snd.snd.snd.snd.fst, (),
 s.snd.snd.fst.snd.snd.snd.snd.snd.snd.snd.snd.snd.snd.fst, (),
 s.snd.snd.fst.snd.snd.snd.snd.snd.snd.snd.snd.snd.snd.snd.snd.fst,
 (),
 s.snd.snd.fst.snd.snd.snd.snd.snd.snd.snd.snd.snd.snd.snd.snd.snd.snd.fst,
 (),
 s.snd.snd.fst.snd.snd.snd.snd.snd.snd.snd.snd.snd.snd.snd.snd.snd.snd.snd.snd.fst,
 (),
 s.snd.snd.fst.snd.snd.snd.snd.snd.snd.snd.snd.snd.snd.snd.snd.snd.snd.snd.snd.snd.snd.fst,
 (),
 s.snd.snd.fst.snd.snd.snd.snd.snd.snd.snd.snd.snd.snd.snd.snd.snd.snd.snd.snd.snd.snd.snd.snd.fst,
 (), ()),
 ())
 else none
 else
 some
 (((), s.fst.snd.fst, (), s.fst.snd.snd.snd.fst, (↑(6 : Nat) : Int),
 ()),
 s.snd.fst,
 (s.snd.snd.fst.fst, (), s.snd.snd.fst.snd.snd.fst, (),
 s.snd.snd.fst.snd.snd.snd.snd.fst, (),
 s.snd.snd.fst.snd.snd.snd.snd.snd.snd.fst, (),
 s.snd.snd.fst.snd.snd.snd.snd.snd.snd.snd.snd.fst, (),
 s.snd.snd.fst.snd.snd.snd.snd.snd.snd.snd.snd.snd.snd.fst, (),
 s.snd.snd.fst.snd.snd.snd.snd.snd.snd.snd.snd.snd.snd.snd.snd.fst,
 (),
 s.snd.snd.fst.snd.snd.snd.snd.snd.snd.snd.snd.snd.snd.snd.snd.snd.snd.fst,
 (),
 s.snd.snd.fst.snd.snd.snd.snd.snd.snd.snd.snd.snd.snd.snd.snd.snd.snd.snd.snd.fst,
 (),
 s.snd.snd.fst.snd.snd.snd.snd.snd.snd.snd.snd.snd.snd.snd.snd.snd.snd.snd.snd.snd.snd.fst,
 (),
 s.snd.snd.fst.snd.snd.snd.snd.snd.snd.snd.snd.snd.snd.snd.snd.snd.snd.snd.snd.snd.snd.snd.snd.fst,
 (), ()),
 ()))
 fun
 (s :
 (Unit × List UInt8 × Unit × Int × Int × Unit) ×
 (Bool ×
 Bool ×
 Bool ×
 Bool ×
 Bool ×
 Bool ×
 Bool ×
 Bool ×
 Bool ×
 Bool ×
 Bool ×
 Bool ×
 Bool ×
 Int ×
 Bool ×
 List UInt8 × List UInt8 × Unit) ×
 (Int ×
 Unit ×
 Int ×
 Unit ×
 Int ×
 Unit ×
 Int ×
 Unit ×
 Int ×
 Unit ×
 Int ×
 Unit ×
 Int ×
 Unit ×
 Int ×
 Unit ×
 Int ×
 Unit ×
 Int ×
 Unit ×
 Int × Unit × Unit) ×
 Unit) =>
 some
 (((), s.fst.snd.fst, (), s.fst.snd.snd.snd), s.snd.fst,
 (s.snd.snd.fst.fst, (), s.snd.snd.fst.snd.snd.fst, (),
 s.snd.snd.fst.snd.snd.snd.snd.fst, (),
 s.snd.snd.fst.snd.snd.snd.snd.snd.snd.fst, (),
 s.snd.snd.fst.snd.snd.snd.snd.snd.snd.snd.snd.fst, (),
 s.snd.snd.fst.snd.snd.snd.snd.snd.snd.snd.snd.snd.snd.fst, (),
 s.snd.snd.fst.snd.snd.snd.snd.snd.snd.snd.snd.snd.snd.snd.snd.fst,
 (),
 s.snd.snd.fst.snd.snd.snd.snd.snd.snd.snd.snd.snd.snd.snd.snd.snd.snd.fst,
 (),
 s.snd.snd.fst.snd.snd.snd.snd.snd.snd.snd.snd.snd.snd.snd.snd.snd.snd.snd.snd.fst,
 (),
 s.snd.snd.fst.snd.snd.snd.snd.snd.snd.snd.snd.snd.snd.snd.snd.snd.snd.snd.snd.snd.snd.fst,
 (),
 s.snd.snd.fst.snd.snd.snd.snd.snd.snd.snd.snd.snd.snd.snd.snd.snd.snd.snd.snd.snd.snd.snd.snd.fst,
 (), ()),
 ())
 else none
 else none)
 fun
 (s :
 (Unit × List UInt8 × Unit × Int × Int × Unit) ×
 (Bool ×
 Bool ×
 Bool ×
 Bool ×
 Bool ×
 Bool ×
 Bool ×
 Bool ×
 Bool ×
 Bool ×
 Bool ×
 Bool × Bool × Int × Bool × List UInt8 × List UInt8 × Unit) ×
 (Int ×
 Unit ×
 Int ×
 Unit ×
 Int ×
 Unit ×
 Int ×
 Unit ×
 Int ×
 Unit ×
 Int ×
 Unit ×
 Int ×
 Unit ×
 Int ×
 Unit ×
 Int × Unit × Int × Unit × Int × Unit × Unit) ×
 Unit) =>
 some
 (((), s.fst.snd.fst, ((8 : Nat), (7 : Nat)), s.fst.snd.snd.snd), s.snd.fst,
 (s.snd.snd.fst.fst, (), s.snd.snd.fst.snd.snd.fst, (),
 s.snd.snd.fst.snd.snd.snd.snd.fst, (), s.snd.snd.fst.snd.snd.snd.snd.snd.snd.fst, (),
 s.snd.snd.fst.snd.snd.snd.snd.snd.snd.snd.snd.fst, (),
 s.snd.snd.fst.snd.snd.snd.snd.snd.snd.snd.snd.snd.snd.fst, (),
 s.snd.snd.fst.snd.snd.snd.snd.snd.snd.snd.snd.snd.snd.snd.snd.fst, (),
 s.snd.snd.fst.snd.snd.snd.snd.snd.snd.snd.snd.snd.snd.snd.snd.snd.snd.fst, (),
 s.snd.snd.fst.snd.snd.snd.snd.snd.snd.snd.snd.snd.snd.snd.snd.snd.snd.snd.snd.fst, (),
 s.snd.snd.fst.snd.snd.snd.snd.snd.snd.snd.snd.snd.snd.snd.snd.snd.snd.snd.snd.snd.snd.fst,
 (),
 s.snd.snd.fst.snd.snd.snd.snd.snd.snd.snd.snd.snd.snd.snd.snd.snd.snd.snd.snd.snd.snd.snd.snd.fst,
 (), ()),
 ())
 else none)
 fun
 (s :
 (Unit × List UInt8 × (Nat × Nat) × Int × Int × Unit) ×
 (Bool ×
 Bool ×
 Bool ×
 Bool ×
 Bool ×
 Bool ×
 Bool ×
 Bool ×
 Bool ×
 Bool ×
 Bool × Bool × Bool × Int × Bool × List UInt8 × List UInt8 × Unit) ×
 (Int ×
 Unit ×
 Int ×
 Unit ×
 Int ×
 Unit ×
 Int ×
 Unit ×
 Int ×
 Unit ×
 Int ×
 Unit ×
 Int ×
 Unit ×
 Int ×
 Unit × Int × Unit × Int × Unit × Int × Unit × Unit) ×
 Unit) =>
 k
 (((), s.fst.snd.fst, s.fst.snd.snd.fst, s.fst.snd.snd.snd.fst,
 IntKind.wrap IntKind.i64 (s.fst.snd.snd.snd.snd.fst + (1 : Int)), ()),
 s.snd.fst,
 (s.snd.snd.fst.fst, (), s.snd.snd.fst.snd.snd.fst, (), s.snd.snd.fst.snd.snd.snd.snd.fst, (),
 s.snd.snd.fst.snd.snd.snd.snd.snd.snd.fst, (),
 s.snd.snd.fst.snd.snd.snd.snd.snd.snd.snd.snd.fst, (),
 s.snd.snd.fst.snd.snd.snd.snd.snd.snd.snd.snd.snd.snd.fst, (),
 s.snd.snd.fst.snd.snd.snd.snd.snd.snd.snd.snd.snd.snd.snd.snd.fst, (),
 s.snd.snd.fst.snd.snd.snd.snd.snd.snd.snd.snd.snd.snd.snd.snd.snd.snd.fst, (),
 s.snd.snd.fst.snd.snd.snd.snd.snd.snd.snd.snd.snd.snd.snd.snd.snd.snd.snd.snd.fst, (),
 s.snd.snd.fst.snd.snd.snd.snd.snd.snd.snd.snd.snd.snd.snd.snd.snd.snd.snd.snd.snd.snd.fst,
 (),
 s.snd.snd.fst.snd.snd.snd.snd.snd.snd.snd.snd.snd.snd.snd.snd.snd.snd.snd.snd.snd.snd.snd.snd.fst,
 (), ()),
 ())
 else some (((), s.fst.snd.fst, ()), s.snd.fst, ()))
 (((), s.fst.snd.snd.fst, s.fst.snd.fst, (↑s.fst.snd.fst.snd : Int), (0 : Int), ()), s.snd.fst,
 (s.snd.snd.fst.fst, (), s.snd.snd.fst.snd.snd.fst, (), s.snd.snd.fst.snd.snd.snd.snd.fst, (),
 s.snd.snd.fst.snd.snd.snd.snd.snd.snd.fst, (), s.snd.snd.fst.snd.snd.snd.snd.snd.snd.snd.snd.fst,
 (), s.snd.snd.fst.snd.snd.snd.snd.snd.snd.snd.snd.snd.snd.fst, (),
 s.snd.snd.fst.snd.snd.snd.snd.snd.snd.snd.snd.snd.snd.snd.snd.fst, (),
 s.snd.snd.fst.snd.snd.snd.snd.snd.snd.snd.snd.snd.snd.snd.snd.snd.snd.fst, (),
 s.snd.snd.fst.snd.snd.snd.snd.snd.snd.snd.snd.snd.snd.snd.snd.snd.snd.snd.snd.fst, (),
 s.snd.snd.fst.snd.snd.snd.snd.snd.snd.snd.snd.snd.snd.snd.snd.snd.snd.snd.snd.snd.snd.fst, (),
 s.snd.snd.fst.snd.snd.snd.snd.snd.snd.snd.snd.snd.snd.snd.snd.snd.snd.snd.snd.snd.snd.snd.snd.fst,
 (), ()),
 ()))
 fun
 (s :
 (Unit × List UInt8 × Unit) ×
 (Bool ×
 Bool ×
 Bool ×
 Bool ×
 Bool ×
 Bool ×
 Bool ×
 Bool ×
 Bool × Bool × Bool × Bool × Bool × Int × Bool × List UInt8 × List UInt8 × Unit) ×
 Unit) =>
 Option.bind
 (m_impl_ShowOpts_1 (!s.fst.snd.fst == [(45 : UInt8)]) s.fst.snd.fst ((), ()) (nilOf (List UInt8)))
 fun (r : Unit × (Unit × Unit) × List (List UInt8) × Unit) =>
 Option.bind
 (m_impl_ShowOpts_1 s.snd.fst.snd.snd.snd.snd.snd.snd.fst
 [(45 : UInt8), (45 : UInt8), (115 : UInt8), (105 : UInt8), (122 : UInt8), (101 : UInt8),
 (45 : UInt8), (111 : UInt8), (110 : UInt8), (108 : UInt8), (121 : UInt8)]
 ((), ()) r.snd.snd.fst)
 fun (r : Unit × (Unit × Unit) × List (List UInt8) × Unit) =>
 Option.bind
 (m_impl_ShowOpts_1 s.snd.fst.snd.snd.snd.snd.snd.snd.snd.snd.snd.snd.fst
 [(45 : UInt8), (45 : UInt8), (101 : UInt8), (120 : UInt8), (105 : UInt8), (115 : UInt8),
 (116 : UInt8), (105 : UInt8), (110 : UInt8), (103 : UInt8)]
 ((), ()) r.snd.snd.fst)
 fun (r : Unit × (Unit × Unit) × List (List UInt8) × Unit) =>
 Option.bind
 (m_impl_ShowOpts_1 s.snd.fst.snd.snd.snd.snd.snd.snd.snd.snd.snd.snd.snd.fst
 [(45 : UInt8), (45 : UInt8), (105 : UInt8), (103 : UInt8), (110 : UInt8), (111 : UInt8),
 (114 : UInt8), (101 : UInt8), (45 : UInt8), (101 : UInt8), (120 : UInt8), (105 : UInt8),
 (115 : UInt8), (116 : UInt8), (105 : UInt8), (110 : UInt8), (103 : UInt8)]
 ((), ()) r.snd.snd.fst)
 fun (r : Unit × (Unit × Unit) × List (List UInt8) × Unit) =>
 Option.bind m_impl_deleteWords fun (r_1 : List (List UInt8) × Unit) =>
 if
 (0 : Int) ≤ s.snd.fst.snd.snd.snd.snd.snd.snd.snd.snd.snd.snd.snd.snd.snd.fst ∧
 s.snd.fst.snd.snd.snd.snd.snd.snd.snd.snd.snd.snd.snd.snd.snd.fst <
 (↑(List.length r_1.fst) : Int) then
 Option.bind
 (m_impl_ShowOpts_1
 (s.snd.fst.snd.snd.snd.snd.snd.snd.snd.snd.snd.snd.snd.snd.snd.fst != (0 : Int))
 (List.getD r_1.fst
 (Int.toNat s.snd.fst.snd.snd.snd.snd.snd.snd.snd.snd.snd.snd.snd.snd.snd.fst)
 (nilOf UInt8))
 ((), ()) r.snd.snd.fst)
 fun (r : Unit × (Unit × Unit) × List (List UInt8) × Unit) =>
 Option.bind
 (bif
 !s.snd.fst.snd.snd.snd.snd.snd.snd.snd.snd.snd.snd.snd.snd.snd.snd.snd.fst ==
 nilOf UInt8 then
 bif
 s.snd.fst.snd.snd.snd.snd.snd.snd.snd.snd.snd.snd.snd.snd.snd.snd.snd.fst ==
 [(46 : UInt8), (98 : UInt8), (97 : UInt8), (107 : UInt8)] then
 if
 List.length
 [(45 : UInt8), (45 : UInt8), (115 : UInt8), (117 : UInt8), (102 : UInt8),
 (102 : UInt8), (105 : UInt8), (120 : UInt8), (61 : UInt8)] +
 List.length
 s.snd.fst.snd.snd.snd.snd.snd.snd.snd.snd.snd.snd.snd.snd.snd.snd.snd.fst <
 (2 : Nat) ^ (63 : Nat) then
 Option.bind
 (m_impl_ShowOpts_1
 (!s.snd.fst.snd.snd.snd.snd.snd.snd.snd.snd.snd.snd.snd.snd.snd.snd.snd.snd.fst ==
 nilOf UInt8)
 ([(45 : UInt8), (45 : UInt8), (115 : UInt8), (117 : UInt8), (102 : UInt8),
 (102 : UInt8), (105 : UInt8), (120 : UInt8), (61 : UInt8)] ++
 s.snd.fst.snd.snd.snd.snd.snd.snd.snd.snd.snd.snd.snd.snd.snd.snd.snd.fst)
 ((), ()) r.snd.snd.fst)
 fun (r : Unit × (Unit × Unit) × List (List UInt8) × Unit) =>
 some (((), (), (), ()), s.snd.fst, ((), ()), r.snd.snd)
 else none
 else
 if
 List.length
 [(45 : UInt8), (45 : UInt8), (115 : UInt8), (117 : UInt8), (102 : UInt8),
 (102 : UInt8), (105 : UInt8), (120 : UInt8), (61 : UInt8)] +
 List.length
 s.snd.fst.snd.snd.snd.snd.snd.snd.snd.snd.snd.snd.snd.snd.snd.snd.snd.fst <
 (2 : Nat) ^ (63 : Nat) then
 Option.bind
 (m_impl_ShowOpts_1 (!false)
 ([(45 : UInt8), (45 : UInt8), (115 : UInt8), (117 : UInt8), (102 : UInt8),
 (102 : UInt8), (105 : UInt8), (120 : UInt8), (61 : UInt8)] ++
 s.snd.fst.snd.snd.snd.snd.snd.snd.snd.snd.snd.snd.snd.snd.snd.snd.snd.fst)
 ((), ()) r.snd.snd.fst)
 fun (r : Unit × (Unit × Unit) × List (List UInt8) × Unit) =>
 some (((), (), (), ()), s.snd.fst, ((), ()), r.snd.snd)
 else none
 else
 if
 List.length
 [(45 : UInt8), (45 : UInt8), (115 : UInt8), (117 : UInt8), (102 : UInt8),
 (102 : UInt8), (105 : UInt8), (120 : UInt8), (61 : UInt8)] +
 List.length
 s.snd.fst.snd.snd.snd.snd.snd.snd.snd.snd.snd.snd.snd.snd.snd.snd.snd.fst <
 (2 : Nat) ^ (63 : Nat) then
 Option.bind
 (m_impl_ShowOpts_1 false
 ([(45 : UInt8), (45 : UInt8), (115 : UInt8), (117 : UInt8), (102 : UInt8),
 (102 : UInt8), (105 : UInt8), (120 : UInt8), (61 : UInt8)] ++
 s.snd.fst.snd.snd.snd.snd.snd.snd.snd.snd.snd.snd.snd.snd.snd.snd.snd.fst)
 ((), ()) r.snd.snd.fst)
 fun (r : Unit × (Unit × Unit) × List (List UInt8) × Unit) =>
 some (((), (), (), ()), s.snd.fst, ((), ()), r.snd.snd)
 else none)
 fun
 (s :
 (Unit × Unit × Unit × Unit) ×
 (Bool ×
 Bool ×
 Bool ×
 Bool ×
 Bool ×
 Bool ×
 Bool ×
 Bool ×
 Bool ×
 Bool ×
 Bool ×
 Bool ×
 Bool × Int × Bool × List UInt8 × List UInt8 × Unit) ×
 (Unit × Unit) × List (List UInt8) × Unit) =>
 if
 List.length
 [(45 : UInt8), (45 : UInt8), (98 : UInt8), (97 : UInt8), (99 : UInt8),
 (107 : UInt8), (117 : UInt8), (112 : UInt8), (45 : UInt8), (100 : UInt8),
 (105 : UInt8), (114 : UInt8), (61 : UInt8)] +
 List.length
 s.snd.fst.snd.snd.snd.snd.snd.snd.snd.snd.snd.snd.snd.snd.snd.snd.snd.snd.fst <
 (2 : Nat) ^ (63 : Nat) then
 Option.bind
 (m_impl_ShowOpts_1
 (!s.snd.fst.snd.snd.snd.snd.snd.snd.snd.snd.snd.snd.snd.snd.snd.snd.snd.snd.fst ==
 nilOf UInt8)
 ([(45 : UInt8), (45 : UInt8), (98 : UInt8), (97 : UInt8), (99 : UInt8),
 (107 : UInt8), (117 : UInt8), (112 : UInt8), (45 : UInt8), (100 : UInt8),
 (105 : UInt8), (114 : UInt8), (61 : UInt8)] ++
 s.snd.fst.snd.snd.snd.snd.snd.snd.snd.snd.snd.snd.snd.snd.snd.snd.snd.snd.fst)
 ((), ()) s.snd.snd.snd.fst)
 fun (r : Unit × (Unit × Unit) × List (List UInt8) × Unit) =>
 Option.bind (m_strings_Join r.snd.snd.fst [(32 : UInt8)])
 fun (r : List UInt8 × Unit) => some r
 else none
 else none
-- laws.FnExactShowOpts
def m_laws_FnExactShowOpts (a0 : (Bool × (Bool × (Bool × (Bool × (Bool × (Bool × (Bool × (Bool × (Bool × (Bool × (Bool × (Bool × (Bool × (Int × (Bool × (List UInt8 × List UInt8))))))))))))))))) : Option (Bool × Unit) :=
 Option.bind (m_laws_szOpts a0 (1048576 : Int)) fun (r : Int × Unit) =>
 bif decide (r.fst < (0 : Int)) then some (true, ())
 else
 Option.bind (m_laws_toOpts a0)
 fun
 (r :
 (Bool ×
 Bool ×
 Bool ×
 Bool ×
 Bool ×
 Bool × Bool × Bool × Bool × Bool × Bool × Bool × Bool × Int × Bool × List UInt8 × List UInt8) ×
 Unit) =>
 Option.bind (m_spec_ShowOpts r.fst) fun (r : List UInt8 × Unit) =>
 Option.bind (m_laws_toOpts a0)
 fun
 (r_1 :
 (Bool ×
 Bool ×
 Bool ×
 Bool ×
 Bool ×
 Bool ×
 Bool × Bool × Bool × Bool × Bool × Bool × Bool × Int × Bool × List UInt8 × List UInt8) ×
 Unit) =>
 Option.bind (m_impl_ShowOpts r_1.fst) fun (r_2 : List UInt8 × Unit) =>
 bif !r_2.fst == r.fst then some (false, ()) else some (true, ())
end Go.AM
