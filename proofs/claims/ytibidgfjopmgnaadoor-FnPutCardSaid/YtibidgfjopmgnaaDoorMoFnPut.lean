/- What each function computes, in plain Lean. -/
import Derived.Test.YtibidgfjopmgnaaDoorAmE
set_option linter.unusedVariables false
set_option maxRecDepth 100000
namespace Go.AM
open Go
-- laws.big
def m_laws_big (a0 : List Int) : Option (Bool × Unit) :=
 some (decide ((↑(List.length a0) : Int) > (1048576 : Int)), ())
-- spec.l01New
def m_spec_l01New (a0 : List Int) : Option (Unit × ((List Int × Int × Int × Unit) × Unit)) :=
 Option.bind
 (loopC
 (List.length a0 + Int.toNat (IntKind.wrap IntKind.i64 ((100100 : Int) + (↑(List.length a0) : Int))) +
 Int.toNat (0 : Int) +
 (300 : Nat))
 (fun (s : (List Int × Int × Int × PUnit) × PUnit)
 (k : (List Int × Int × Int × PUnit) × PUnit → Option ((List Int × Int × PUnit) × PUnit)) =>
 Option.bind
 (bif decide (s.fst.snd.snd.fst < (↑(List.length s.fst.fst) : Int)) then
 some ((s.fst.fst, s.fst.snd.fst, s.fst.snd.snd.fst, decide (s.fst.snd.snd.fst < (4000 : Int)), ()), ())
 else some ((s.fst.fst, s.fst.snd.fst, s.fst.snd.snd.fst, false, ()), ()))
 fun (s : (List Int × Int × Int × Bool × PUnit) × PUnit) =>
 bif s.fst.snd.snd.snd.fst then
 if (0 : Int) ≤ s.fst.snd.snd.fst ∧ s.fst.snd.snd.fst < (↑(List.length s.fst.fst) : Int) then
 k
 ((s.fst.fst,
 bitsOf BinOp.and IntKind.i64
 (IntKind.wrap IntKind.i64
 (IntKind.wrap IntKind.i64
 (IntKind.wrap IntKind.i64 (s.fst.snd.fst * (131 : Int)) +
 IntKind.wrap IntKind.i64
 (List.getD s.fst.fst (Int.toNat s.fst.snd.snd.fst) (Int.ofNat (nat_lit 0)))) +
 (7 : Int)))
 (1073741823 : Int),
 IntKind.wrap IntKind.i64 (s.fst.snd.snd.fst + (1 : Int)), ()),
 ())
 else none
 else some ((s.fst.fst, s.fst.snd.fst, ()), ()))
 ((a0, IntKind.wrap IntKind.i64 ((100100 : Int) + (↑(List.length a0) : Int)), (0 : Int), ()), ()))
 fun (s : (List Int × Int × PUnit) × PUnit) => some ((), (s.fst.fst, (0 : Int), s.fst.snd.fst, ()), ())
-- spec.l01Size
def m_spec_l01Size (a0 : List Int) (a1 : Int) : Option (Int × Unit) :=
 if (20 : Int) ≠ (0 : Int) then
 bif
 decide
 (IntKind.wrap IntKind.i64
 ((2 : Int) + IntKind.wrap IntKind.i64 (Int.tdiv (↑(List.length a0) : Int) (20 : Int))) >
 a1) then
 some (a1, ())
 else
 some
 (IntKind.wrap IntKind.i64
 ((2 : Int) + IntKind.wrap IntKind.i64 (Int.tdiv (↑(List.length a0) : Int) (20 : Int))),
 ())
 else none
-- spec.l01Byte
def m_spec_l01Byte (s0 : (List Int × Int × Int × Unit)) : Option (Int × ((List Int × Int × Int × Unit) × Unit)) :=
 if (0 : Int) ≤ (33 : Int) then
 if (0 : Int) ≤ (45 : Int) then
 Option.bind
 (bif decide (s0.snd.fst < (↑(List.length s0.fst) : Int)) then
 if (0 : Int) ≤ s0.snd.fst ∧ s0.snd.fst < (↑(List.length s0.fst) : Int) then
 some
 ((bitsOf BinOp.and IntKind.i64
 (IntKind.wrap IntKind.i64
 (bitsOf BinOp.and IntKind.i64
 (bitsOf BinOp.xor IntKind.i64
 (Int.fdiv
 (IntKind.wrap IntKind.i64
 (IntKind.wrap IntKind.i64 (s0.snd.snd.fst * (6364136223846793005 : Int)) +
 (1442695040888963407 : Int)))
 ((2 : Int) ^ min (Int.toNat (33 : Int)) (IntKind.bits IntKind.i64)))
 (Int.fdiv
 (IntKind.wrap IntKind.i64
 (IntKind.wrap IntKind.i64 (s0.snd.snd.fst * (6364136223846793005 : Int)) +
 (1442695040888963407 : Int)))
 ((2 : Int) ^ min (Int.toNat (45 : Int)) (IntKind.bits IntKind.i64))))
 (255 : Int) +
 IntKind.wrap IntKind.i64 (List.getD s0.fst (Int.toNat s0.snd.fst) (Int.ofNat (nat_lit 0)))))
 (255 : Int),
 ()),
 (s0.fst, IntKind.wrap IntKind.i64 (s0.snd.fst + (1 : Int)),
 IntKind.wrap IntKind.i64
 (IntKind.wrap IntKind.i64 (s0.snd.snd.fst * (6364136223846793005 : Int)) +
 (1442695040888963407 : Int)),
 ()),
 ())
 else none
 else
 some
 ((bitsOf BinOp.and IntKind.i64
 (bitsOf BinOp.xor IntKind.i64
 (Int.fdiv
 (IntKind.wrap IntKind.i64
 (IntKind.wrap IntKind.i64 (s0.snd.snd.fst * (6364136223846793005 : Int)) +
 (1442695040888963407 : Int)))
 ((2 : Int) ^ min (Int.toNat (33 : Int)) (IntKind.bits IntKind.i64)))
 (Int.fdiv
 (IntKind.wrap IntKind.i64
 (IntKind.wrap IntKind.i64 (s0.snd.snd.fst * (6364136223846793005 : Int)) +
 (1442695040888963407 : Int)))
 ((2 : Int) ^ min (Int.toNat (45 : Int)) (IntKind.bits IntKind.i64))))
 (255 : Int),
 ()),
 (s0.fst, s0.snd.fst,
 IntKind.wrap IntKind.i64
 (IntKind.wrap IntKind.i64 (s0.snd.snd.fst * (6364136223846793005 : Int)) +
 (1442695040888963407 : Int)),
 ()),
 ()))
 fun (s : (Int × PUnit) × (List Int × Int × Int × PUnit) × PUnit) =>
 some (s.fst.fst, (s.snd.fst.fst, s.snd.fst.snd.fst, s.snd.fst.snd.snd.fst, ()), ())
 else none
 else none
-- spec.l01Below
def m_spec_l01Below (a1 : Int) (s0 : (List Int × Int × Int × Unit)) : Option (Int × ((List Int × Int × Int × Unit) × Unit)) :=
 bif decide (a1 ≤ (0 : Int)) then some ((0 : Int), (s0.fst, s0.snd.fst, s0.snd.snd.fst, ()), ())
 else
 bif decide (a1 ≤ (256 : Int)) then
 Option.bind (m_spec_l01Byte (s0.fst, s0.snd.fst, s0.snd.snd.fst, ()))
 fun (r : Int × (List Int × Int × Int × PUnit) × PUnit) =>
 if a1 ≠ (0 : Int) then
 some (Int.tmod r.fst a1, (r.snd.fst.fst, r.snd.fst.snd.fst, r.snd.fst.snd.snd.fst, ()), ())
 else none
 else
 Option.bind (m_spec_l01Byte (s0.fst, s0.snd.fst, s0.snd.snd.fst, ()))
 fun (r : Int × (List Int × Int × Int × PUnit) × PUnit) =>
 Option.bind (m_spec_l01Byte (r.snd.fst.fst, r.snd.fst.snd.fst, r.snd.fst.snd.snd.fst, ()))
 fun (r_1 : Int × (List Int × Int × Int × PUnit) × PUnit) =>
 Option.bind (m_spec_l01Byte (r_1.snd.fst.fst, r_1.snd.fst.snd.fst, r_1.snd.fst.snd.snd.fst, ()))
 fun (r_2 : Int × (List Int × Int × Int × PUnit) × PUnit) =>
 Option.bind (m_spec_l01Byte (r_2.snd.fst.fst, r_2.snd.fst.snd.fst, r_2.snd.fst.snd.snd.fst, ()))
 fun (r_3 : Int × (List Int × Int × Int × PUnit) × PUnit) =>
 if a1 ≠ (0 : Int) then
 some
 (Int.tmod
 (IntKind.wrap IntKind.i64
 (IntKind.wrap IntKind.i64
 (IntKind.wrap IntKind.i64
 (IntKind.wrap IntKind.i64 (r.fst * (16777216 : Int)) +
 IntKind.wrap IntKind.i64 (r_1.fst * (65536 : Int))) +
 IntKind.wrap IntKind.i64 (r_2.fst * (256 : Int))) +
 r_3.fst))
 a1,
 (r_3.snd.fst.fst, r_3.snd.fst.snd.fst, r_3.snd.fst.snd.snd.fst, ()), ())
 else none
-- spec.l01Once
def m_spec_l01Once (a1 : Int) (s0 : (List Int × Int × Int × Unit)) : Option (Bool × ((List Int × Int × Int × Unit) × Unit)) :=
 Option.bind (m_spec_l01Below a1 (s0.fst, s0.snd.fst, s0.snd.snd.fst, ()))
 fun (r : Int × (List Int × Int × Int × PUnit) × PUnit) =>
 some (r.fst == (0 : Int), (r.snd.fst.fst, r.snd.fst.snd.fst, r.snd.fst.snd.snd.fst, ()), ())
-- spec.l01Pick
def m_spec_l01Pick (a1 : List (List UInt8)) (s0 : (List Int × Int × Int × Unit)) : Option (List UInt8 × ((List Int × Int × Int × Unit) × Unit)) :=
 Option.bind (m_spec_l01Below (↑(List.length a1) : Int) (s0.fst, s0.snd.fst, s0.snd.snd.fst, ()))
 fun (r : Int × (List Int × Int × Int × PUnit) × PUnit) =>
 if (0 : Int) ≤ r.fst ∧ r.fst < (↑(List.length a1) : Int) then
 some
 (List.getD a1 (Int.toNat r.fst) (nilOf UInt8), (r.snd.fst.fst, r.snd.fst.snd.fst, r.snd.fst.snd.snd.fst, ()),
 ())
 else none
-- spec.l02Name
def m_spec_l02Name (s0 : (List Int × Int × Int × Unit)) : Option (List UInt8 × ((List Int × Int × Int × Unit) × Unit)) :=
 Option.bind
 (m_spec_l01Pick
 [[(97 : UInt8)], [(98 : UInt8)], [(99 : UInt8)], [(100 : UInt8), (111 : UInt8), (99 : UInt8), (115 : UInt8)],
 [(105 : UInt8), (109 : UInt8), (103 : UInt8)],
 [(120 : UInt8), (46 : UInt8), (116 : UInt8), (120 : UInt8), (116 : UInt8)],
 [(121 : UInt8), (46 : UInt8), (116 : UInt8), (120 : UInt8), (116 : UInt8)],
 [(122 : UInt8), (46 : UInt8), (111 : UInt8)],
 [(110 : UInt8), (111 : UInt8), (116 : UInt8), (101 : UInt8), (95 : UInt8), (49 : UInt8)], [(66 : UInt8)],
 [(111 : UInt8), (108 : UInt8), (100 : UInt8)],
 [(107 : UInt8), (101 : UInt8), (101 : UInt8), (112 : UInt8), (46 : UInt8), (109 : UInt8), (101 : UInt8)],
 [(97 : UInt8), (45 : UInt8), (98 : UInt8)], [(108 : UInt8), (105 : UInt8), (98 : UInt8)]]
 (s0.fst, s0.snd.fst, s0.snd.snd.fst, ()))
 fun (r : List UInt8 × (List Int × Int × Int × PUnit) × PUnit) =>
 some (r.fst, (r.snd.fst.fst, r.snd.fst.snd.fst, r.snd.fst.snd.snd.fst, ()), ())
-- spec.l02Names
def m_spec_l02Names (a0 : List UInt8) : Option (List (List UInt8) × Unit) :=
 Option.bind
 (loopC (List.length a0 + Int.toNat (0 : Int) + Int.toNat (0 : Int) + List.length (nilOf (List UInt8)) + (300 : Nat))
 (fun (s : (List UInt8 × Unit × Int × Int × Unit) × List (List UInt8) × Unit)
 (k :
 (List UInt8 × Unit × Int × Int × Unit) × List (List UInt8) × Unit →
 Option ((List UInt8 × Unit × Int × Unit) × List (List UInt8) × Unit)) =>
 bif decide (s.fst.snd.snd.snd.fst < (↑(List.length s.fst.fst) : Int)) then
 if (0 : Int) ≤ s.fst.snd.snd.snd.fst ∧ s.fst.snd.snd.snd.fst < (↑(List.length s.fst.fst) : Int) then
 Option.bind
 (bif
 (↑(UInt8.toNat (List.getD s.fst.fst (Int.toNat s.fst.snd.snd.snd.fst) (0 : UInt8))) : Int) ==
 (47 : Int) then
 if
 (0 : Int) ≤ s.fst.snd.snd.fst ∧
 s.fst.snd.snd.fst ≤ s.fst.snd.snd.snd.fst ∧
 s.fst.snd.snd.snd.fst ≤ (↑(List.length s.fst.fst) : Int) then
 if
 (List.length s.snd.fst +
 List.length
 [List.drop (Int.toNat s.fst.snd.snd.fst)
 (List.take (Int.toNat s.fst.snd.snd.snd.fst) s.fst.fst)]) *
 (16 : Nat) ≤
 (140737488355328 : Nat) then
 some
 ((s.fst.fst, (), IntKind.wrap IntKind.i64 (s.fst.snd.snd.snd.fst + (1 : Int)), s.fst.snd.snd.snd),
 s.snd.fst ++
 [List.drop (Int.toNat s.fst.snd.snd.fst)
 (List.take (Int.toNat s.fst.snd.snd.snd.fst) s.fst.fst)],
 ())
 else none
 else none
 else some ((s.fst.fst, (), s.fst.snd.snd), s.snd))
 fun (s : (List UInt8 × Unit × Int × Int × Unit) × List (List UInt8) × Unit) =>
 k
 ((s.fst.fst, (), s.fst.snd.snd.fst, IntKind.wrap IntKind.i64 (s.fst.snd.snd.snd.fst + (1 : Int)), ()),
 s.snd)
 else none
 else some ((s.fst.fst, (), s.fst.snd.snd.fst, ()), s.snd))
 ((a0, (), (0 : Int), (0 : Int), ()), nilOf (List UInt8), ()))
 fun (s : (List UInt8 × Unit × Int × Unit) × List (List UInt8) × Unit) =>
 if
 (0 : Int) ≤ s.fst.snd.snd.fst ∧
 s.fst.snd.snd.fst ≤ (↑(List.length s.fst.fst) : Int) ∧
 (↑(List.length s.fst.fst) : Int) ≤ (↑(List.length s.fst.fst) : Int) then
 if
 (List.length s.snd.fst +
 List.length
 [List.drop (Int.toNat s.fst.snd.snd.fst)
 (List.take (Int.toNat (↑(List.length s.fst.fst) : Int)) s.fst.fst)]) *
 (16 : Nat) ≤
 (140737488355328 : Nat) then
 some
 (s.snd.fst ++
 [List.drop (Int.toNat s.fst.snd.snd.fst)
 (List.take (Int.toNat (↑(List.length s.fst.fst) : Int)) s.fst.fst)],
 ())
 else none
 else none
-- spec.l01In
def m_spec_l01In (a0 : Int) (a1 : Int) (a2 : Int) : Option (Bool × Unit) :=
 Option.bind (bif decide (a0 ≥ a1) then some ((decide (a0 ≤ a2), ()), ()) else some ((false, ()), ()))
 fun (s : (Bool × PUnit) × PUnit) => some (s.fst.fst, ())
-- spec.NameOk
def m_spec_NameOk (a0 : List UInt8) : Option (Bool × Unit) :=
 Option.bind
 (Option.bind (m_spec_l01In (↑(List.length a0) : Int) (1 : Int) (20 : Int)) fun (r : Bool × Unit) =>
 bif !r.fst then some ((a0, true, ()), ())
 else
 bif a0 == [(46 : UInt8)] then some ((a0, true, ()), ())
 else some ((a0, a0 == [(46 : UInt8), (46 : UInt8)], ()), ()))
 fun (s : (List UInt8 × Bool × Unit) × Unit) =>
 bif s.fst.snd.fst then some (false, ())
 else
 joinC
 (loopC (List.length s.fst.fst + Int.toNat (0 : Int) + (300 : Nat))
 (fun (s : (List UInt8 × Int × Unit) × Unit)
 (k : (List UInt8 × Int × Unit) × Unit → Option (Unit × Unit ⊕ Bool × Unit)) =>
 bif decide (s.fst.snd.fst < (↑(List.length s.fst.fst) : Int)) then
 if (0 : Int) ≤ s.fst.snd.fst ∧ s.fst.snd.fst < (↑(List.length s.fst.fst) : Int) then
 Option.bind
 (Option.bind
 (m_spec_l01In
 (IntKind.wrap IntKind.i64
 (↑(UInt8.toNat (List.getD s.fst.fst (Int.toNat s.fst.snd.fst) (0 : UInt8))) : Int))
 (97 : Int) (122 : Int))
 fun (r : Bool × Unit) =>
 bif !r.fst then
 Option.bind
 (m_spec_l01In
 (IntKind.wrap IntKind.i64
 (↑(UInt8.toNat (List.getD s.fst.fst (Int.toNat s.fst.snd.fst) (0 : UInt8))) : Int))
 (65 : Int) (90 : Int))
 fun (r : Bool × Unit) =>
 bif !r.fst then
 Option.bind
 (m_spec_l01In
 (IntKind.wrap IntKind.i64
 (↑(UInt8.toNat (List.getD s.fst.fst (Int.toNat s.fst.snd.fst) (0 : UInt8))) : Int))
 (48 : Int) (57 : Int))
 fun (r : Bool × Unit) =>
 bif !r.fst then
 if (0 : Int) ≤ s.fst.snd.fst ∧ s.fst.snd.fst < (↑(List.length s.fst.fst) : Int) then
 bif
 (↑(UInt8.toNat (List.getD s.fst.fst (Int.toNat s.fst.snd.fst) (0 : UInt8))) :
 Int) !=
 (46 : Int) then
 if (0 : Int) ≤ s.fst.snd.fst ∧ s.fst.snd.fst < (↑(List.length s.fst.fst) : Int) then
 bif
 (↑(UInt8.toNat (List.getD s.fst.fst (Int.toNat s.fst.snd.fst) (0 : UInt8))) :
 Int) !=
 (95 : Int) then
 if
 (0 : Int) ≤ s.fst.snd.fst ∧
 s.fst.snd.fst < (↑(List.length s.fst.fst) : Int) then
 some
 ((s.fst.fst, s.fst.snd.fst,
 (↑(UInt8.toNat
 (List.getD s.fst.fst (Int.toNat s.fst.snd.fst) (0 : UInt8))) :
 Int) !=
 (45 : Int),
 ()),
 ())
 else none
 else some ((s.fst.fst, s.fst.snd.fst, false, ()), ())
 else none
 else some ((s.fst.fst, s.fst.snd.fst, false, ()), ())
 else none
 else some ((s.fst.fst, s.fst.snd.fst, false, ()), ())
 else some ((s.fst.fst, s.fst.snd.fst, false, ()), ())
 else some ((s.fst.fst, s.fst.snd.fst, false, ()), ()))
 fun (s : (List UInt8 × Int × Bool × Unit) × Unit) =>
 bif s.fst.snd.snd.fst then some (Sum.inr (false, ()))
 else k ((s.fst.fst, IntKind.wrap IntKind.i64 (s.fst.snd.fst + (1 : Int)), ()), ())
 else none
 else some (Sum.inl ((), ())))
 ((s.fst.fst, (0 : Int), ()), ()))
 fun (s : Unit × Unit) => some (true, ())
-- spec.PathOk
def m_spec_PathOk (a0 : List UInt8) : Option (Bool × Unit) :=
 bif decide ((↑(List.length a0) : Int) > (200 : Int)) then some (false, ())
 else
 Option.bind (m_spec_l02Names a0) fun (r : List (List UInt8) × Unit) =>
 joinC
 (loopC (List.length r.fst + Int.toNat (0 : Int) + (300 : Nat))
 (fun (s : (List (List UInt8) × Int × Unit) × Unit)
 (k :
 (List (List UInt8) × Int × Unit) × Unit →
 Option ((List (List UInt8) × Unit) × Unit ⊕ Bool × Unit)) =>
 bif decide (s.fst.snd.fst < (↑(List.length s.fst.fst) : Int)) then
 if (0 : Int) ≤ s.fst.snd.fst ∧ s.fst.snd.fst < (↑(List.length s.fst.fst) : Int) then
 Option.bind (m_spec_NameOk (List.getD s.fst.fst (Int.toNat s.fst.snd.fst) (nilOf UInt8)))
 fun (r : Bool × Unit) =>
 bif !r.fst then some (Sum.inr (false, ()))
 else k ((s.fst.fst, IntKind.wrap IntKind.i64 (s.fst.snd.fst + (1 : Int)), ()), ())
 else none
 else some (Sum.inl ((s.fst.fst, ()), ())))
 ((r.fst, (0 : Int), ()), ()))
 fun (s : (List (List UInt8) × Unit) × Unit) =>
 some (decide ((↑(List.length s.fst.fst) : Int) ≤ (8 : Int)), ())
-- spec.JoinPath
def m_spec_JoinPath (a0 : List UInt8) (a1 : List UInt8) : Option (List UInt8 × Unit) :=
 Option.bind
 (bif !a0 == nilOf UInt8 then
 if List.length a0 + List.length [(47 : UInt8)] < (2 : Nat) ^ (63 : Nat) then
 if List.length (a0 ++ [(47 : UInt8)]) + List.length a1 < (2 : Nat) ^ (63 : Nat) then
 some ((a0, a1, a0 ++ [(47 : UInt8)] ++ a1, ()), ())
 else none
 else none
 else some ((a0, a1, a1, ()), ()))
 fun (s : (List UInt8 × List UInt8 × List UInt8 × Unit) × Unit) =>
 Option.bind
 (bif !s.fst.fst == nilOf UInt8 then
 Option.bind (m_spec_PathOk s.fst.fst) fun (r : Bool × Unit) =>
 bif !r.fst then some ((s.fst.snd.snd.fst, true, ()), ())
 else
 Option.bind (m_spec_NameOk s.fst.snd.fst) fun (r : Bool × Unit) =>
 bif !r.fst then some ((s.fst.snd.snd.fst, true, ()), ())
 else
 Option.bind (m_spec_PathOk s.fst.snd.snd.fst) fun (r : Bool × Unit) =>
 some ((s.fst.snd.snd.fst, !r.fst, ()), ())
 else
 Option.bind (m_spec_NameOk s.fst.snd.fst) fun (r : Bool × Unit) =>
 bif !r.fst then some ((s.fst.snd.snd.fst, true, ()), ())
 else
 Option.bind (m_spec_PathOk s.fst.snd.snd.fst) fun (r : Bool × Unit) =>
 some ((s.fst.snd.snd.fst, !r.fst, ()), ()))
 fun (s : (List UInt8 × Bool × Unit) × Unit) =>
 bif s.fst.snd.fst then some (nilOf UInt8, ()) else some (s.fst.fst, ())
-- spec.l10At
def m_spec_l10At (a0 : List (List UInt8 × (Int × (Int × (Int × (List UInt8 × (List UInt8 × Int))))))) (a1 : List UInt8) : Option (Int × Unit) :=
 joinC
 (loopC (List.length a0 + List.length a1 + Int.toNat (0 : Int) + (300 : Nat))
 (fun
 (s : (List (List UInt8 × Int × Int × Int × List UInt8 × List UInt8 × Int) × List UInt8 × Int × Unit) × Unit)
 (k :
 (List (List UInt8 × Int × Int × Int × List UInt8 × List UInt8 × Int) × List UInt8 × Int × Unit) × Unit →
 Option (Unit × Unit ⊕ Int × Unit)) =>
 bif decide (s.fst.snd.snd.fst < (↑(List.length s.fst.fst) : Int)) then
 if (0 : Int) ≤ s.fst.snd.snd.fst ∧ s.fst.snd.snd.fst < (↑(List.length s.fst.fst) : Int) then
 bif
 (List.getD s.fst.fst (Int.toNat s.fst.snd.snd.fst)
 (nilOf UInt8, Int.ofNat (nat_lit 0), Int.ofNat (nat_lit 0), Int.ofNat (nat_lit 0), nilOf UInt8,
 nilOf UInt8, Int.ofNat (nat_lit 0))).fst ==
 s.fst.snd.fst then
 some (Sum.inr s.fst.snd.snd)
 else k ((s.fst.fst, s.fst.snd.fst, IntKind.wrap IntKind.i64 (s.fst.snd.snd.fst + (1 : Int)), ()), ())
 else none
 else some (Sum.inl ((), ())))
 ((a0, a1, (0 : Int), ()), ()))
 fun (s : Unit × Unit) => some ((-1 : Int), ())
-- spec.l01PickInt
def m_spec_l01PickInt (a1 : List Int) (s0 : (List Int × Int × Int × Unit)) : Option (Int × ((List Int × Int × Int × Unit) × Unit)) :=
 Option.bind (m_spec_l01Below (↑(List.length a1) : Int) s0) fun (r : Int × (List Int × Int × Int × Unit) × Unit) =>
 if (0 : Int) ≤ r.fst ∧ r.fst < (↑(List.length a1) : Int) then
 some (List.getD a1 (Int.toNat r.fst) (Int.ofNat (nat_lit 0)), r.snd)
 else none
-- spec.l01Text
def m_spec_l01Text (a1 : Int) (s0 : (List Int × Int × Int × Unit)) : Option (List UInt8 × ((List Int × Int × Int × Unit) × Unit)) :=
 Option.bind
 (loopC ((2 : Nat) ^ (100 : Nat))
 (fun (s : (PUnit × Int × PUnit × PUnit) × (List Int × Int × Int × PUnit) × List Int × PUnit)
 (k :
 (PUnit × Int × PUnit × PUnit) × (List Int × Int × Int × PUnit) × List Int × PUnit →
 Option ((Int × PUnit × PUnit) × (List Int × Int × Int × PUnit) × List Int × PUnit)) =>
 bif decide ((↑(List.length s.snd.snd.fst) : Int) < s.fst.snd.fst) then
 Option.bind (m_spec_l01Below (5 : Int) (s.snd.fst.fst, s.snd.fst.snd.fst, s.snd.fst.snd.snd.fst, ()))
 fun (r : Int × (List Int × Int × Int × PUnit) × PUnit) =>
 Option.bind
 (bif r.fst == (0 : Int) then
 Option.bind (m_spec_l01Byte (r.snd.fst.fst, r.snd.fst.snd.fst, r.snd.fst.snd.snd.fst, ()))
 fun (r : Int × (List Int × Int × Int × PUnit) × PUnit) =>
 if
 (List.length s.snd.snd.fst + List.length [IntKind.wrap IntKind.u8 r.fst]) * (1 : Nat) ≤
 (140737488355328 : Nat) then
 some
 (((), s.fst.snd.fst, (), ()), (r.snd.fst.fst, r.snd.fst.snd.fst, r.snd.fst.snd.snd.fst, ()),
 s.snd.snd.fst ++ [IntKind.wrap IntKind.u8 r.fst], ())
 else none
 else
 Option.bind
 (bif r.fst == (1 : Int) then
 Option.bind
 (m_spec_l01Below (9 : Int) (r.snd.fst.fst, r.snd.fst.snd.fst, r.snd.fst.snd.snd.fst, ()))
 fun (r : Int × (List Int × Int × Int × PUnit) × PUnit) =>
 Option.bind
 (m_spec_l01Below (4 : Int) (r.snd.fst.fst, r.snd.fst.snd.fst, r.snd.fst.snd.snd.fst, ()))
 fun (r_1 : Int × (List Int × Int × Int × PUnit) × PUnit) =>
 Option.bind
 (loopC ((2 : Nat) ^ (100 : Nat))
 (fun
 (s :
 (PUnit × Int × PUnit × Int × Int × Int × PUnit) ×
 (List Int × Int × Int × PUnit) × List Int × PUnit)
 (k :
 (PUnit × Int × PUnit × Int × Int × Int × PUnit) ×
 (List Int × Int × Int × PUnit) × List Int × PUnit →
 Option
 ((PUnit × Int × PUnit × PUnit) ×
 (List Int × Int × Int × PUnit) × List Int × PUnit)) =>
 bif decide (s.fst.snd.snd.snd.snd.snd.fst < s.fst.snd.snd.snd.fst) then
 if
 (List.length s.snd.snd.fst + List.length [s.fst.snd.snd.snd.snd.fst]) * (1 : Nat) ≤
 (140737488355328 : Nat) then
 k
 (((), s.fst.snd.fst, (), s.fst.snd.snd.snd.fst, s.fst.snd.snd.snd.snd.fst,
 IntKind.wrap IntKind.i64 (s.fst.snd.snd.snd.snd.snd.fst + (1 : Int)), ()),
 (s.snd.fst.fst, s.snd.fst.snd.fst, s.snd.fst.snd.snd.fst, ()),
 s.snd.snd.fst ++ [s.fst.snd.snd.snd.snd.fst], ())
 else none
 else
 some
 (((), s.fst.snd.fst, (), ()),
 (s.snd.fst.fst, s.snd.fst.snd.fst, s.snd.fst.snd.snd.fst, ()), s.snd.snd.fst, ()))
 (((), s.fst.snd.fst, (), r.fst,
 IntKind.wrap IntKind.u8 (IntKind.wrap IntKind.i64 ((97 : Int) + r_1.fst)), (0 : Int),
 ()),
 (r_1.snd.fst.fst, r_1.snd.fst.snd.fst, r_1.snd.fst.snd.snd.fst, ()), s.snd.snd.fst, ()))
 fun (s : (PUnit × Int × PUnit × PUnit) × (List Int × Int × Int × PUnit) × List Int × PUnit) =>
 some
 (((), s.fst.snd.fst, (), ()), (s.snd.fst.fst, s.snd.fst.snd.fst, s.snd.fst.snd.snd.fst, ()),
 s.snd.snd.fst, ())
 else
 Option.bind
 (bif r.fst == (2 : Int) then
 Option.bind
 (bif decide ((↑(List.length s.snd.snd.fst) : Int) > (0 : Int)) then
 Option.bind
 (m_spec_l01Below (↑(List.length s.snd.snd.fst) : Int)
 (r.snd.fst.fst, r.snd.fst.snd.fst, r.snd.fst.snd.snd.fst, ()))
 fun (r : Int × (List Int × Int × Int × PUnit) × PUnit) =>
 Option.bind
 (m_spec_l01Below (20 : Int)
 (r.snd.fst.fst, r.snd.fst.snd.fst, r.snd.fst.snd.snd.fst, ()))
 fun (r_1 : Int × (List Int × Int × Int × PUnit) × PUnit) =>
 Option.bind
 (loopC ((2 : Nat) ^ (100 : Nat))
 (fun
 (s :
 (PUnit × Int × PUnit × Int × Int × Int × PUnit) ×
 (List Int × Int × Int × PUnit) × List Int × PUnit)
 (k :
 (PUnit × Int × PUnit × Int × Int × Int × PUnit) ×
 (List Int × Int × Int × PUnit) × List Int × PUnit →
 Option
 ((PUnit × Int × PUnit × PUnit) ×
 (List Int × Int × Int × PUnit) × List Int × PUnit)) =>
 Option.bind
 (bif decide (s.fst.snd.snd.snd.snd.snd.fst < s.fst.snd.snd.snd.snd.fst) then
 some
 (((), s.fst.snd.fst, (), s.fst.snd.snd.snd.fst, s.fst.snd.snd.snd.snd.fst,
 s.fst.snd.snd.snd.snd.snd.fst,
 decide
 (IntKind.wrap IntKind.i64
 (s.fst.snd.snd.snd.fst + s.fst.snd.snd.snd.snd.snd.fst) <
 (↑(List.length s.snd.snd.fst) : Int)),
 ()),
 (s.snd.fst.fst, s.snd.fst.snd.fst, s.snd.fst.snd.snd.fst, ()),
 s.snd.snd.fst, ())
 else
 some
 (((), s.fst.snd.fst, (), s.fst.snd.snd.snd.fst, s.fst.snd.snd.snd.snd.fst,
 s.fst.snd.snd.snd.snd.snd.fst, false, ()),
 (s.snd.fst.fst, s.snd.fst.snd.fst, s.snd.fst.snd.snd.fst, ()),
 s.snd.snd.fst, ()))
 fun
 (s :
 (PUnit × Int × PUnit × Int × Int × Int × Bool × PUnit) ×
 (List Int × Int × Int × PUnit) × List Int × PUnit) =>
 bif s.fst.snd.snd.snd.snd.snd.snd.fst then
 if
 (0 : Int) ≤
 IntKind.wrap IntKind.i64
 (s.fst.snd.snd.snd.fst + s.fst.snd.snd.snd.snd.snd.fst) ∧
 IntKind.wrap IntKind.i64
 (s.fst.snd.snd.snd.fst + s.fst.snd.snd.snd.snd.snd.fst) <
 (↑(List.length s.snd.snd.fst) : Int) then
 if
 Int.toNat
 (IntKind.wrap IntKind.i64
 (s.fst.snd.snd.snd.fst + s.fst.snd.snd.snd.snd.snd.fst)) <
 List.length s.snd.snd.fst then
 if
 (List.length s.snd.snd.fst +
 List.length
 [List.getD s.snd.snd.fst
 (Int.toNat
 (IntKind.wrap IntKind.i64
 (s.fst.snd.snd.snd.fst +
 s.fst.snd.snd.snd.snd.snd.fst)))
 (Int.ofNat (nat_lit 0))]) *
 (1 : Nat) ≤
 (140737488355328 : Nat) then
 k
 (((), s.fst.snd.fst, (), s.fst.snd.snd.snd.fst,
 s.fst.snd.snd.snd.snd.fst,
 IntKind.wrap IntKind.i64
 (s.fst.snd.snd.snd.snd.snd.fst + (1 : Int)),
 ()),
 (s.snd.fst.fst, s.snd.fst.snd.fst, s.snd.fst.snd.snd.fst, ()),
 s.snd.snd.fst ++
 [List.getD s.snd.snd.fst
 (Int.toNat
 (IntKind.wrap IntKind.i64
 (s.fst.snd.snd.snd.fst + s.fst.snd.snd.snd.snd.snd.fst)))
 (Int.ofNat (nat_lit 0))],
 ())
 else none
 else none
 else none
 else
 some
 (((), s.fst.snd.fst, (), ()),
 (s.snd.fst.fst, s.snd.fst.snd.fst, s.snd.fst.snd.snd.fst, ()),
 s.snd.snd.fst, ()))
 (((), s.fst.snd.fst, (), r.fst, r_1.fst, (0 : Int), ()),
 (r_1.snd.fst.fst, r_1.snd.fst.snd.fst, r_1.snd.fst.snd.snd.fst, ()),
 s.snd.snd.fst, ()))
 fun
 (s :
 (PUnit × Int × PUnit × PUnit) ×
 (List Int × Int × Int × PUnit) × List Int × PUnit) =>
 some
 (((), s.fst.snd.fst, (), ()),
 (s.snd.fst.fst, s.snd.fst.snd.fst, s.snd.fst.snd.snd.fst, ()), s.snd.snd.fst, ())
 else
 some
 (((), s.fst.snd.fst, (), ()),
 (r.snd.fst.fst, r.snd.fst.snd.fst, r.snd.fst.snd.snd.fst, ()), s.snd.snd.fst, ()))
 fun (s : (PUnit × Int × PUnit × PUnit) × (List Int × Int × Int × PUnit) × List Int × PUnit) =>
 some
 (((), s.fst.snd.fst, (), ()), (s.snd.fst.fst, s.snd.fst.snd.fst, s.snd.fst.snd.snd.fst, ()),
 s.snd.snd.fst, ())
 else
 Option.bind
 (m_spec_l01Below (26 : Int) (r.snd.fst.fst, r.snd.fst.snd.fst, r.snd.fst.snd.snd.fst, ()))
 fun (r : Int × (List Int × Int × Int × PUnit) × PUnit) =>
 if
 (List.length s.snd.snd.fst +
 List.length
 [IntKind.wrap IntKind.u8 (IntKind.wrap IntKind.i64 ((97 : Int) + r.fst))]) *
 (1 : Nat) ≤
 (140737488355328 : Nat) then
 some
 (((), s.fst.snd.fst, (), ()),
 (r.snd.fst.fst, r.snd.fst.snd.fst, r.snd.fst.snd.snd.fst, ()),
 s.snd.snd.fst ++
 [IntKind.wrap IntKind.u8 (IntKind.wrap IntKind.i64 ((97 : Int) + r.fst))],
 ())
 else none)
 fun (s : (PUnit × Int × PUnit × PUnit) × (List Int × Int × Int × PUnit) × List Int × PUnit) =>
 some
 (((), s.fst.snd.fst, (), ()), (s.snd.fst.fst, s.snd.fst.snd.fst, s.snd.fst.snd.snd.fst, ()),
 s.snd.snd.fst, ()))
 fun (s : (PUnit × Int × PUnit × PUnit) × (List Int × Int × Int × PUnit) × List Int × PUnit) =>
 some
 (((), s.fst.snd.fst, (), ()), (s.snd.fst.fst, s.snd.fst.snd.fst, s.snd.fst.snd.snd.fst, ()),
 s.snd.snd.fst, ()))
 fun (s : (PUnit × Int × PUnit × PUnit) × (List Int × Int × Int × PUnit) × List Int × PUnit) =>
 k
 (((), s.fst.snd.fst, (), ()), (s.snd.fst.fst, s.snd.fst.snd.fst, s.snd.fst.snd.snd.fst, ()),
 s.snd.snd.fst, ())
 else
 some
 ((s.fst.snd.fst, (), ()), (s.snd.fst.fst, s.snd.fst.snd.fst, s.snd.fst.snd.snd.fst, ()), s.snd.snd.fst, ()))
 (((), a1, (), ()), (s0.fst, s0.snd.fst, s0.snd.snd.fst, ()), nilOf Int, ()))
 fun (s : (Int × PUnit × PUnit) × (List Int × Int × Int × PUnit) × List Int × PUnit) =>
 if (0 : Int) ≤ (0 : Int) ∧ (0 : Int) ≤ s.fst.fst ∧ s.fst.fst ≤ (↑(List.length s.snd.snd.fst) : Int) then
 some
 (List.map (fun (n : Int) => UInt8.ofNat (Int.toNat n))
 (List.drop (Int.toNat (0 : Int)) (List.take (Int.toNat s.fst.fst) s.snd.snd.fst)),
 (s.snd.fst.fst, s.snd.fst.snd.fst, s.snd.fst.snd.snd.fst, ()), ())
 else none
-- spec.l10Node
def m_spec_l10Node (a1 : List UInt8) (s0 : (List Int × Int × Int × Unit)) : Option ((List UInt8 × (Int × (Int × (Int × (List UInt8 × (List UInt8 × Int)))))) × ((List Int × Int × Int × Unit) × Unit)) :=
 Option.bind (m_spec_l01PickInt [(0 : Int), (1 : Int), (1 : Int), (1 : Int), (2 : Int)] s0)
 fun (r : Int × (List Int × Int × Int × Unit) × Unit) =>
 Option.bind (m_spec_l01PickInt [(420 : Int), (493 : Int), (384 : Int), (511 : Int), (0 : Int)] r.snd.fst)
 fun (r_1 : Int × (List Int × Int × Int × Unit) × Unit) =>
 Option.bind (m_spec_l01Below (6 : Int) r_1.snd.fst) fun (r_2 : Int × (List Int × Int × Int × Unit) × Unit) =>
 Option.bind
 (bif r.fst == (1 : Int) then
 Option.bind (m_spec_l01Below (40 : Int) r_2.snd.fst)
 fun (r_3 : Int × (List Int × Int × Int × Unit) × Unit) =>
 Option.bind (m_spec_l01Text r_3.fst r_3.snd.fst)
 fun (r_4 : List UInt8 × (List Int × Int × Int × Unit) × Unit) =>
 some
 (((), (), ()), r_4.snd.fst,
 (nilOf UInt8, (0 : Int), (0 : Int), (0 : Int), nilOf UInt8, nilOf UInt8, (0 : Int), ()),
 (a1, r.fst, r_1.fst, IntKind.wrap IntKind.i64 ((100 : Int) + r_2.fst), r_4.fst, nilOf UInt8,
 (0 : Int), ()),
 ())
 else
 Option.bind
 (bif r.fst == (2 : Int) then
 Option.bind
 (m_spec_l01Pick
 [[(97 : UInt8)], [(46 : UInt8), (46 : UInt8), (47 : UInt8), (120 : UInt8)],
 [(100 : UInt8), (111 : UInt8), (99 : UInt8), (115 : UInt8), (47 : UInt8), (121 : UInt8),
 (46 : UInt8), (116 : UInt8), (120 : UInt8), (116 : UInt8)],
 [(47 : UInt8), (101 : UInt8), (116 : UInt8), (99 : UInt8)]]
 r_2.snd.fst)
 fun (r_3 : List UInt8 × (List Int × Int × Int × Unit) × Unit) =>
 some
 (((), (), ()), r_3.snd.fst,
 (nilOf UInt8, (0 : Int), (0 : Int), (0 : Int), nilOf UInt8, nilOf UInt8, (0 : Int), ()),
 (a1, r.fst, (0 : Int), IntKind.wrap IntKind.i64 ((100 : Int) + r_2.fst), nilOf UInt8, r_3.fst,
 (0 : Int), ()),
 ())
 else
 some
 (((), (), ()), r_2.snd.fst,
 (nilOf UInt8, (0 : Int), (0 : Int), (0 : Int), nilOf UInt8, nilOf UInt8, (0 : Int), ()),
 (a1, r.fst, r_1.fst, IntKind.wrap IntKind.i64 ((100 : Int) + r_2.fst), nilOf UInt8, nilOf UInt8,
 (0 : Int), ()),
 ()))
 fun
 (s :
 (Unit × Unit × Unit) ×
 (List Int × Int × Int × Unit) ×
 (List UInt8 × Int × Int × Int × List UInt8 × List UInt8 × Int × Unit) ×
 (List UInt8 × Int × Int × Int × List UInt8 × List UInt8 × Int × Unit) × Unit) =>
 some (((), (), ()), s.snd))
 fun
 (s :
 (Unit × Unit × Unit) ×
 (List Int × Int × Int × Unit) ×
 (List UInt8 × Int × Int × Int × List UInt8 × List UInt8 × Int × Unit) ×
 (List UInt8 × Int × Int × Int × List UInt8 × List UInt8 × Int × Unit) × Unit) =>
 some
 ((s.snd.snd.snd.fst.fst, s.snd.snd.snd.fst.snd.fst, s.snd.snd.snd.fst.snd.snd.fst,
 s.snd.snd.snd.fst.snd.snd.snd.fst, s.snd.snd.snd.fst.snd.snd.snd.snd.fst,
 s.snd.snd.snd.fst.snd.snd.snd.snd.snd.fst, s.snd.snd.snd.fst.snd.snd.snd.snd.snd.snd.fst),
 s.snd.fst, ())
-- spec.l10Put
def m_spec_l10Put (a0 : List (List UInt8 × (Int × (Int × (Int × (List UInt8 × (List UInt8 × Int))))))) (a1 : (List UInt8 × (Int × (Int × (Int × (List UInt8 × (List UInt8 × Int))))))) : Option (Unit × (List ((List UInt8 × (Int × (Int × (Int × (List UInt8 × (List UInt8 × Int))))))) × Unit)) :=
 Option.bind
 (loopC
 (List.length a0 + Int.toNat (0 : Int) + List.length a1.fst + Int.toNat a1.snd.fst + Int.toNat a1.snd.snd.fst +
 Int.toNat a1.snd.snd.snd.fst +
 List.length a1.snd.snd.snd.snd.fst +
 List.length a1.snd.snd.snd.snd.snd.fst +
 Int.toNat a1.snd.snd.snd.snd.snd.snd +
 List.length (nilOf (List UInt8 × Int × Int × Int × List UInt8 × List UInt8 × Int)) +
 (300 : Nat))
 (fun
 (s :
 (List (List UInt8 × Int × Int × Int × List UInt8 × List UInt8 × Int) × Unit × Unit × Bool × Int × Unit) ×
 (List UInt8 × Int × Int × Int × List UInt8 × List UInt8 × Int × Unit) ×
 List (List UInt8 × Int × Int × Int × List UInt8 × List UInt8 × Int) × Unit)
 (k :
 (List (List UInt8 × Int × Int × Int × List UInt8 × List UInt8 × Int) × Unit × Unit × Bool × Int × Unit) ×
 (List UInt8 × Int × Int × Int × List UInt8 × List UInt8 × Int × Unit) ×
 List (List UInt8 × Int × Int × Int × List UInt8 × List UInt8 × Int) × Unit →
 Option
 ((Unit × Unit × Bool × Unit) ×
 (List UInt8 × Int × Int × Int × List UInt8 × List UInt8 × Int × Unit) ×
 List (List UInt8 × Int × Int × Int × List UInt8 × List UInt8 × Int) × Unit)) =>
 bif decide (s.fst.snd.snd.snd.snd.fst < (↑(List.length s.fst.fst) : Int)) then
 Option.bind
 (bif !s.fst.snd.snd.snd.fst then
 if
 (0 : Int) ≤ s.fst.snd.snd.snd.snd.fst ∧
 s.fst.snd.snd.snd.snd.fst < (↑(List.length s.fst.fst) : Int) then
 some
 ((s.fst.fst, (), (), s.fst.snd.snd.snd.fst, s.fst.snd.snd.snd.snd.fst,
 !Op.bytesLess
 (List.getD s.fst.fst (Int.toNat s.fst.snd.snd.snd.snd.fst)
 (nilOf UInt8, Int.ofNat (nat_lit 0), Int.ofNat (nat_lit 0), Int.ofNat (nat_lit 0),
 nilOf UInt8, nilOf UInt8, Int.ofNat (nat_lit 0))).fst
 s.snd.fst.fst,
 ()),
 s.snd)
 else none
 else some ((s.fst.fst, (), (), s.fst.snd.snd.snd.fst, s.fst.snd.snd.snd.snd.fst, false, ()), s.snd))
 fun
 (s :
 (List (List UInt8 × Int × Int × Int × List UInt8 × List UInt8 × Int) ×
 Unit × Unit × Bool × Int × Bool × Unit) ×
 (List UInt8 × Int × Int × Int × List UInt8 × List UInt8 × Int × Unit) ×
 List (List UInt8 × Int × Int × Int × List UInt8 × List UInt8 × Int) × Unit) =>
 Option.bind
 (bif s.fst.snd.snd.snd.snd.snd.fst then
 if
 (List.length s.snd.snd.fst +
 List.length
 [(s.snd.fst.fst, s.snd.fst.snd.fst, s.snd.fst.snd.snd.fst, s.snd.fst.snd.snd.snd.fst,
 s.snd.fst.snd.snd.snd.snd.fst, s.snd.fst.snd.snd.snd.snd.snd.fst,
 s.snd.fst.snd.snd.snd.snd.snd.snd.fst)]) *
 (80 : Nat) ≤
 (140737488355328 : Nat) then
 some
 ((s.fst.fst, (), (), true, s.fst.snd.snd.snd.snd.fst, ()), s.snd.fst,
 s.snd.snd.fst ++
 [(s.snd.fst.fst, s.snd.fst.snd.fst, s.snd.fst.snd.snd.fst, s.snd.fst.snd.snd.snd.fst,
 s.snd.fst.snd.snd.snd.snd.fst, s.snd.fst.snd.snd.snd.snd.snd.fst,
 s.snd.fst.snd.snd.snd.snd.snd.snd.fst)],
 ())
 else none
 else some ((s.fst.fst, (), (), s.fst.snd.snd.snd.fst, s.fst.snd.snd.snd.snd.fst, ()), s.snd))
 fun
 (s :
 (List (List UInt8 × Int × Int × Int × List UInt8 × List UInt8 × Int) ×
 Unit × Unit × Bool × Int × Unit) ×
 (List UInt8 × Int × Int × Int × List UInt8 × List UInt8 × Int × Unit) ×
 List (List UInt8 × Int × Int × Int × List UInt8 × List UInt8 × Int) × Unit) =>
 if
 (0 : Int) ≤ s.fst.snd.snd.snd.snd.fst ∧
 s.fst.snd.snd.snd.snd.fst < (↑(List.length s.fst.fst) : Int) then
 Option.bind
 (bif
 !(List.getD s.fst.fst (Int.toNat s.fst.snd.snd.snd.snd.fst)
 (nilOf UInt8, Int.ofNat (nat_lit 0), Int.ofNat (nat_lit 0), Int.ofNat (nat_lit 0),
 nilOf UInt8, nilOf UInt8, Int.ofNat (nat_lit 0))).fst ==
 s.snd.fst.fst then
 if
 (0 : Int) ≤ s.fst.snd.snd.snd.snd.fst ∧
 s.fst.snd.snd.snd.snd.fst < (↑(List.length s.fst.fst) : Int) then
 if
 (List.length s.snd.snd.fst +
 List.length
 [List.getD s.fst.fst (Int.toNat s.fst.snd.snd.snd.snd.fst)
 (nilOf UInt8, Int.ofNat (nat_lit 0), Int.ofNat (nat_lit 0), Int.ofNat (nat_lit 0),
 nilOf UInt8, nilOf UInt8, Int.ofNat (nat_lit 0))]) *
 (80 : Nat) ≤
 (140737488355328 : Nat) then
 some
 ((s.fst.fst, (), (), s.fst.snd.snd.snd), s.snd.fst,
 s.snd.snd.fst ++
 [List.getD s.fst.fst (Int.toNat s.fst.snd.snd.snd.snd.fst)
 (nilOf UInt8, Int.ofNat (nat_lit 0), Int.ofNat (nat_lit 0), Int.ofNat (nat_lit 0),
 nilOf UInt8, nilOf UInt8, Int.ofNat (nat_lit 0))],
 ())
 else none
 else none
 else some ((s.fst.fst, (), (), s.fst.snd.snd.snd), s.snd))
 fun
 (s :
 (List (List UInt8 × Int × Int × Int × List UInt8 × List UInt8 × Int) ×
 Unit × Unit × Bool × Int × Unit) ×
 (List UInt8 × Int × Int × Int × List UInt8 × List UInt8 × Int × Unit) ×
 List (List UInt8 × Int × Int × Int × List UInt8 × List UInt8 × Int) × Unit) =>
 k
 ((s.fst.fst, (), (), s.fst.snd.snd.snd.fst,
 IntKind.wrap IntKind.i64 (s.fst.snd.snd.snd.snd.fst + (1 : Int)), ()),
 s.snd)
 else none
 else some (((), (), s.fst.snd.snd.snd.fst, ()), s.snd))
 ((a0, (), (), false, (0 : Int), ()),
 (a1.fst, a1.snd.fst, a1.snd.snd.fst, a1.snd.snd.snd.fst, a1.snd.snd.snd.snd.fst, a1.snd.snd.snd.snd.snd.fst,
 a1.snd.snd.snd.snd.snd.snd, ()),
 nilOf (List UInt8 × Int × Int × Int × List UInt8 × List UInt8 × Int), ()))
 fun
 (s :
 (Unit × Unit × Bool × Unit) ×
 (List UInt8 × Int × Int × Int × List UInt8 × List UInt8 × Int × Unit) ×
 List (List UInt8 × Int × Int × Int × List UInt8 × List UInt8 × Int) × Unit) =>
 Option.bind
 (bif !s.fst.snd.snd.fst then
 if
 (List.length s.snd.snd.fst +
 List.length
 [(s.snd.fst.fst, s.snd.fst.snd.fst, s.snd.fst.snd.snd.fst, s.snd.fst.snd.snd.snd.fst,
 s.snd.fst.snd.snd.snd.snd.fst, s.snd.fst.snd.snd.snd.snd.snd.fst,
 s.snd.fst.snd.snd.snd.snd.snd.snd.fst)]) *
 (80 : Nat) ≤
 (140737488355328 : Nat) then
 some
 (((), ()),
 s.snd.snd.fst ++
 [(s.snd.fst.fst, s.snd.fst.snd.fst, s.snd.fst.snd.snd.fst, s.snd.fst.snd.snd.snd.fst,
 s.snd.fst.snd.snd.snd.snd.fst, s.snd.fst.snd.snd.snd.snd.snd.fst,
 s.snd.fst.snd.snd.snd.snd.snd.snd.fst)],
 ())
 else none
 else some (((), ()), s.snd.snd))
 fun (s : (Unit × Unit) × List (List UInt8 × Int × Int × Int × List UInt8 × List UInt8 × Int) × Unit) =>
 some ((), s.snd)
-- spec.l10Lone
def m_spec_l10Lone (a0 : List (List UInt8 × (Int × (Int × (Int × (List UInt8 × (List UInt8 × Int))))))) : Option (Unit × (List ((List UInt8 × (Int × (Int × (Int × (List UInt8 × (List UInt8 × Int))))))) × Unit)) :=
 if
 (List.length (nilOf (List UInt8 × Int × Int × Int × List UInt8 × List UInt8 × Int)) + List.length a0) *
 (80 : Nat) ≤
 (140737488355328 : Nat) then
 Option.bind
 (loopC
 (List.length a0 + Int.toNat (0 : Int) +
 List.length (nilOf (List UInt8 × Int × Int × Int × List UInt8 × List UInt8 × Int) ++ a0) +
 (300 : Nat))
 (fun
 (s :
 (List (List UInt8 × Int × Int × Int × List UInt8 × List UInt8 × Int) × Unit × Int × Unit) ×
 List (List UInt8 × Int × Int × Int × List UInt8 × List UInt8 × Int) × Unit)
 (k :
 (List (List UInt8 × Int × Int × Int × List UInt8 × List UInt8 × Int) × Unit × Int × Unit) ×
 List (List UInt8 × Int × Int × Int × List UInt8 × List UInt8 × Int) × Unit →
 Option
 ((Unit × Unit) × List (List UInt8 × Int × Int × Int × List UInt8 × List UInt8 × Int) × Unit)) =>
 bif decide (s.fst.snd.snd.fst < (↑(List.length s.fst.fst) : Int)) then
 Option.bind
 (loopC
 (List.length s.fst.fst + Int.toNat s.fst.snd.snd.fst + Int.toNat (0 : Int) + Int.toNat (0 : Int) +
 List.length s.snd.fst +
 (300 : Nat))
 (fun
 (s :
 (List (List UInt8 × Int × Int × Int × List UInt8 × List UInt8 × Int) ×
 Unit × Int × Int × Int × Unit) ×
 List (List UInt8 × Int × Int × Int × List UInt8 × List UInt8 × Int) × Unit)
 (k :
 (List (List UInt8 × Int × Int × Int × List UInt8 × List UInt8 × Int) ×
 Unit × Int × Int × Int × Unit) ×
 List (List UInt8 × Int × Int × Int × List UInt8 × List UInt8 × Int) × Unit →
 Option
 ((List (List UInt8 × Int × Int × Int × List UInt8 × List UInt8 × Int) ×
 Unit × Int × Int × Unit) ×
 List (List UInt8 × Int × Int × Int × List UInt8 × List UInt8 × Int) × Unit)) =>
 bif decide (s.fst.snd.snd.snd.snd.fst < (↑(List.length s.fst.fst) : Int)) then
 if
 (0 : Int) ≤ s.fst.snd.snd.snd.snd.fst ∧
 s.fst.snd.snd.snd.snd.fst < (↑(List.length s.fst.fst) : Int) then
 if (0 : Int) ≤ s.fst.snd.snd.fst ∧ s.fst.snd.snd.fst < (↑(List.length s.fst.fst) : Int) then
 Option.bind
 (bif
 (List.getD s.fst.fst (Int.toNat s.fst.snd.snd.snd.snd.fst)
 (nilOf UInt8, Int.ofNat (nat_lit 0), Int.ofNat (nat_lit 0),
 Int.ofNat (nat_lit 0), nilOf UInt8, nilOf UInt8,
 Int.ofNat (nat_lit 0))).snd.snd.snd.snd.snd.snd ==
 (List.getD s.fst.fst (Int.toNat s.fst.snd.snd.fst)
 (nilOf UInt8, Int.ofNat (nat_lit 0), Int.ofNat (nat_lit 0),
 Int.ofNat (nat_lit 0), nilOf UInt8, nilOf UInt8,
 Int.ofNat (nat_lit 0))).snd.snd.snd.snd.snd.snd then
 some
 ((s.fst.fst, (), s.fst.snd.snd.fst,
 IntKind.wrap IntKind.i64 (s.fst.snd.snd.snd.fst + (1 : Int)), s.fst.snd.snd.snd.snd),
 s.snd)
 else some ((s.fst.fst, (), s.fst.snd.snd), s.snd))
 fun
 (s :
 (List (List UInt8 × Int × Int × Int × List UInt8 × List UInt8 × Int) ×
 Unit × Int × Int × Int × Unit) ×
 List (List UInt8 × Int × Int × Int × List UInt8 × List UInt8 × Int) × Unit) =>
 k
 ((s.fst.fst, (), s.fst.snd.snd.fst, s.fst.snd.snd.snd.fst,
 IntKind.wrap IntKind.i64 (s.fst.snd.snd.snd.snd.fst + (1 : Int)), ()),
 s.snd)
 else none
 else none
 else some ((s.fst.fst, (), s.fst.snd.snd.fst, s.fst.snd.snd.snd.fst, ()), s.snd))
 ((s.fst.fst, (), s.fst.snd.snd.fst, (0 : Int), (0 : Int), ()), s.snd))
 fun
 (s :
 (List (List UInt8 × Int × Int × Int × List UInt8 × List UInt8 × Int) × Unit × Int × Int × Unit) ×
 List (List UInt8 × Int × Int × Int × List UInt8 × List UInt8 × Int) × Unit) =>
 Option.bind
 (bif decide (s.fst.snd.snd.snd.fst < (2 : Int)) then
 if (0 : Int) ≤ s.fst.snd.snd.fst ∧ s.fst.snd.snd.fst < (↑(List.length s.snd.fst) : Int) then
 if Int.toNat s.fst.snd.snd.fst < List.length s.snd.fst then
 some
 ((s.fst.fst, (), s.fst.snd.snd.fst, ()),
 List.set s.snd.fst (Int.toNat s.fst.snd.snd.fst)
 ((List.getD s.snd.fst (Int.toNat s.fst.snd.snd.fst)
 (nilOf UInt8, Int.ofNat (nat_lit 0), Int.ofNat (nat_lit 0), Int.ofNat (nat_lit 0),
 nilOf UInt8, nilOf UInt8, Int.ofNat (nat_lit 0))).fst,
 (List.getD s.snd.fst (Int.toNat s.fst.snd.snd.fst)
 (nilOf UInt8, Int.ofNat (nat_lit 0), Int.ofNat (nat_lit 0), Int.ofNat (nat_lit 0),
 nilOf UInt8, nilOf UInt8, Int.ofNat (nat_lit 0))).snd.fst,
 (List.getD s.snd.fst (Int.toNat s.fst.snd.snd.fst)
 (nilOf UInt8, Int.ofNat (nat_lit 0), Int.ofNat (nat_lit 0), Int.ofNat (nat_lit 0),
 nilOf UInt8, nilOf UInt8, Int.ofNat (nat_lit 0))).snd.snd.fst,
 (List.getD s.snd.fst (Int.toNat s.fst.snd.snd.fst)
 (nilOf UInt8, Int.ofNat (nat_lit 0), Int.ofNat (nat_lit 0),
 Int.ofNat (nat_lit 0), nilOf UInt8, nilOf UInt8,
 Int.ofNat (nat_lit 0))).snd.snd.snd.fst,
 (List.getD s.snd.fst (Int.toNat s.fst.snd.snd.fst)
 (nilOf UInt8, Int.ofNat (nat_lit 0), Int.ofNat (nat_lit 0),
 Int.ofNat (nat_lit 0), nilOf UInt8, nilOf UInt8,
 Int.ofNat (nat_lit 0))).snd.snd.snd.snd.fst,
 (List.getD s.snd.fst (Int.toNat s.fst.snd.snd.fst)
 (nilOf UInt8, Int.ofNat (nat_lit 0), Int.ofNat (nat_lit 0),
 Int.ofNat (nat_lit 0), nilOf UInt8, nilOf UInt8,
 Int.ofNat (nat_lit 0))).snd.snd.snd.snd.snd.fst,
 (0 : Int)),
 ())
 else none
 else none
 else some ((s.fst.fst, (), s.fst.snd.snd.fst, ()), s.snd))
 fun
 (s :
 (List (List UInt8 × Int × Int × Int × List UInt8 × List UInt8 × Int) × Unit × Int × Unit) ×
 List (List UInt8 × Int × Int × Int × List UInt8 × List UInt8 × Int) × Unit) =>
 k ((s.fst.fst, (), IntKind.wrap IntKind.i64 (s.fst.snd.snd.fst + (1 : Int)), ()), s.snd)
 else some (((), ()), s.snd))
 ((a0, (), (0 : Int), ()), nilOf (List UInt8 × Int × Int × Int × List UInt8 × List UInt8 × Int) ++ a0, ()))
 fun (s : (Unit × Unit) × List (List UInt8 × Int × Int × Int × List UInt8 × List UInt8 × Int) × Unit) =>
 some ((), s.snd)
 else none
-- spec.l10Tree
def m_spec_l10Tree (a1 : Int) (s0 : (List Int × Int × Int × Unit)) : Option (Unit × ((List Int × Int × Int × Unit) × List ((List UInt8 × (Int × (Int × (Int × (List UInt8 × (List UInt8 × Int))))))) × Unit)) :=
 Option.bind
 (loopC
 (Int.toNat a1 + Int.toNat (0 : Int) + List.length s0.fst + Int.toNat s0.snd.fst + Int.toNat s0.snd.snd.fst +
 List.length (nilOf (List UInt8 × Int × Int × Int × List UInt8 × List UInt8 × Int)) +
 (300 : Nat))
 (fun
 (s :
 (Unit × Int × Unit × Int × Unit) ×
 (List Int × Int × Int × Unit) ×
 List (List UInt8 × Int × Int × Int × List UInt8 × List UInt8 × Int) × Unit)
 (k :
 (Unit × Int × Unit × Int × Unit) ×
 (List Int × Int × Int × Unit) ×
 List (List UInt8 × Int × Int × Int × List UInt8 × List UInt8 × Int) × Unit →
 Option
 ((Unit × Unit × Unit) ×
 (List Int × Int × Int × Unit) ×
 List (List UInt8 × Int × Int × Int × List UInt8 × List UInt8 × Int) × Unit)) =>
 bif decide (s.fst.snd.snd.snd.fst < s.fst.snd.fst) then
 Option.bind
 (Option.bind
 (bif decide ((↑(List.length s.snd.snd.fst) : Int) > (0 : Int)) then
 Option.bind (m_spec_l01Once (3 : Int) s.snd.fst)
 fun (r : Bool × (List Int × Int × Int × Unit) × Unit) =>
 some (((), s.fst.snd.fst, (), s.fst.snd.snd.snd.fst, nilOf UInt8, !r.fst, ()), r.snd.fst, s.snd.snd)
 else some (((), s.fst.snd.fst, (), s.fst.snd.snd.snd.fst, nilOf UInt8, false, ()), s.snd))
 fun
 (s :
 (Unit × Int × Unit × Int × List UInt8 × Bool × Unit) ×
 (List Int × Int × Int × Unit) ×
 List (List UInt8 × Int × Int × Int × List UInt8 × List UInt8 × Int) × Unit) =>
 Option.bind
 (bif s.fst.snd.snd.snd.snd.snd.fst then
 Option.bind (m_spec_l01Below (↑(List.length s.snd.snd.fst) : Int) s.snd.fst)
 fun (r : Int × (List Int × Int × Int × Unit) × Unit) =>
 if (0 : Int) ≤ r.fst ∧ r.fst < (↑(List.length s.snd.snd.fst) : Int) then
 if Int.toNat r.fst < List.length s.snd.snd.fst then
 Option.bind
 (bif
 (List.getD s.snd.snd.fst (Int.toNat r.fst)
 (nilOf UInt8, Int.ofNat (nat_lit 0), Int.ofNat (nat_lit 0), Int.ofNat (nat_lit 0),
 nilOf UInt8, nilOf UInt8, Int.ofNat (nat_lit 0))).snd.fst ==
 (0 : Int) then
 if (0 : Int) ≤ r.fst ∧ r.fst < (↑(List.length s.snd.snd.fst) : Int) then
 if Int.toNat r.fst < List.length s.snd.snd.fst then
 some
 (((), s.fst.snd.fst, (), s.fst.snd.snd.snd.fst,
 (List.getD s.snd.snd.fst (Int.toNat r.fst)
 (nilOf UInt8, Int.ofNat (nat_lit 0), Int.ofNat (nat_lit 0),
 Int.ofNat (nat_lit 0), nilOf UInt8, nilOf UInt8,
 Int.ofNat (nat_lit 0))).fst,
 ()),
 r.snd.fst, s.snd.snd)
 else none
 else none
 else
 some
 (((), s.fst.snd.fst, (), s.fst.snd.snd.snd.fst, s.fst.snd.snd.snd.snd.fst, ()), r.snd.fst,
 s.snd.snd))
 fun
 (s :
 (Unit × Int × Unit × Int × List UInt8 × Unit) ×
 (List Int × Int × Int × Unit) ×
 List (List UInt8 × Int × Int × Int × List UInt8 × List UInt8 × Int) × Unit) =>
 some (((), s.fst.snd.fst, (), s.fst.snd.snd.snd), s.snd)
 else none
 else none
 else some (((), s.fst.snd.fst, (), s.fst.snd.snd.snd.fst, s.fst.snd.snd.snd.snd.fst, ()), s.snd))
 fun
 (s :
 (Unit × Int × Unit × Int × List UInt8 × Unit) ×
 (List Int × Int × Int × Unit) ×
 List (List UInt8 × Int × Int × Int × List UInt8 × List UInt8 × Int) × Unit) =>
 Option.bind (m_spec_l02Name s.snd.fst) fun (r : List UInt8 × (List Int × Int × Int × Unit) × Unit) =>
 Option.bind (m_spec_JoinPath s.fst.snd.snd.snd.snd.fst r.fst) fun (r_1 : List UInt8 × Unit) =>
 Option.bind
 (bif r_1.fst == nilOf UInt8 then
 some (((), s.fst.snd.fst, (), s.fst.snd.snd.snd.fst, r_1.fst, true, ()), r.snd.fst, s.snd.snd)
 else
 Option.bind (m_spec_l10At s.snd.snd.fst r_1.fst) fun (r_2 : Int × Unit) =>
 some
 (((), s.fst.snd.fst, (), s.fst.snd.snd.snd.fst, r_1.fst, decide (r_2.fst ≥ (0 : Int)), ()),
 r.snd.fst, s.snd.snd))
 fun
 (s :
 (Unit × Int × Unit × Int × List UInt8 × Bool × Unit) ×
 (List Int × Int × Int × Unit) ×
 List (List UInt8 × Int × Int × Int × List UInt8 × List UInt8 × Int) × Unit) =>
 bif s.fst.snd.snd.snd.snd.snd.fst then
 some (((), s.fst.snd.fst, (), s.fst.snd.snd.snd.fst, ()), s.snd)
 else
 Option.bind (m_spec_l10Node s.fst.snd.snd.snd.snd.fst s.snd.fst)
 fun
 (r :
 (List UInt8 × Int × Int × Int × List UInt8 × List UInt8 × Int) ×
 (List Int × Int × Int × Unit) × Unit) =>
 Option.bind (m_spec_l10Put s.snd.snd.fst r.fst)
 fun
 (r_2 :
 Unit × List (List UInt8 × Int × Int × Int × List UInt8 × List UInt8 × Int) × Unit) =>
 some (((), s.fst.snd.fst, (), s.fst.snd.snd.snd.fst, ()), r.snd.fst, r_2.snd))
 fun
 (s :
 (Unit × Int × Unit × Int × Unit) ×
 (List Int × Int × Int × Unit) ×
 List (List UInt8 × Int × Int × Int × List UInt8 × List UInt8 × Int) × Unit) =>
 k (((), s.fst.snd.fst, (), IntKind.wrap IntKind.i64 (s.fst.snd.snd.snd.fst + (1 : Int)), ()), s.snd)
 else some (((), (), ()), s.snd))
 (((), a1, (), (0 : Int), ()), s0, nilOf (List UInt8 × Int × Int × Int × List UInt8 × List UInt8 × Int), ()))
 fun
 (s :
 (Unit × Unit × Unit) ×
 (List Int × Int × Int × Unit) ×
 List (List UInt8 × Int × Int × Int × List UInt8 × List UInt8 × Int) × Unit) =>
 Option.bind (m_spec_l01Once (3 : Int) s.snd.fst) fun (r : Bool × (List Int × Int × Int × Unit) × Unit) =>
 Option.bind
 (bif r.fst then
 Option.bind
 (loopC
 (Int.toNat (-1 : Int) + Int.toNat (0 : Int) + List.length r.snd.fst.fst + Int.toNat r.snd.fst.snd.fst +
 Int.toNat r.snd.fst.snd.snd.fst +
 List.length s.snd.snd.fst +
 (300 : Nat))
 (fun
 (s :
 (Unit × Unit × Int × Int × Unit) ×
 (List Int × Int × Int × Unit) ×
 List (List UInt8 × Int × Int × Int × List UInt8 × List UInt8 × Int) × Unit)
 (k :
 (Unit × Unit × Int × Int × Unit) ×
 (List Int × Int × Int × Unit) ×
 List (List UInt8 × Int × Int × Int × List UInt8 × List UInt8 × Int) × Unit →
 Option
 ((Unit × Unit) ×
 (List Int × Int × Int × Unit) ×
 List (List UInt8 × Int × Int × Int × List UInt8 × List UInt8 × Int) × Unit)) =>
 bif decide (s.fst.snd.snd.snd.fst < (↑(List.length s.snd.snd.fst) : Int)) then
 if
 (0 : Int) ≤ s.fst.snd.snd.snd.fst ∧
 s.fst.snd.snd.snd.fst < (↑(List.length s.snd.snd.fst) : Int) then
 if Int.toNat s.fst.snd.snd.snd.fst < List.length s.snd.snd.fst then
 Option.bind
 (bif
 (List.getD s.snd.snd.fst (Int.toNat s.fst.snd.snd.snd.fst)
 (nilOf UInt8, Int.ofNat (nat_lit 0), Int.ofNat (nat_lit 0), Int.ofNat (nat_lit 0),
 nilOf UInt8, nilOf UInt8, Int.ofNat (nat_lit 0))).snd.fst ==
 (1 : Int) then
 Option.bind
 (bif decide (s.fst.snd.snd.fst < (0 : Int)) then
 some (((), (), s.fst.snd.snd.snd.fst, s.fst.snd.snd.snd), s.snd)
 else
 Option.bind (m_spec_l01Once (2 : Int) s.snd.fst)
 fun (r : Bool × (List Int × Int × Int × Unit) × Unit) =>
 Option.bind
 (bif r.fst then
 if
 (0 : Int) ≤ s.fst.snd.snd.snd.fst ∧
 s.fst.snd.snd.snd.fst < (↑(List.length s.snd.snd.fst) : Int) then
 if Int.toNat s.fst.snd.snd.snd.fst < List.length s.snd.snd.fst then
 if
 (0 : Int) ≤ s.fst.snd.snd.fst ∧
 s.fst.snd.snd.fst < (↑(List.length s.snd.snd.fst) : Int) then
 if Int.toNat s.fst.snd.snd.fst < List.length s.snd.snd.fst then
 if
 (0 : Int) ≤ s.fst.snd.snd.fst ∧
 s.fst.snd.snd.fst <
 (↑(List.length
 (List.set s.snd.snd.fst (Int.toNat s.fst.snd.snd.fst)
 ((List.getD s.snd.snd.fst (Int.toNat s.fst.snd.snd.fst)
 (nilOf UInt8, Int.ofNat (nat_lit 0),
 Int.ofNat (nat_lit 0), Int.ofNat (nat_lit 0),
 nilOf UInt8, nilOf UInt8,
 Int.ofNat (nat_lit 0))).fst,
 (List.getD s.snd.snd.fst (Int.toNat s.fst.snd.snd.fst)
 (nilOf UInt8, Int.ofNat (nat_lit 0),
 Int.ofNat (nat_lit 0), Int.ofNat (nat_lit 0),
 nilOf UInt8, nilOf UInt8,
 Int.ofNat (nat_lit 0))).snd.fst,
 (List.getD s.snd.snd.fst (Int.toNat s.fst.snd.snd.fst)
 (nilOf UInt8, Int.ofNat (nat_lit 0),
 Int.ofNat (nat_lit 0), Int.ofNat (nat_lit 0),
 nilOf UInt8, nilOf UInt8,
 Int.ofNat (nat_lit 0))).snd.snd.fst,
 (List.getD s.snd.snd.fst (Int.toNat s.fst.snd.snd.fst)
 (nilOf UInt8, Int.ofNat (nat_lit 0),
 Int.ofNat (nat_lit 0), Int.ofNat (nat_lit 0),
 nilOf UInt8, nilOf UInt8,
 Int.ofNat (nat_lit 0))).snd.snd.snd.fst,
 (List.getD s.snd.snd.fst (Int.toNat s.fst.snd.snd.fst)
 (nilOf UInt8, Int.ofNat (nat_lit 0),
 Int.ofNat (nat_lit 0),
 Int.ofNat (nat_lit 0), nilOf UInt8,
 nilOf UInt8,
 Int.ofNat (nat_lit 0))).snd.snd.snd.snd.fst,
 (List.getD s.snd.snd.fst (Int.toNat s.fst.snd.snd.fst)
 (nilOf UInt8, Int.ofNat (nat_lit 0),
 Int.ofNat (nat_lit 0),
 Int.ofNat (nat_lit 0), nilOf UInt8,
 nilOf UInt8,
 Int.ofNat
 (nat_lit 0))).snd.snd.snd.snd.snd.fst,
 (3 : Int)))) :
 Int) then
 if
 Int.toNat s.fst.snd.snd.fst <
 List.length
 (List.set s.snd.snd.fst (Int.toNat s.fst.snd.snd.fst)
 ((List.getD s.snd.snd.fst (Int.toNat s.fst.snd.snd.fst)
 (nilOf UInt8, Int.ofNat (nat_lit 0),
 Int.ofNat (nat_lit 0), Int.ofNat (nat_lit 0),
 nilOf UInt8, nilOf UInt8, Int.ofNat (nat_lit 0))).fst,
 (List.getD s.snd.snd.fst (Int.toNat s.fst.snd.snd.fst)
 (nilOf UInt8, Int.ofNat (nat_lit 0),
 Int.ofNat (nat_lit 0), Int.ofNat (nat_lit 0),
 nilOf UInt8, nilOf UInt8,
 Int.ofNat (nat_lit 0))).snd.fst,
 (List.getD s.snd.snd.fst (Int.toNat s.fst.snd.snd.fst)
 (nilOf UInt8, Int.ofNat (nat_lit 0),
 Int.ofNat (nat_lit 0), Int.ofNat (nat_lit 0),
 nilOf UInt8, nilOf UInt8,
 Int.ofNat (nat_lit 0))).snd.snd.fst,
 (List.getD s.snd.snd.fst (Int.toNat s.fst.snd.snd.fst)
 (nilOf UInt8, Int.ofNat (nat_lit 0),
 Int.ofNat (nat_lit 0), Int.ofNat (nat_lit 0),
 nilOf UInt8, nilOf UInt8,
 Int.ofNat (nat_lit 0))).snd.snd.snd.fst,
 (List.getD s.snd.snd.fst (Int.toNat s.fst.snd.snd.fst)
 (nilOf UInt8, Int.ofNat (nat_lit 0),
 Int.ofNat (nat_lit 0), Int.ofNat (nat_lit 0),
 nilOf UInt8, nilOf UInt8,
 Int.ofNat (nat_lit 0))).snd.snd.snd.snd.fst,
 (List.getD s.snd.snd.fst (Int.toNat s.fst.snd.snd.fst)
 (nilOf UInt8, Int.ofNat (nat_lit 0),
 Int.ofNat (nat_lit 0), Int.ofNat (nat_lit 0),
 nilOf UInt8, nilOf UInt8,
 Int.ofNat
 (nat_lit 0))).snd.snd.snd.snd.snd.fst,
 (3 : Int))) then
 if
 (0 : Int) ≤ s.fst.snd.snd.snd.fst ∧
 s.fst.snd.snd.snd.fst <
 (↑(List.length
 (List.set s.snd.snd.fst (Int.toNat s.fst.snd.snd.fst)
 ((List.getD s.snd.snd.fst (Int.toNat s.fst.snd.snd.fst)
 (nilOf UInt8, Int.ofNat (nat_lit 0),
 Int.ofNat (nat_lit 0), Int.ofNat (nat_lit 0),
 nilOf UInt8, nilOf UInt8,
 Int.ofNat (nat_lit 0))).fst,
 (List.getD s.snd.snd.fst (Int.toNat s.fst.snd.snd.fst)
 (nilOf UInt8, Int.ofNat (nat_lit 0),
 Int.ofNat (nat_lit 0), Int.ofNat (nat_lit 0),
 nilOf UInt8, nilOf UInt8,
 Int.ofNat (nat_lit 0))).snd.fst,
 (List.getD s.snd.snd.fst (Int.toNat s.fst.snd.snd.fst)
 (nilOf UInt8, Int.ofNat (nat_lit 0),
 Int.ofNat (nat_lit 0),
 Int.ofNat (nat_lit 0), nilOf UInt8,
 nilOf UInt8,
 Int.ofNat (nat_lit 0))).snd.snd.fst,
 (List.getD s.snd.snd.fst (Int.toNat s.fst.snd.snd.fst)
 (nilOf UInt8, Int.ofNat (nat_lit 0),
 Int.ofNat (nat_lit 0),
 Int.ofNat (nat_lit 0), nilOf UInt8,
 nilOf UInt8,
 Int.ofNat (nat_lit 0))).snd.snd.snd.fst,
 (List.getD s.snd.snd.fst (Int.toNat s.fst.snd.snd.fst)
 (nilOf UInt8, Int.ofNat (nat_lit 0),
 Int.ofNat (nat_lit 0),
 Int.ofNat (nat_lit 0), nilOf UInt8,
 nilOf UInt8,
 Int.ofNat
 (nat_lit 0))).snd.snd.snd.snd.fst,
 (List.getD s.snd.snd.fst (Int.toNat s.fst.snd.snd.fst)
 (nilOf UInt8, Int.ofNat (nat_lit 0),
 Int.ofNat (nat_lit 0),
 Int.ofNat (nat_lit 0), nilOf UInt8,
 nilOf UInt8,
 Int.ofNat
 (nat_lit
 0))).snd.snd.snd.snd.snd.fst,
 (3 : Int)))) :
 Int) then
 if
 Int.toNat s.fst.snd.snd.snd.fst <
 List.length
 (List.set s.snd.snd.fst (Int.toNat s.fst.snd.snd.fst)
 ((List.getD s.snd.snd.fst (Int.toNat s.fst.snd.snd.fst)
 (nilOf UInt8, Int.ofNat (nat_lit 0),
 Int.ofNat (nat_lit 0), Int.ofNat (nat_lit 0),
 nilOf UInt8, nilOf UInt8,
 Int.ofNat (nat_lit 0))).fst,
 (List.getD s.snd.snd.fst (Int.toNat s.fst.snd.snd.fst)
 (nilOf UInt8, Int.ofNat (nat_lit 0),
 Int.ofNat (nat_lit 0), Int.ofNat (nat_lit 0),
 nilOf UInt8, nilOf UInt8,
 Int.ofNat (nat_lit 0))).snd.fst,
 (List.getD s.snd.snd.fst (Int.toNat s.fst.snd.snd.fst)
 (nilOf UInt8, Int.ofNat (nat_lit 0),
 Int.ofNat (nat_lit 0), Int.ofNat (nat_lit 0),
 nilOf UInt8, nilOf UInt8,
 Int.ofNat (nat_lit 0))).snd.snd.fst,
 (List.getD s.snd.snd.fst (Int.toNat s.fst.snd.snd.fst)
 (nilOf UInt8, Int.ofNat (nat_lit 0),
 Int.ofNat (nat_lit 0), Int.ofNat (nat_lit 0),
 nilOf UInt8, nilOf UInt8,
 Int.ofNat (nat_lit 0))).snd.snd.snd.fst,
 (List.getD s.snd.snd.fst (Int.toNat s.fst.snd.snd.fst)
 (nilOf UInt8, Int.ofNat (nat_lit 0),
 Int.ofNat (nat_lit 0),
 Int.ofNat (nat_lit 0), nilOf UInt8,
 nilOf UInt8,
 Int.ofNat (nat_lit 0))).snd.snd.snd.snd.fst,
 (List.getD s.snd.snd.fst (Int.toNat s.fst.snd.snd.fst)
 (nilOf UInt8, Int.ofNat (nat_lit 0),
 Int.ofNat (nat_lit 0),
 Int.ofNat (nat_lit 0), nilOf UInt8,
 nilOf UInt8,
 Int.ofNat
 (nat_lit 0))).snd.snd.snd.snd.snd.fst,
 (3 : Int))) then
 if
 (0 : Int) ≤ s.fst.snd.snd.snd.fst ∧
 s.fst.snd.snd.snd.fst <
 (↑(List.length
 (List.set
 (List.set s.snd.snd.fst
 (Int.toNat s.fst.snd.snd.fst)
 ((List.getD s.snd.snd.fst
 (Int.toNat s.fst.snd.snd.fst)
 (nilOf UInt8, Int.ofNat (nat_lit 0),
 Int.ofNat (nat_lit 0),
 Int.ofNat (nat_lit 0), nilOf UInt8,
 nilOf UInt8, Int.ofNat (nat_lit 0))).fst,
 (List.getD s.snd.snd.fst
 (Int.toNat s.fst.snd.snd.fst)
 (nilOf UInt8, Int.ofNat (nat_lit 0),
 Int.ofNat (nat_lit 0),
 Int.ofNat (nat_lit 0), nilOf UInt8,
 nilOf UInt8,
 Int.ofNat (nat_lit 0))).snd.fst,
 (List.getD s.snd.snd.fst
 (Int.toNat s.fst.snd.snd.fst)
 (nilOf UInt8, Int.ofNat (nat_lit 0),
 Int.ofNat (nat_lit 0),
 Int.ofNat (nat_lit 0), nilOf UInt8,
 nilOf UInt8,
 Int.ofNat (nat_lit 0))).snd.snd.fst,
 (List.getD s.snd.snd.fst
 (Int.toNat s.fst.snd.snd.fst)
 (nilOf UInt8, Int.ofNat (nat_lit 0),
 Int.ofNat (nat_lit 0),
 Int.ofNat (nat_lit 0), nilOf UInt8,
 nilOf UInt8,
 Int.ofNat
 (nat_lit 0))).snd.snd.snd.fst,
 (List.getD s.snd.snd.fst
 (Int.toNat s.fst.snd.snd.fst)
 (nilOf UInt8, Int.ofNat (nat_lit 0),
 Int.ofNat (nat_lit 0),
 Int.ofNat (nat_lit 0),
 nilOf UInt8, nilOf UInt8,
 Int.ofNat
 (nat_lit
 0))).snd.snd.snd.snd.fst,
 (List.getD s.snd.snd.fst
 (Int.toNat s.fst.snd.snd.fst)
 (nilOf UInt8,
 Int.ofNat (nat_lit 0),
 Int.ofNat (nat_lit 0),
 Int.ofNat (nat_lit 0),
 nilOf UInt8, nilOf UInt8,
 Int.ofNat
 (nat_lit
 0))).snd.snd.snd.snd.snd.fst,
 (3 : Int)))
 (Int.toNat s.fst.snd.snd.snd.fst)
 (List.getD
 (List.set s.snd.snd.fst
 (Int.toNat s.fst.snd.snd.fst)
 ((List.getD s.snd.snd.fst
 (Int.toNat s.fst.snd.snd.fst)
 (nilOf UInt8, Int.ofNat (nat_lit 0),
 Int.ofNat (nat_lit 0),
 Int.ofNat (nat_lit 0), nilOf UInt8,
 nilOf UInt8,
 Int.ofNat (nat_lit 0))).fst,
 (List.getD s.snd.snd.fst
 (Int.toNat s.fst.snd.snd.fst)
 (nilOf UInt8, Int.ofNat (nat_lit 0),
 Int.ofNat (nat_lit 0),
 Int.ofNat (nat_lit 0), nilOf UInt8,
 nilOf UInt8,
 Int.ofNat (nat_lit 0))).snd.fst,
 (List.getD s.snd.snd.fst
 (Int.toNat s.fst.snd.snd.fst)
 (nilOf UInt8, Int.ofNat (nat_lit 0),
 Int.ofNat (nat_lit 0),
 Int.ofNat (nat_lit 0), nilOf UInt8,
 nilOf UInt8,
 Int.ofNat (nat_lit 0))).snd.snd.fst,
 (List.getD s.snd.snd.fst
 (Int.toNat s.fst.snd.snd.fst)
 (nilOf UInt8, Int.ofNat (nat_lit 0),
 Int.ofNat (nat_lit 0),
 Int.ofNat (nat_lit 0),
 nilOf UInt8, nilOf UInt8,
 Int.ofNat
 (nat_lit 0))).snd.snd.snd.fst,
 (List.getD s.snd.snd.fst
 (Int.toNat s.fst.snd.snd.fst)
 (nilOf UInt8,
 Int.ofNat (nat_lit 0),
 Int.ofNat (nat_lit 0),
 Int.ofNat (nat_lit 0),
 nilOf UInt8, nilOf UInt8,
 Int.ofNat
 (nat_lit
 0))).snd.snd.snd.snd.fst,
 (List.getD s.snd.snd.fst
 (Int.toNat s.fst.snd.snd.fst)
 (nilOf UInt8,
 Int.ofNat (nat_lit 0),
 Int.ofNat (nat_lit 0),
 Int.ofNat (nat_lit 0),
 nilOf UInt8, nilOf UInt8,
 Int.ofNat
 (nat_lit
 0))).snd.snd.snd.snd.snd.fst,
 (3 : Int)))
 (Int.toNat s.fst.snd.snd.fst)
 (nilOf UInt8, Int.ofNat (nat_lit 0),
 Int.ofNat (nat_lit 0), Int.ofNat (nat_lit 0),
 nilOf UInt8, nilOf UInt8,
 Int.ofNat (nat_lit 0))))) :
 Int) then
 if
 Int.toNat s.fst.snd.snd.snd.fst <
 List.length
 (List.set
 (List.set s.snd.snd.fst (Int.toNat s.fst.snd.snd.fst)
 ((List.getD s.snd.snd.fst
 (Int.toNat s.fst.snd.snd.fst)
 (nilOf UInt8, Int.ofNat (nat_lit 0),
 Int.ofNat (nat_lit 0), Int.ofNat (nat_lit 0),
 nilOf UInt8, nilOf UInt8,
 Int.ofNat (nat_lit 0))).fst,
 (List.getD s.snd.snd.fst
 (Int.toNat s.fst.snd.snd.fst)
 (nilOf UInt8, Int.ofNat (nat_lit 0),
 Int.ofNat (nat_lit 0),
 Int.ofNat (nat_lit 0), nilOf UInt8,
 nilOf UInt8,
 Int.ofNat (nat_lit 0))).snd.fst,
 (List.getD s.snd.snd.fst
 (Int.toNat s.fst.snd.snd.fst)
 (nilOf UInt8, Int.ofNat (nat_lit 0),
 Int.ofNat (nat_lit 0),
 Int.ofNat (nat_lit 0), nilOf UInt8,
 nilOf UInt8,
 Int.ofNat (nat_lit 0))).snd.snd.fst,
 (List.getD s.snd.snd.fst
 (Int.toNat s.fst.snd.snd.fst)
 (nilOf UInt8, Int.ofNat (nat_lit 0),
 Int.ofNat (nat_lit 0),
 Int.ofNat (nat_lit 0), nilOf UInt8,
 nilOf UInt8,
 Int.ofNat (nat_lit 0))).snd.snd.snd.fst,
 (List.getD s.snd.snd.fst
 (Int.toNat s.fst.snd.snd.fst)
 (nilOf UInt8, Int.ofNat (nat_lit 0),
 Int.ofNat (nat_lit 0),
 Int.ofNat (nat_lit 0), nilOf UInt8,
 nilOf UInt8,
 Int.ofNat
 (nat_lit 0))).snd.snd.snd.snd.fst,
 (List.getD s.snd.snd.fst
 (Int.toNat s.fst.snd.snd.fst)
 (nilOf UInt8, Int.ofNat (nat_lit 0),
 Int.ofNat (nat_lit 0),
 Int.ofNat (nat_lit 0), nilOf UInt8,
 nilOf UInt8,
 Int.ofNat
 (nat_lit
 0))).snd.snd.snd.snd.snd.fst,
 (3 : Int)))
 (Int.toNat s.fst.snd.snd.snd.fst)
 (List.getD
 (List.set s.snd.snd.fst (Int.toNat s.fst.snd.snd.fst)
 ((List.getD s.snd.snd.fst
 (Int.toNat s.fst.snd.snd.fst)
 (nilOf UInt8, Int.ofNat (nat_lit 0),
 Int.ofNat (nat_lit 0),
 Int.ofNat (nat_lit 0), nilOf UInt8,
 nilOf UInt8, Int.ofNat (nat_lit 0))).fst,
 (List.getD s.snd.snd.fst
 (Int.toNat s.fst.snd.snd.fst)
 (nilOf UInt8, Int.ofNat (nat_lit 0),
 Int.ofNat (nat_lit 0),
 Int.ofNat (nat_lit 0), nilOf UInt8,
 nilOf UInt8,
 Int.ofNat (nat_lit 0))).snd.fst,
 (List.getD s.snd.snd.fst
 (Int.toNat s.fst.snd.snd.fst)
 (nilOf UInt8, Int.ofNat (nat_lit 0),
 Int.ofNat (nat_lit 0),
 Int.ofNat (nat_lit 0), nilOf UInt8,
 nilOf UInt8,
 Int.ofNat (nat_lit 0))).snd.snd.fst,
 (List.getD s.snd.snd.fst
 (Int.toNat s.fst.snd.snd.fst)
 (nilOf UInt8, Int.ofNat (nat_lit 0),
 Int.ofNat (nat_lit 0),
 Int.ofNat (nat_lit 0), nilOf UInt8,
 nilOf UInt8,
 Int.ofNat
 (nat_lit 0))).snd.snd.snd.fst,
 (List.getD s.snd.snd.fst
 (Int.toNat s.fst.snd.snd.fst)
 (nilOf UInt8, Int.ofNat (nat_lit 0),
 Int.ofNat (nat_lit 0),
 Int.ofNat (nat_lit 0), nilOf UInt8,
 nilOf UInt8,
 Int.ofNat
 (nat_lit 0))).snd.snd.snd.snd.fst,
 (List.getD s.snd.snd.fst
 (Int.toNat s.fst.snd.snd.fst)
 (nilOf UInt8, Int.ofNat (nat_lit 0),
 Int.ofNat (nat_lit 0),
 Int.ofNat (nat_lit 0),
 nilOf UInt8, nilOf UInt8,
 Int.ofNat
 (nat_lit
 0))).snd.snd.snd.snd.snd.fst,
 (3 : Int)))
 (Int.toNat s.fst.snd.snd.fst)
 (nilOf UInt8, Int.ofNat (nat_lit 0),
 Int.ofNat (nat_lit 0), Int.ofNat (nat_lit 0),
 nilOf UInt8, nilOf UInt8,
 Int.ofNat (nat_lit 0)))) then
 some
 (((), (), s.fst.snd.snd), r.snd.fst,
 List.set
 (List.set
 (List.set s.snd.snd.fst (Int.toNat s.fst.snd.snd.fst)
 ((List.getD s.snd.snd.fst
 (Int.toNat s.fst.snd.snd.fst)
 (nilOf UInt8, Int.ofNat (nat_lit 0),
 Int.ofNat (nat_lit 0), Int.ofNat (nat_lit 0),
 nilOf UInt8, nilOf UInt8,
 Int.ofNat (nat_lit 0))).fst,
 (List.getD s.snd.snd.fst
 (Int.toNat s.fst.snd.snd.fst)
 (nilOf UInt8, Int.ofNat (nat_lit 0),
 Int.ofNat (nat_lit 0),
 Int.ofNat (nat_lit 0), nilOf UInt8,
 nilOf UInt8,
 Int.ofNat (nat_lit 0))).snd.fst,
 (List.getD s.snd.snd.fst
 (Int.toNat s.fst.snd.snd.fst)
 (nilOf UInt8, Int.ofNat (nat_lit 0),
 Int.ofNat (nat_lit 0),
 Int.ofNat (nat_lit 0), nilOf UInt8,
 nilOf UInt8,
 Int.ofNat (nat_lit 0))).snd.snd.fst,
 (List.getD s.snd.snd.fst
 (Int.toNat s.fst.snd.snd.fst)
 (nilOf UInt8, Int.ofNat (nat_lit 0),
 Int.ofNat (nat_lit 0),
 Int.ofNat (nat_lit 0), nilOf UInt8,
 nilOf UInt8,
 Int.ofNat (nat_lit 0))).snd.snd.snd.fst,
 (List.getD s.snd.snd.fst
 (Int.toNat s.fst.snd.snd.fst)
 (nilOf UInt8, Int.ofNat (nat_lit 0),
 Int.ofNat (nat_lit 0),
 Int.ofNat (nat_lit 0), nilOf UInt8,
 nilOf UInt8,
 Int.ofNat
 (nat_lit 0))).snd.snd.snd.snd.fst,
 (List.getD s.snd.snd.fst
 (Int.toNat s.fst.snd.snd.fst)
 (nilOf UInt8, Int.ofNat (nat_lit 0),
 Int.ofNat (nat_lit 0),
 Int.ofNat (nat_lit 0), nilOf UInt8,
 nilOf UInt8,
 Int.ofNat
 (nat_lit
 0))).snd.snd.snd.snd.snd.fst,
 (3 : Int)))
 (Int.toNat s.fst.snd.snd.snd.fst)
 (List.getD
 (List.set s.snd.snd.fst (Int.toNat s.fst.snd.snd.fst)
 ((List.getD s.snd.snd.fst
 (Int.toNat s.fst.snd.snd.fst)
 (nilOf UInt8, Int.ofNat (nat_lit 0),
 Int.ofNat (nat_lit 0),
 Int.ofNat (nat_lit 0), nilOf UInt8,
 nilOf UInt8, Int.ofNat (nat_lit 0))).fst,
 (List.getD s.snd.snd.fst
 (Int.toNat s.fst.snd.snd.fst)
 (nilOf UInt8, Int.ofNat (nat_lit 0),
 Int.ofNat (nat_lit 0),
 Int.ofNat (nat_lit 0), nilOf UInt8,
 nilOf UInt8,
 Int.ofNat (nat_lit 0))).snd.fst,
 (List.getD s.snd.snd.fst
 (Int.toNat s.fst.snd.snd.fst)
 (nilOf UInt8, Int.ofNat (nat_lit 0),
 Int.ofNat (nat_lit 0),
 Int.ofNat (nat_lit 0), nilOf UInt8,
 nilOf UInt8,
 Int.ofNat (nat_lit 0))).snd.snd.fst,
 (List.getD s.snd.snd.fst
 (Int.toNat s.fst.snd.snd.fst)
 (nilOf UInt8, Int.ofNat (nat_lit 0),
 Int.ofNat (nat_lit 0),
 Int.ofNat (nat_lit 0), nilOf UInt8,
 nilOf UInt8,
 Int.ofNat
 (nat_lit 0))).snd.snd.snd.fst,
 (List.getD s.snd.snd.fst
 (Int.toNat s.fst.snd.snd.fst)
 (nilOf UInt8, Int.ofNat (nat_lit 0),
 Int.ofNat (nat_lit 0),
 Int.ofNat (nat_lit 0), nilOf UInt8,
 nilOf UInt8,
 Int.ofNat
 (nat_lit 0))).snd.snd.snd.snd.fst,
 (List.getD s.snd.snd.fst
 (Int.toNat s.fst.snd.snd.fst)
 (nilOf UInt8, Int.ofNat (nat_lit 0),
 Int.ofNat (nat_lit 0),
 Int.ofNat (nat_lit 0),
 nilOf UInt8, nilOf UInt8,
 Int.ofNat
 (nat_lit
 0))).snd.snd.snd.snd.snd.fst,
 (3 : Int)))
 (Int.toNat s.fst.snd.snd.fst)
 (nilOf UInt8, Int.ofNat (nat_lit 0),
 Int.ofNat (nat_lit 0), Int.ofNat (nat_lit 0),
 nilOf UInt8, nilOf UInt8, Int.ofNat (nat_lit 0))))
 (Int.toNat s.fst.snd.snd.snd.fst)
 ((List.getD s.snd.snd.fst
 (Int.toNat s.fst.snd.snd.snd.fst)
 (nilOf UInt8, Int.ofNat (nat_lit 0),
 Int.ofNat (nat_lit 0), Int.ofNat (nat_lit 0),
 nilOf UInt8, nilOf UInt8,
 Int.ofNat (nat_lit 0))).fst,
 (List.getD
 (List.set
 (List.set s.snd.snd.fst
 (Int.toNat s.fst.snd.snd.fst)
 ((List.getD s.snd.snd.fst
 (Int.toNat s.fst.snd.snd.fst)
 (nilOf UInt8, Int.ofNat (nat_lit 0),
 Int.ofNat (nat_lit 0),
 Int.ofNat (nat_lit 0), nilOf UInt8,
 nilOf UInt8,
 Int.ofNat (nat_lit 0))).fst,
 (List.getD s.snd.snd.fst
 (Int.toNat s.fst.snd.snd.fst)
 (nilOf UInt8, Int.ofNat (nat_lit 0),
 Int.ofNat (nat_lit 0),
 Int.ofNat (nat_lit 0), nilOf UInt8,
 nilOf UInt8,
 Int.ofNat (nat_lit 0))).snd.fst,
 (List.getD s.snd.snd.fst
 (Int.toNat s.fst.snd.snd.fst)
 (nilOf UInt8, Int.ofNat (nat_lit 0),
 Int.ofNat (nat_lit 0),
 Int.ofNat (nat_lit 0), nilOf UInt8,
 nilOf UInt8,
 Int.ofNat (nat_lit 0))).snd.snd.fst,
 (List.getD s.snd.snd.fst
 (Int.toNat s.fst.snd.snd.fst)
 (nilOf UInt8, Int.ofNat (nat_lit 0),
 Int.ofNat (nat_lit 0),
 Int.ofNat (nat_lit 0),
 nilOf UInt8, nilOf UInt8,
 Int.ofNat
 (nat_lit 0))).snd.snd.snd.fst,
 (List.getD s.snd.snd.fst
 (Int.toNat s.fst.snd.snd.fst)
 (nilOf UInt8,
 Int.ofNat (nat_lit 0),
 Int.ofNat (nat_lit 0),
 Int.ofNat (nat_lit 0),
 nilOf UInt8, nilOf UInt8,
 Int.ofNat
 (nat_lit
 0))).snd.snd.snd.snd.fst,
 (List.getD s.snd.snd.fst
 (Int.toNat s.fst.snd.snd.fst)
 (nilOf UInt8,
 Int.ofNat (nat_lit 0),
 Int.ofNat (nat_lit 0),
 Int.ofNat (nat_lit 0),
 nilOf UInt8, nilOf UInt8,
 Int.ofNat
 (nat_lit
 0))).snd.snd.snd.snd.snd.fst,
 (3 : Int)))
 (Int.toNat s.fst.snd.snd.snd.fst)
 (List.getD
 (List.set s.snd.snd.fst
 (Int.toNat s.fst.snd.snd.fst)
 ((List.getD s.snd.snd.fst
 (Int.toNat s.fst.snd.snd.fst)
 (nilOf UInt8, Int.ofNat (nat_lit 0),
 Int.ofNat (nat_lit 0),
 Int.ofNat (nat_lit 0), nilOf UInt8,
 nilOf UInt8,
 Int.ofNat (nat_lit 0))).fst,
 (List.getD s.snd.snd.fst
 (Int.toNat s.fst.snd.snd.fst)
 (nilOf UInt8, Int.ofNat (nat_lit 0),
 Int.ofNat (nat_lit 0),
 Int.ofNat (nat_lit 0), nilOf UInt8,
 nilOf UInt8,
 Int.ofNat (nat_lit 0))).snd.fst,
 (List.getD s.snd.snd.fst
 (Int.toNat s.fst.snd.snd.fst)
 (nilOf UInt8, Int.ofNat (nat_lit 0),
 Int.ofNat (nat_lit 0),
 Int.ofNat (nat_lit 0),
 nilOf UInt8, nilOf UInt8,
 Int.ofNat
 (nat_lit 0))).snd.snd.fst,
 (List.getD s.snd.snd.fst
 (Int.toNat s.fst.snd.snd.fst)
 (nilOf UInt8,
 Int.ofNat (nat_lit 0),
 Int.ofNat (nat_lit 0),
 Int.ofNat (nat_lit 0),
 nilOf UInt8, nilOf UInt8,
 Int.ofNat
 (nat_lit 0))).snd.snd.snd.fst,
 (List.getD s.snd.snd.fst
 (Int.toNat s.fst.snd.snd.fst)
 (nilOf UInt8,
 Int.ofNat (nat_lit 0),
 Int.ofNat (nat_lit 0),
 Int.ofNat (nat_lit 0),
 nilOf UInt8, nilOf UInt8,
 Int.ofNat
 (nat_lit
 0))).snd.snd.snd.snd.fst,
 (List.getD s.snd.snd.fst
 (Int.toNat s.fst.snd.snd.fst)
 (nilOf UInt8,
 Int.ofNat (nat_lit 0),
 Int.ofNat (nat_lit 0),
 Int.ofNat (nat_lit 0),
 nilOf UInt8, nilOf UInt8,
 Int.ofNat
 (nat_lit
 0))).snd.snd.snd.snd.snd.fst,
 (3 : Int)))
 (Int.toNat s.fst.snd.snd.fst)
 (nilOf UInt8, Int.ofNat (nat_lit 0),
 Int.ofNat (nat_lit 0), Int.ofNat (nat_lit 0),
 nilOf UInt8, nilOf UInt8,
 Int.ofNat (nat_lit 0))))
 (Int.toNat s.fst.snd.snd.snd.fst)
 (nilOf UInt8, Int.ofNat (nat_lit 0),
 Int.ofNat (nat_lit 0), Int.ofNat (nat_lit 0),
 nilOf UInt8, nilOf UInt8,
 Int.ofNat (nat_lit 0))).snd),
 ())
 else none
 else none
 else none
 else none
 else none
 else none
 else none
 else none
 else none
 else none
 else some (((), (), s.fst.snd.snd), r.snd.fst, s.snd.snd))
 fun
 (s :
 (Unit × Unit × Int × Int × Unit) ×
 (List Int × Int × Int × Unit) ×
 List (List UInt8 × Int × Int × Int × List UInt8 × List UInt8 × Int) ×
 Unit) =>
 some (((), (), s.fst.snd.snd), s.snd))
 fun
 (s :
 (Unit × Unit × Int × Int × Unit) ×
 (List Int × Int × Int × Unit) ×
 List (List UInt8 × Int × Int × Int × List UInt8 × List UInt8 × Int) × Unit) =>
 some (((), (), s.fst.snd.snd), s.snd)
 else some (((), (), s.fst.snd.snd), s.snd))
 fun
 (s :
 (Unit × Unit × Int × Int × Unit) ×
 (List Int × Int × Int × Unit) ×
 List (List UInt8 × Int × Int × Int × List UInt8 × List UInt8 × Int) × Unit) =>
 k
 (((), (), s.fst.snd.snd.fst, IntKind.wrap IntKind.i64 (s.fst.snd.snd.snd.fst + (1 : Int)),
 ()),
 s.snd)
 else none
 else none
 else some (((), ()), s.snd))
 (((), (), (-1 : Int), (0 : Int), ()), r.snd.fst, s.snd.snd))
 fun
 (s :
 (Unit × Unit) ×
 (List Int × Int × Int × Unit) ×
 List (List UInt8 × Int × Int × Int × List UInt8 × List UInt8 × Int) × Unit) =>
 some (((), ()), s.snd)
 else some (((), ()), r.snd.fst, s.snd.snd))
 fun
 (s :
 (Unit × Unit) ×
 (List Int × Int × Int × Unit) ×
 List (List UInt8 × Int × Int × Int × List UInt8 × List UInt8 × Int) × Unit) =>
 Option.bind (m_spec_l10Lone s.snd.snd.fst)
 fun (r : Unit × List (List UInt8 × Int × Int × Int × List UInt8 × List UInt8 × Int) × Unit) =>
 some ((), s.snd.fst, r.snd)
-- spec.l02Path
def m_spec_l02Path (s0 : (List Int × Int × Int × Unit)) : Option (List UInt8 × ((List Int × Int × Int × Unit) × Unit)) :=
 Option.bind (m_spec_l02Name (s0.fst, s0.snd.fst, s0.snd.snd.fst, ()))
 fun (r : List UInt8 × (List Int × Int × Int × PUnit) × PUnit) =>
 Option.bind (m_spec_l01Below (4 : Int) (r.snd.fst.fst, r.snd.fst.snd.fst, r.snd.fst.snd.snd.fst, ()))
 fun (r_1 : Int × (List Int × Int × Int × PUnit) × PUnit) =>
 Option.bind
 (loopC
 (List.length r.fst + Int.toNat r_1.fst + Int.toNat (0 : Int) + List.length r_1.snd.fst.fst +
 Int.toNat r_1.snd.fst.snd.fst +
 Int.toNat r_1.snd.fst.snd.snd.fst +
 (300 : Nat))
 (fun (s : (PUnit × List UInt8 × Int × Int × PUnit) × (List Int × Int × Int × PUnit) × PUnit)
 (k :
 (PUnit × List UInt8 × Int × Int × PUnit) × (List Int × Int × Int × PUnit) × PUnit →
 Option ((List UInt8 × PUnit) × (List Int × Int × Int × PUnit) × PUnit)) =>
 bif decide (s.fst.snd.snd.snd.fst < s.fst.snd.snd.fst) then
 if List.length s.fst.snd.fst + List.length [(47 : UInt8)] < (2 : Nat) ^ (63 : Nat) then
 Option.bind (m_spec_l02Name (s.snd.fst.fst, s.snd.fst.snd.fst, s.snd.fst.snd.snd.fst, ()))
 fun (r : List UInt8 × (List Int × Int × Int × PUnit) × PUnit) =>
 if List.length (s.fst.snd.fst ++ [(47 : UInt8)]) + List.length r.fst < (2 : Nat) ^ (63 : Nat) then
 k
 (((), s.fst.snd.fst ++ [(47 : UInt8)] ++ r.fst, s.fst.snd.snd.fst,
 IntKind.wrap IntKind.i64 (s.fst.snd.snd.snd.fst + (1 : Int)), ()),
 (r.snd.fst.fst, r.snd.fst.snd.fst, r.snd.fst.snd.snd.fst, ()), ())
 else none
 else none
 else some ((s.fst.snd.fst, ()), (s.snd.fst.fst, s.snd.fst.snd.fst, s.snd.fst.snd.snd.fst, ()), ()))
 (((), r.fst, r_1.fst, (0 : Int), ()), (r_1.snd.fst.fst, r_1.snd.fst.snd.fst, r_1.snd.fst.snd.snd.fst, ()),
 ()))
 fun (s : (List UInt8 × PUnit) × (List Int × Int × Int × PUnit) × PUnit) =>
 some (s.fst.fst, (s.snd.fst.fst, s.snd.fst.snd.fst, s.snd.fst.snd.snd.fst, ()), ())
-- spec.l02Any
def m_spec_l02Any (s0 : (List Int × Int × Int × Unit)) : Option (List UInt8 × ((List Int × Int × Int × Unit) × Unit)) :=
 Option.bind (m_spec_l02Path s0) fun (r : List UInt8 × (List Int × Int × Int × Unit) × Unit) =>
 Option.bind (m_spec_l01Below (14 : Int) r.snd.fst) fun (r_1 : Int × (List Int × Int × Int × Unit) × Unit) =>
 Option.bind
 (bif r_1.fst == (0 : Int) then
 Option.bind
 (m_spec_l01Pick
 [nilOf UInt8, [(47 : UInt8)], [(97 : UInt8), (47 : UInt8)], [(47 : UInt8), (97 : UInt8)],
 [(97 : UInt8), (47 : UInt8), (47 : UInt8), (98 : UInt8)], [(46 : UInt8)], [(46 : UInt8), (46 : UInt8)],
 [(97 : UInt8), (47 : UInt8), (46 : UInt8), (46 : UInt8)], [(97 : UInt8), (32 : UInt8), (98 : UInt8)],
 [(97 : UInt8), (98 : UInt8), (99 : UInt8), (100 : UInt8), (101 : UInt8), (102 : UInt8), (103 : UInt8),
 (104 : UInt8), (105 : UInt8), (106 : UInt8), (107 : UInt8), (108 : UInt8), (109 : UInt8),
 (110 : UInt8), (111 : UInt8), (112 : UInt8), (113 : UInt8), (114 : UInt8), (115 : UInt8),
 (116 : UInt8)],
 [(97 : UInt8), (98 : UInt8), (99 : UInt8), (100 : UInt8), (101 : UInt8), (102 : UInt8), (103 : UInt8),
 (104 : UInt8), (105 : UInt8), (106 : UInt8), (107 : UInt8), (108 : UInt8), (109 : UInt8),
 (110 : UInt8), (111 : UInt8), (112 : UInt8), (113 : UInt8), (114 : UInt8), (115 : UInt8),
 (116 : UInt8), (117 : UInt8)],
 [(97 : UInt8), (47 : UInt8), (98 : UInt8), (47 : UInt8), (99 : UInt8), (47 : UInt8), (100 : UInt8),
 (47 : UInt8), (101 : UInt8), (47 : UInt8), (102 : UInt8), (47 : UInt8), (103 : UInt8), (47 : UInt8),
 (104 : UInt8)],
 [(97 : UInt8), (47 : UInt8), (98 : UInt8), (47 : UInt8), (99 : UInt8), (47 : UInt8), (100 : UInt8),
 (47 : UInt8), (101 : UInt8), (47 : UInt8), (102 : UInt8), (47 : UInt8), (103 : UInt8), (47 : UInt8),
 (104 : UInt8), (47 : UInt8), (105 : UInt8)]]
 r_1.snd.fst)
 fun (r : List UInt8 × (List Int × Int × Int × Unit) × Unit) => some ((r.fst, ()), r.snd)
 else
 Option.bind
 (bif r_1.fst == (1 : Int) then
 if List.length r.fst + List.length [(47 : UInt8)] < (2 : Nat) ^ (63 : Nat) then
 some ((r.fst ++ [(47 : UInt8)], ()), r_1.snd)
 else none
 else some ((r.fst, ()), r_1.snd))
 fun (s : (List UInt8 × Unit) × (List Int × Int × Int × Unit) × Unit) => some s)
 fun (s : (List UInt8 × Unit) × (List Int × Int × Int × Unit) × Unit) => some (s.fst.fst, s.snd)
-- spec.l10Any
def m_spec_l10Any (a1 : List Int) (s0 : (List Int × Int × Int × Unit)) : Option (Unit × ((List Int × Int × Int × Unit) × List ((List UInt8 × (Int × (Int × (Int × (List UInt8 × (List UInt8 × Int))))))) × Unit)) :=
 Option.bind (m_spec_l01Size a1 (14 : Int)) fun (r : Int × Unit) =>
 Option.bind (m_spec_l01Below r.fst s0) fun (r : Int × (List Int × Int × Int × Unit) × Unit) =>
 Option.bind (m_spec_l10Tree r.fst r.snd.fst)
 fun
 (r :
 Unit ×
 (List Int × Int × Int × Unit) ×
 List (List UInt8 × Int × Int × Int × List UInt8 × List UInt8 × Int) × Unit) =>
 bif (↑(List.length r.snd.snd.fst) : Int) == (0 : Int) then some ((), r.snd)
 else
 Option.bind (m_spec_l01Below (↑(List.length r.snd.snd.fst) : Int) r.snd.fst)
 fun (r_1 : Int × (List Int × Int × Int × Unit) × Unit) =>
 Option.bind (m_spec_l01Below (20 : Int) r_1.snd.fst)
 fun (r_2 : Int × (List Int × Int × Int × Unit) × Unit) =>
 Option.bind
 (bif r_2.fst == (0 : Int) then
 Option.bind (m_spec_l02Any r_2.snd.fst)
 fun (r_3 : List UInt8 × (List Int × Int × Int × Unit) × Unit) =>
 if (0 : Int) ≤ r_1.fst ∧ r_1.fst < (↑(List.length r.snd.snd.fst) : Int) then
 if Int.toNat r_1.fst < List.length r.snd.snd.fst then
 some
 (((), ()), r_3.snd.fst,
 List.set r.snd.snd.fst (Int.toNat r_1.fst)
 (r_3.fst,
 (List.getD r.snd.snd.fst (Int.toNat r_1.fst)
 (nilOf UInt8, Int.ofNat (nat_lit 0), Int.ofNat (nat_lit 0), Int.ofNat (nat_lit 0),
 nilOf UInt8, nilOf UInt8, Int.ofNat (nat_lit 0))).snd),
 ())
 else none
 else none
 else
 Option.bind
 (bif r_2.fst == (1 : Int) then
 Option.bind
 (m_spec_l01PickInt [(-1 : Int), (0 : Int), (1 : Int), (2 : Int), (3 : Int)] r_2.snd.fst)
 fun (r_3 : Int × (List Int × Int × Int × Unit) × Unit) =>
 if (0 : Int) ≤ r_1.fst ∧ r_1.fst < (↑(List.length r.snd.snd.fst) : Int) then
 if Int.toNat r_1.fst < List.length r.snd.snd.fst then
 some
 (((), ()), r_3.snd.fst,
 List.set r.snd.snd.fst (Int.toNat r_1.fst)
 ((List.getD r.snd.snd.fst (Int.toNat r_1.fst)
 (nilOf UInt8, Int.ofNat (nat_lit 0), Int.ofNat (nat_lit 0),
 Int.ofNat (nat_lit 0), nilOf UInt8, nilOf UInt8, Int.ofNat (nat_lit 0))).fst,
 r_3.fst,
 (List.getD r.snd.snd.fst (Int.toNat r_1.fst)
 (nilOf UInt8, Int.ofNat (nat_lit 0), Int.ofNat (nat_lit 0),
 Int.ofNat (nat_lit 0), nilOf UInt8, nilOf UInt8,
 Int.ofNat (nat_lit 0))).snd.snd),
 ())
 else none
 else none
 else
 Option.bind
 (bif r_2.fst == (2 : Int) then
 Option.bind (m_spec_l01PickInt [(-1 : Int), (512 : Int)] r_2.snd.fst)
 fun (r_3 : Int × (List Int × Int × Int × Unit) × Unit) =>
 if (0 : Int) ≤ r_1.fst ∧ r_1.fst < (↑(List.length r.snd.snd.fst) : Int) then
 if Int.toNat r_1.fst < List.length r.snd.snd.fst then
 some
 (((), ()), r_3.snd.fst,
 List.set r.snd.snd.fst (Int.toNat r_1.fst)
 ((List.getD r.snd.snd.fst (Int.toNat r_1.fst)
 (nilOf UInt8, Int.ofNat (nat_lit 0), Int.ofNat (nat_lit 0),
 Int.ofNat (nat_lit 0), nilOf UInt8, nilOf UInt8,
 Int.ofNat (nat_lit 0))).fst,
 (List.getD r.snd.snd.fst (Int.toNat r_1.fst)
 (nilOf UInt8, Int.ofNat (nat_lit 0), Int.ofNat (nat_lit 0),
 Int.ofNat (nat_lit 0), nilOf UInt8, nilOf UInt8,
 Int.ofNat (nat_lit 0))).snd.fst,
 r_3.fst,
 (List.getD r.snd.snd.fst (Int.toNat r_1.fst)
 (nilOf UInt8, Int.ofNat (nat_lit 0), Int.ofNat (nat_lit 0),
 Int.ofNat (nat_lit 0), nilOf UInt8, nilOf UInt8,
 Int.ofNat (nat_lit 0))).snd.snd.snd),
 ())
 else none
 else none
 else
 Option.bind
 (bif r_2.fst == (3 : Int) then
 Option.bind
 (m_spec_l01PickInt [(-1 : Int), (1000000000 : Int), (1000000001 : Int)] r_2.snd.fst)
 fun (r_3 : Int × (List Int × Int × Int × Unit) × Unit) =>
 if (0 : Int) ≤ r_1.fst ∧ r_1.fst < (↑(List.length r.snd.snd.fst) : Int) then
 if Int.toNat r_1.fst < List.length r.snd.snd.fst then
 some
 (((), ()), r_3.snd.fst,
 List.set r.snd.snd.fst (Int.toNat r_1.fst)
 ((List.getD r.snd.snd.fst (Int.toNat r_1.fst)
 (nilOf UInt8, Int.ofNat (nat_lit 0), Int.ofNat (nat_lit 0),
 Int.ofNat (nat_lit 0), nilOf UInt8, nilOf UInt8,
 Int.ofNat (nat_lit 0))).fst,
 (List.getD r.snd.snd.fst (Int.toNat r_1.fst)
 (nilOf UInt8, Int.ofNat (nat_lit 0), Int.ofNat (nat_lit 0),
 Int.ofNat (nat_lit 0), nilOf UInt8, nilOf UInt8,
 Int.ofNat (nat_lit 0))).snd.fst,
 (List.getD r.snd.snd.fst (Int.toNat r_1.fst)
 (nilOf UInt8, Int.ofNat (nat_lit 0), Int.ofNat (nat_lit 0),
 Int.ofNat (nat_lit 0), nilOf UInt8, nilOf UInt8,
 Int.ofNat (nat_lit 0))).snd.snd.fst,
 r_3.fst,
 (List.getD r.snd.snd.fst (Int.toNat r_1.fst)
 (nilOf UInt8, Int.ofNat (nat_lit 0), Int.ofNat (nat_lit 0),
 Int.ofNat (nat_lit 0), nilOf UInt8, nilOf UInt8,
 Int.ofNat (nat_lit 0))).snd.snd.snd.snd),
 ())
 else none
 else none
 else
 Option.bind
 (bif r_2.fst == (4 : Int) then
 Option.bind (m_spec_l01PickInt [(-1 : Int), (9 : Int), (201 : Int)] r_2.snd.fst)
 fun (r_3 : Int × (List Int × Int × Int × Unit) × Unit) =>
 if (0 : Int) ≤ r_1.fst ∧ r_1.fst < (↑(List.length r.snd.snd.fst) : Int) then
 if Int.toNat r_1.fst < List.length r.snd.snd.fst then
 some
 (((), ()), r_3.snd.fst,
 List.set r.snd.snd.fst (Int.toNat r_1.fst)
 ((List.getD r.snd.snd.fst (Int.toNat r_1.fst)
 (nilOf UInt8, Int.ofNat (nat_lit 0), Int.ofNat (nat_lit 0),
 Int.ofNat (nat_lit 0), nilOf UInt8, nilOf UInt8,
 Int.ofNat (nat_lit 0))).fst,
 (List.getD r.snd.snd.fst (Int.toNat r_1.fst)
 (nilOf UInt8, Int.ofNat (nat_lit 0), Int.ofNat (nat_lit 0),
 Int.ofNat (nat_lit 0), nilOf UInt8, nilOf UInt8,
 Int.ofNat (nat_lit 0))).snd.fst,
 (List.getD r.snd.snd.fst (Int.toNat r_1.fst)
 (nilOf UInt8, Int.ofNat (nat_lit 0), Int.ofNat (nat_lit 0),
 Int.ofNat (nat_lit 0), nilOf UInt8, nilOf UInt8,
 Int.ofNat (nat_lit 0))).snd.snd.fst,
 (List.getD r.snd.snd.fst (Int.toNat r_1.fst)
 (nilOf UInt8, Int.ofNat (nat_lit 0), Int.ofNat (nat_lit 0),
 Int.ofNat (nat_lit 0), nilOf UInt8, nilOf UInt8,
 Int.ofNat (nat_lit 0))).snd.snd.snd.fst,
 (List.getD r.snd.snd.fst (Int.toNat r_1.fst)
 (nilOf UInt8, Int.ofNat (nat_lit 0), Int.ofNat (nat_lit 0),
 Int.ofNat (nat_lit 0), nilOf UInt8, nilOf UInt8,
 Int.ofNat (nat_lit 0))).snd.snd.snd.snd.fst,
 (List.getD r.snd.snd.fst (Int.toNat r_1.fst)
 (nilOf UInt8, Int.ofNat (nat_lit 0),
 Int.ofNat (nat_lit 0), Int.ofNat (nat_lit 0),
 nilOf UInt8, nilOf UInt8,
 Int.ofNat (nat_lit 0))).snd.snd.snd.snd.snd.fst,
 r_3.fst),
 ())
 else none
 else none
 else
 Option.bind
 (bif r_2.fst == (5 : Int) then
 Option.bind
 (m_spec_l01Pick
 [nilOf UInt8, [(120 : UInt8)], [(97 : UInt8), (10 : UInt8), (98 : UInt8)]]
 r_2.snd.fst)
 fun (r_3 : List UInt8 × (List Int × Int × Int × Unit) × Unit) =>
 if (0 : Int) ≤ r_1.fst ∧ r_1.fst < (↑(List.length r.snd.snd.fst) : Int) then
 if Int.toNat r_1.fst < List.length r.snd.snd.fst then
 some
 (((), ()), r_3.snd.fst,
 List.set r.snd.snd.fst (Int.toNat r_1.fst)
 ((List.getD r.snd.snd.fst (Int.toNat r_1.fst)
 (nilOf UInt8, Int.ofNat (nat_lit 0), Int.ofNat (nat_lit 0),
 Int.ofNat (nat_lit 0), nilOf UInt8, nilOf UInt8,
 Int.ofNat (nat_lit 0))).fst,
 (List.getD r.snd.snd.fst (Int.toNat r_1.fst)
 (nilOf UInt8, Int.ofNat (nat_lit 0), Int.ofNat (nat_lit 0),
 Int.ofNat (nat_lit 0), nilOf UInt8, nilOf UInt8,
 Int.ofNat (nat_lit 0))).snd.fst,
 (List.getD r.snd.snd.fst (Int.toNat r_1.fst)
 (nilOf UInt8, Int.ofNat (nat_lit 0), Int.ofNat (nat_lit 0),
 Int.ofNat (nat_lit 0), nilOf UInt8, nilOf UInt8,
 Int.ofNat (nat_lit 0))).snd.snd.fst,
 (List.getD r.snd.snd.fst (Int.toNat r_1.fst)
 (nilOf UInt8, Int.ofNat (nat_lit 0),
 Int.ofNat (nat_lit 0), Int.ofNat (nat_lit 0),
 nilOf UInt8, nilOf UInt8,
 Int.ofNat (nat_lit 0))).snd.snd.snd.fst,
 (List.getD r.snd.snd.fst (Int.toNat r_1.fst)
 (nilOf UInt8, Int.ofNat (nat_lit 0),
 Int.ofNat (nat_lit 0), Int.ofNat (nat_lit 0),
 nilOf UInt8, nilOf UInt8,
 Int.ofNat (nat_lit 0))).snd.snd.snd.snd.fst,
 r_3.fst,
 (List.getD r.snd.snd.fst (Int.toNat r_1.fst)
 (nilOf UInt8, Int.ofNat (nat_lit 0),
 Int.ofNat (nat_lit 0), Int.ofNat (nat_lit 0),
 nilOf UInt8, nilOf UInt8,
 Int.ofNat (nat_lit 0))).snd.snd.snd.snd.snd.snd),
 ())
 else none
 else none
 else
 Option.bind
 (bif r_2.fst == (6 : Int) then
 if (0 : Int) ≤ r_1.fst ∧ r_1.fst < (↑(List.length r.snd.snd.fst) : Int) then
 if Int.toNat r_1.fst < List.length r.snd.snd.fst then
 if
 (List.length r.snd.snd.fst +
 List.length
 [List.getD r.snd.snd.fst (Int.toNat r_1.fst)
 (nilOf UInt8, Int.ofNat (nat_lit 0),
 Int.ofNat (nat_lit 0), Int.ofNat (nat_lit 0),
 nilOf UInt8, nilOf UInt8, Int.ofNat (nat_lit 0))]) *
 (80 : Nat) ≤
 (140737488355328 : Nat) then
 some
 (((), ()), r_2.snd.fst,
 r.snd.snd.fst ++
 [List.getD r.snd.snd.fst (Int.toNat r_1.fst)
 (nilOf UInt8, Int.ofNat (nat_lit 0), Int.ofNat (nat_lit 0),
 Int.ofNat (nat_lit 0), nilOf UInt8, nilOf UInt8,
 Int.ofNat (nat_lit 0))],
 ())
 else none
 else none
 else none
 else some (((), ()), r_2.snd.fst, r.snd.snd))
 fun
 (s :
 (Unit × Unit) ×
 (List Int × Int × Int × Unit) ×
 List (List UInt8 × Int × Int × Int × List UInt8 × List UInt8 × Int) ×
 Unit) =>
 some (((), ()), s.snd))
 fun
 (s :
 (Unit × Unit) ×
 (List Int × Int × Int × Unit) ×
 List (List UInt8 × Int × Int × Int × List UInt8 × List UInt8 × Int) ×
 Unit) =>
 some (((), ()), s.snd))
 fun
 (s :
 (Unit × Unit) ×
 (List Int × Int × Int × Unit) ×
 List (List UInt8 × Int × Int × Int × List UInt8 × List UInt8 × Int) × Unit) =>
 some (((), ()), s.snd))
 fun
 (s :
 (Unit × Unit) ×
 (List Int × Int × Int × Unit) ×
 List (List UInt8 × Int × Int × Int × List UInt8 × List UInt8 × Int) × Unit) =>
 some (((), ()), s.snd))
 fun
 (s :
 (Unit × Unit) ×
 (List Int × Int × Int × Unit) ×
 List (List UInt8 × Int × Int × Int × List UInt8 × List UInt8 × Int) × Unit) =>
 some (((), ()), s.snd))
 fun
 (s :
 (Unit × Unit) ×
 (List Int × Int × Int × Unit) ×
 List (List UInt8 × Int × Int × Int × List UInt8 × List UInt8 × Int) × Unit) =>
 some (((), ()), s.snd))
 fun
 (s :
 (Unit × Unit) ×
 (List Int × Int × Int × Unit) ×
 List (List UInt8 × Int × Int × Int × List UInt8 × List UInt8 × Int) × Unit) =>
 some ((), s.snd)
-- spec.l10Where
def m_spec_l10Where (a1 : List (List UInt8 × (Int × (Int × (Int × (List UInt8 × (List UInt8 × Int))))))) (s0 : (List Int × Int × Int × Unit)) : Option (List UInt8 × ((List Int × Int × Int × Unit) × Unit)) :=
 Option.bind
 (bif decide ((↑(List.length a1) : Int) > (0 : Int)) then
 Option.bind (m_spec_l01Once (4 : Int) s0) fun (r : Bool × (List Int × Int × Int × Unit) × Unit) =>
 some (((), a1, !r.fst, ()), r.snd)
 else some (((), a1, false, ()), s0, ()))
 fun
 (s :
 (Unit × List (List UInt8 × Int × Int × Int × List UInt8 × List UInt8 × Int) × Bool × Unit) ×
 (List Int × Int × Int × Unit) × Unit) =>
 bif s.fst.snd.snd.fst then
 Option.bind (m_spec_l01Below (↑(List.length s.fst.snd.fst) : Int) s.snd.fst)
 fun (r : Int × (List Int × Int × Int × Unit) × Unit) =>
 if (0 : Int) ≤ r.fst ∧ r.fst < (↑(List.length s.fst.snd.fst) : Int) then
 some
 ((List.getD s.fst.snd.fst (Int.toNat r.fst)
 (nilOf UInt8, Int.ofNat (nat_lit 0), Int.ofNat (nat_lit 0), Int.ofNat (nat_lit 0), nilOf UInt8,
 nilOf UInt8, Int.ofNat (nat_lit 0))).fst,
 r.snd)
 else none
 else Option.bind (m_spec_l02Any s.snd.fst) fun (r : List UInt8 × (List Int × Int × Int × Unit) × Unit) => some r
-- spec.DrawPut
def m_spec_DrawPut (a0 : List Int) : Option ((List (List UInt8 × (Int × (Int × (Int × (List UInt8 × (List UInt8 × Int)))))) × (List UInt8 × (Int × (Int × (Int × (List UInt8 × (List UInt8 × Int)))))) × Unit) × Unit) :=
 Option.bind (m_spec_l01New a0) fun (r : Unit × (List Int × Int × Int × Unit) × Unit) =>
 Option.bind (m_spec_l10Any a0 r.snd.fst)
 fun
 (r :
 Unit ×
 (List Int × Int × Int × Unit) ×
 List (List UInt8 × Int × Int × Int × List UInt8 × List UInt8 × Int) × Unit) =>
 Option.bind (m_spec_l10Where r.snd.snd.fst r.snd.fst)
 fun (r_1 : List UInt8 × (List Int × Int × Int × Unit) × Unit) =>
 Option.bind (m_spec_l10Node r_1.fst r_1.snd.fst)
 fun
 (r_2 :
 (List UInt8 × Int × Int × Int × List UInt8 × List UInt8 × Int) ×
 (List Int × Int × Int × Unit) × Unit) =>
 Option.bind (m_spec_l01Once (8 : Int) r_2.snd.fst)
 fun (r_3 : Bool × (List Int × Int × Int × Unit) × Unit) =>
 Option.bind
 (bif r_3.fst then
 some
 (((), r.snd.snd.fst, (), ()),
 (nilOf UInt8, (0 : Int), (0 : Int), (0 : Int), nilOf UInt8, nilOf UInt8, (0 : Int), ()),
 (r_2.fst.fst, r_2.fst.snd.fst, r_2.fst.snd.snd.fst, r_2.fst.snd.snd.snd.fst,
 r_2.fst.snd.snd.snd.snd.fst, r_2.fst.snd.snd.snd.snd.snd.fst, (3 : Int), ()),
 ())
 else
 some
 (((), r.snd.snd.fst, (), ()),
 (nilOf UInt8, (0 : Int), (0 : Int), (0 : Int), nilOf UInt8, nilOf UInt8, (0 : Int), ()),
 (r_2.fst.fst, r_2.fst.snd.fst, r_2.fst.snd.snd.fst, r_2.fst.snd.snd.snd.fst,
 r_2.fst.snd.snd.snd.snd.fst, r_2.fst.snd.snd.snd.snd.snd.fst, r_2.fst.snd.snd.snd.snd.snd.snd,
 ()),
 ()))
 fun
 (s :
 (Unit × List (List UInt8 × Int × Int × Int × List UInt8 × List UInt8 × Int) × Unit × Unit) ×
 (List UInt8 × Int × Int × Int × List UInt8 × List UInt8 × Int × Unit) ×
 (List UInt8 × Int × Int × Int × List UInt8 × List UInt8 × Int × Unit) × Unit) =>
 some
 ((s.fst.snd.fst,
 (s.snd.snd.fst.fst, s.snd.snd.fst.snd.fst, s.snd.snd.fst.snd.snd.fst, s.snd.snd.fst.snd.snd.snd.fst,
 s.snd.snd.fst.snd.snd.snd.snd.fst, s.snd.snd.fst.snd.snd.snd.snd.snd.fst,
 s.snd.snd.fst.snd.snd.snd.snd.snd.snd.fst),
 ()),
 ())
-- spec.NodeOk
def m_spec_NodeOk (a0 : (List UInt8 × (Int × (Int × (Int × (List UInt8 × (List UInt8 × Int))))))) : Option (Bool × Unit) :=
 Option.bind
 (Option.bind (m_spec_PathOk a0.fst) fun (r : Bool × Unit) =>
 bif !r.fst then
 some
 (((), true, ()),
 (a0.fst, a0.snd.fst, a0.snd.snd.fst, a0.snd.snd.snd.fst, a0.snd.snd.snd.snd.fst, a0.snd.snd.snd.snd.snd.fst,
 a0.snd.snd.snd.snd.snd.snd, ()),
 ())
 else
 Option.bind (m_spec_l01In a0.snd.snd.fst (0 : Int) (511 : Int)) fun (r : Bool × Unit) =>
 bif !r.fst then
 some
 (((), true, ()),
 (a0.fst, a0.snd.fst, a0.snd.snd.fst, a0.snd.snd.snd.fst, a0.snd.snd.snd.snd.fst,
 a0.snd.snd.snd.snd.snd.fst, a0.snd.snd.snd.snd.snd.snd, ()),
 ())
 else
 Option.bind (m_spec_l01In a0.snd.snd.snd.fst (0 : Int) (1000000000 : Int)) fun (r : Bool × Unit) =>
 some
 (((), !r.fst, ()),
 (a0.fst, a0.snd.fst, a0.snd.snd.fst, a0.snd.snd.snd.fst, a0.snd.snd.snd.snd.fst,
 a0.snd.snd.snd.snd.snd.fst, a0.snd.snd.snd.snd.snd.snd, ()),
 ()))
 fun (s : (Unit × Bool × Unit) × (List UInt8 × Int × Int × Int × List UInt8 × List UInt8 × Int × Unit) × Unit) =>
 bif s.fst.snd.fst then some (false, ())
 else
 bif s.snd.fst.snd.fst == (0 : Int) then
 Option.bind
 (bif s.snd.fst.snd.snd.snd.snd.fst == nilOf UInt8 then
 bif s.snd.fst.snd.snd.snd.snd.snd.fst == nilOf UInt8 then
 some ((s.snd.fst.snd.snd.snd.snd.snd.snd.fst == (0 : Int), ()), ())
 else some ((false, ()), ())
 else some ((false, ()), ()))
 fun (s : (Bool × Unit) × Unit) => some s.fst
 else
 bif s.snd.fst.snd.fst == (1 : Int) then
 Option.bind
 (bif decide ((↑(List.length s.snd.fst.snd.snd.snd.snd.fst) : Int) ≤ (20000 : Int)) then
 bif s.snd.fst.snd.snd.snd.snd.snd.fst == nilOf UInt8 then
 Option.bind (m_spec_l01In s.snd.fst.snd.snd.snd.snd.snd.snd.fst (0 : Int) (200 : Int))
 fun (r : Bool × Unit) => some (r, ())
 else some ((false, ()), ())
 else some ((false, ()), ()))
 fun (s : (Bool × Unit) × Unit) => some s.fst
 else
 bif s.snd.fst.snd.fst == (2 : Int) then
 Option.bind
 (bif !s.snd.fst.snd.snd.snd.snd.fst == nilOf UInt8 then some (((), true, ()), s.snd)
 else
 bif s.snd.fst.snd.snd.fst != (0 : Int) then some (((), true, ()), s.snd)
 else
 bif s.snd.fst.snd.snd.snd.snd.snd.snd.fst != (0 : Int) then some (((), true, ()), s.snd)
 else
 Option.bind
 (m_spec_l01In (↑(List.length s.snd.fst.snd.snd.snd.snd.snd.fst) : Int) (1 : Int) (60 : Int))
 fun (r : Bool × Unit) => some (((), !r.fst, ()), s.snd))
 fun
 (s :
 (Unit × Bool × Unit) ×
 (List UInt8 × Int × Int × Int × List UInt8 × List UInt8 × Int × Unit) × Unit) =>
 bif s.fst.snd.fst then some (false, ())
 else
 joinC
 (loopC
 (Int.toNat (0 : Int) + List.length s.snd.fst.fst + Int.toNat s.snd.fst.snd.fst +
 Int.toNat s.snd.fst.snd.snd.fst +
 Int.toNat s.snd.fst.snd.snd.snd.fst +
 List.length s.snd.fst.snd.snd.snd.snd.fst +
 List.length s.snd.fst.snd.snd.snd.snd.snd.fst +
 Int.toNat s.snd.fst.snd.snd.snd.snd.snd.snd.fst +
 (300 : Nat))
 (fun
 (s :
 (Unit × Int × Unit) ×
 (List UInt8 × Int × Int × Int × List UInt8 × List UInt8 × Int × Unit) × Unit)
 (k :
 (Unit × Int × Unit) ×
 (List UInt8 × Int × Int × Int × List UInt8 × List UInt8 × Int × Unit) × Unit →
 Option (Unit × Unit ⊕ Bool × Unit)) =>
 bif decide (s.fst.snd.fst < (↑(List.length s.snd.fst.snd.snd.snd.snd.snd.fst) : Int)) then
 if
 (0 : Int) ≤ s.fst.snd.fst ∧
 s.fst.snd.fst < (↑(List.length s.snd.fst.snd.snd.snd.snd.snd.fst) : Int) then
 bif
 (↑(UInt8.toNat
 (List.getD s.snd.fst.snd.snd.snd.snd.snd.fst (Int.toNat s.fst.snd.fst)
 (0 : UInt8))) :
 Int) ==
 (10 : Int) then
 some (Sum.inr (false, ()))
 else k (((), IntKind.wrap IntKind.i64 (s.fst.snd.fst + (1 : Int)), ()), s.snd)
 else none
 else some (Sum.inl ((), ())))
 (((), (0 : Int), ()), s.snd))
 fun (s : Unit × Unit) => some (true, ())
 else some (false, ())
-- spec.Names
def m_spec_Names (a0 : List UInt8) : Option (List (List UInt8) × Unit) :=
 Option.bind (m_spec_PathOk a0) fun (r : Bool × Unit) =>
 bif !r.fst then some (nilOf (List UInt8), ())
 else Option.bind (m_spec_l02Names a0) fun (r : List (List UInt8) × Unit) => some r
-- spec.ParentOf
def m_spec_ParentOf (a0 : List UInt8) : Option (List UInt8 × Unit) :=
 Option.bind (m_spec_Names a0) fun (r : List (List UInt8) × Unit) =>
 Option.bind
 (loopC (List.length r.fst + List.length (nilOf UInt8) + Int.toNat (0 : Int) + (300 : Nat))
 (fun (s : (List (List UInt8) × List UInt8 × Int × Unit) × Unit)
 (k : (List (List UInt8) × List UInt8 × Int × Unit) × Unit → Option ((List UInt8 × Unit) × Unit)) =>
 bif decide (IntKind.wrap IntKind.i64 (s.fst.snd.snd.fst + (1 : Int)) < (↑(List.length s.fst.fst) : Int)) then
 Option.bind
 (bif decide (s.fst.snd.snd.fst > (0 : Int)) then
 if List.length s.fst.snd.fst + List.length [(47 : UInt8)] < (2 : Nat) ^ (63 : Nat) then
 some ((s.fst.fst, s.fst.snd.fst ++ [(47 : UInt8)], s.fst.snd.snd), ())
 else none
 else some s)
 fun (s : (List (List UInt8) × List UInt8 × Int × Unit) × Unit) =>
 if (0 : Int) ≤ s.fst.snd.snd.fst ∧ s.fst.snd.snd.fst < (↑(List.length s.fst.fst) : Int) then
 if
 List.length s.fst.snd.fst +
 List.length (List.getD s.fst.fst (Int.toNat s.fst.snd.snd.fst) (nilOf UInt8)) <
 (2 : Nat) ^ (63 : Nat) then
 k
 ((s.fst.fst, s.fst.snd.fst ++ List.getD s.fst.fst (Int.toNat s.fst.snd.snd.fst) (nilOf UInt8),
 IntKind.wrap IntKind.i64 (s.fst.snd.snd.fst + (1 : Int)), ()),
 ())
 else none
 else none
 else some ((s.fst.snd.fst, ()), ()))
 ((r.fst, nilOf UInt8, (0 : Int), ()), ()))
 fun (s : (List UInt8 × Unit) × Unit) => some s.fst
-- spec.TreeOk
def m_spec_TreeOk (a0 : List (List UInt8 × (Int × (Int × (Int × (List UInt8 × (List UInt8 × Int))))))) : Option (Bool × Unit) :=
 bif decide ((↑(List.length a0) : Int) > (200 : Int)) then some (false, ())
 else
 joinC
 (loopC (List.length a0 + Int.toNat (0 : Int) + Int.toNat (0 : Int) + (300 : Nat))
 (fun (s : (List (List UInt8 × Int × Int × Int × List UInt8 × List UInt8 × Int) × Int × Int × Unit) × Unit)
 (k :
 (List (List UInt8 × Int × Int × Int × List UInt8 × List UInt8 × Int) × Int × Int × Unit) × Unit →
 Option
 ((List (List UInt8 × Int × Int × Int × List UInt8 × List UInt8 × Int) × Int × Unit) × Unit ⊕
 Bool × Unit)) =>
 bif decide (s.fst.snd.snd.fst < (↑(List.length s.fst.fst) : Int)) then
 if (0 : Int) ≤ s.fst.snd.snd.fst ∧ s.fst.snd.snd.fst < (↑(List.length s.fst.fst) : Int) then
 Option.bind
 (Option.bind
 (m_spec_NodeOk
 (List.getD s.fst.fst (Int.toNat s.fst.snd.snd.fst)
 (nilOf UInt8, Int.ofNat (nat_lit 0), Int.ofNat (nat_lit 0), Int.ofNat (nat_lit 0), nilOf UInt8,
 nilOf UInt8, Int.ofNat (nat_lit 0))))
 fun (r : Bool × Unit) =>
 bif !r.fst then
 some
 ((s.fst.fst, s.fst.snd.fst, s.fst.snd.snd.fst, (), true, ()),
 ((List.getD s.fst.fst (Int.toNat s.fst.snd.snd.fst)
 (nilOf UInt8, Int.ofNat (nat_lit 0), Int.ofNat (nat_lit 0), Int.ofNat (nat_lit 0),
 nilOf UInt8, nilOf UInt8, Int.ofNat (nat_lit 0))).fst,
 (List.getD s.fst.fst (Int.toNat s.fst.snd.snd.fst)
 (nilOf UInt8, Int.ofNat (nat_lit 0), Int.ofNat (nat_lit 0), Int.ofNat (nat_lit 0),
 nilOf UInt8, nilOf UInt8, Int.ofNat (nat_lit 0))).snd.fst,
 (List.getD s.fst.fst (Int.toNat s.fst.snd.snd.fst)
 (nilOf UInt8, Int.ofNat (nat_lit 0), Int.ofNat (nat_lit 0), Int.ofNat (nat_lit 0),
 nilOf UInt8, nilOf UInt8, Int.ofNat (nat_lit 0))).snd.snd.fst,
 (List.getD s.fst.fst (Int.toNat s.fst.snd.snd.fst)
 (nilOf UInt8, Int.ofNat (nat_lit 0), Int.ofNat (nat_lit 0), Int.ofNat (nat_lit 0),
 nilOf UInt8, nilOf UInt8, Int.ofNat (nat_lit 0))).snd.snd.snd.fst,
 (List.getD s.fst.fst (Int.toNat s.fst.snd.snd.fst)
 (nilOf UInt8, Int.ofNat (nat_lit 0), Int.ofNat (nat_lit 0), Int.ofNat (nat_lit 0),
 nilOf UInt8, nilOf UInt8, Int.ofNat (nat_lit 0))).snd.snd.snd.snd.fst,
 (List.getD s.fst.fst (Int.toNat s.fst.snd.snd.fst)
 (nilOf UInt8, Int.ofNat (nat_lit 0), Int.ofNat (nat_lit 0),
 Int.ofNat (nat_lit 0), nilOf UInt8, nilOf UInt8,
 Int.ofNat (nat_lit 0))).snd.snd.snd.snd.snd.fst,
 (List.getD s.fst.fst (Int.toNat s.fst.snd.snd.fst)
 (nilOf UInt8, Int.ofNat (nat_lit 0), Int.ofNat (nat_lit 0),
 Int.ofNat (nat_lit 0), nilOf UInt8, nilOf UInt8,
 Int.ofNat (nat_lit 0))).snd.snd.snd.snd.snd.snd,
 ()),
 ())
 else
 bif decide (s.fst.snd.snd.fst > (0 : Int)) then
 if
 (0 : Int) ≤ IntKind.wrap IntKind.i64 (s.fst.snd.snd.fst - (1 : Int)) ∧
 IntKind.wrap IntKind.i64 (s.fst.snd.snd.fst - (1 : Int)) <
 (↑(List.length s.fst.fst) : Int) then
 some
 ((s.fst.fst, s.fst.snd.fst, s.fst.snd.snd.fst, (),
 !Op.bytesLess
 (List.getD s.fst.fst
 (Int.toNat (IntKind.wrap IntKind.i64 (s.fst.snd.snd.fst - (1 : Int))))
 (nilOf UInt8, Int.ofNat (nat_lit 0), Int.ofNat (nat_lit 0), Int.ofNat (nat_lit 0),
 nilOf UInt8, nilOf UInt8, Int.ofNat (nat_lit 0))).fst
 (List.getD s.fst.fst (Int.toNat s.fst.snd.snd.fst)
 (nilOf UInt8, Int.ofNat (nat_lit 0), Int.ofNat (nat_lit 0), Int.ofNat (nat_lit 0),
 nilOf UInt8, nilOf UInt8, Int.ofNat (nat_lit 0))).fst,
 ()),
 ((List.getD s.fst.fst (Int.toNat s.fst.snd.snd.fst)
 (nilOf UInt8, Int.ofNat (nat_lit 0), Int.ofNat (nat_lit 0), Int.ofNat (nat_lit 0),
 nilOf UInt8, nilOf UInt8, Int.ofNat (nat_lit 0))).fst,
 (List.getD s.fst.fst (Int.toNat s.fst.snd.snd.fst)
 (nilOf UInt8, Int.ofNat (nat_lit 0), Int.ofNat (nat_lit 0), Int.ofNat (nat_lit 0),
 nilOf UInt8, nilOf UInt8, Int.ofNat (nat_lit 0))).snd.fst,
 (List.getD s.fst.fst (Int.toNat s.fst.snd.snd.fst)
 (nilOf UInt8, Int.ofNat (nat_lit 0), Int.ofNat (nat_lit 0), Int.ofNat (nat_lit 0),
 nilOf UInt8, nilOf UInt8, Int.ofNat (nat_lit 0))).snd.snd.fst,
 (List.getD s.fst.fst (Int.toNat s.fst.snd.snd.fst)
 (nilOf UInt8, Int.ofNat (nat_lit 0), Int.ofNat (nat_lit 0),
 Int.ofNat (nat_lit 0), nilOf UInt8, nilOf UInt8,
 Int.ofNat (nat_lit 0))).snd.snd.snd.fst,
 (List.getD s.fst.fst (Int.toNat s.fst.snd.snd.fst)
 (nilOf UInt8, Int.ofNat (nat_lit 0), Int.ofNat (nat_lit 0),
 Int.ofNat (nat_lit 0), nilOf UInt8, nilOf UInt8,
 Int.ofNat (nat_lit 0))).snd.snd.snd.snd.fst,
 (List.getD s.fst.fst (Int.toNat s.fst.snd.snd.fst)
 (nilOf UInt8, Int.ofNat (nat_lit 0), Int.ofNat (nat_lit 0),
 Int.ofNat (nat_lit 0), nilOf UInt8, nilOf UInt8,
 Int.ofNat (nat_lit 0))).snd.snd.snd.snd.snd.fst,
 (List.getD s.fst.fst (Int.toNat s.fst.snd.snd.fst)
 (nilOf UInt8, Int.ofNat (nat_lit 0), Int.ofNat (nat_lit 0),
 Int.ofNat (nat_lit 0), nilOf UInt8, nilOf UInt8,
 Int.ofNat (nat_lit 0))).snd.snd.snd.snd.snd.snd,
 ()),
 ())
 else none
 else
 some
 ((s.fst.fst, s.fst.snd.fst, s.fst.snd.snd.fst, (), false, ()),
 ((List.getD s.fst.fst (Int.toNat s.fst.snd.snd.fst)
 (nilOf UInt8, Int.ofNat (nat_lit 0), Int.ofNat (nat_lit 0), Int.ofNat (nat_lit 0),
 nilOf UInt8, nilOf UInt8, Int.ofNat (nat_lit 0))).fst,
 (List.getD s.fst.fst (Int.toNat s.fst.snd.snd.fst)
 (nilOf UInt8, Int.ofNat (nat_lit 0), Int.ofNat (nat_lit 0), Int.ofNat (nat_lit 0),
 nilOf UInt8, nilOf UInt8, Int.ofNat (nat_lit 0))).snd.fst,
 (List.getD s.fst.fst (Int.toNat s.fst.snd.snd.fst)
 (nilOf UInt8, Int.ofNat (nat_lit 0), Int.ofNat (nat_lit 0), Int.ofNat (nat_lit 0),
 nilOf UInt8, nilOf UInt8, Int.ofNat (nat_lit 0))).snd.snd.fst,
 (List.getD s.fst.fst (Int.toNat s.fst.snd.snd.fst)
 (nilOf UInt8, Int.ofNat (nat_lit 0), Int.ofNat (nat_lit 0), Int.ofNat (nat_lit 0),
 nilOf UInt8, nilOf UInt8, Int.ofNat (nat_lit 0))).snd.snd.snd.fst,
 (List.getD s.fst.fst (Int.toNat s.fst.snd.snd.fst)
 (nilOf UInt8, Int.ofNat (nat_lit 0), Int.ofNat (nat_lit 0),
 Int.ofNat (nat_lit 0), nilOf UInt8, nilOf UInt8,
 Int.ofNat (nat_lit 0))).snd.snd.snd.snd.fst,
 (List.getD s.fst.fst (Int.toNat s.fst.snd.snd.fst)
 (nilOf UInt8, Int.ofNat (nat_lit 0), Int.ofNat (nat_lit 0),
 Int.ofNat (nat_lit 0), nilOf UInt8, nilOf UInt8,
 Int.ofNat (nat_lit 0))).snd.snd.snd.snd.snd.fst,
 (List.getD s.fst.fst (Int.toNat s.fst.snd.snd.fst)
 (nilOf UInt8, Int.ofNat (nat_lit 0), Int.ofNat (nat_lit 0),
 Int.ofNat (nat_lit 0), nilOf UInt8, nilOf UInt8,
 Int.ofNat (nat_lit 0))).snd.snd.snd.snd.snd.snd,
 ()),
 ()))
 fun
 (s :
 (List (List UInt8 × Int × Int × Int × List UInt8 × List UInt8 × Int) ×
 Int × Int × Unit × Bool × Unit) ×
 (List UInt8 × Int × Int × Int × List UInt8 × List UInt8 × Int × Unit) × Unit) =>
 bif s.fst.snd.snd.snd.snd.fst then some (Sum.inr (false, ()))
 else
 Option.bind (m_spec_ParentOf s.snd.fst.fst) fun (r : List UInt8 × Unit) =>
 Option.bind (m_spec_l10At s.fst.fst r.fst) fun (r_1 : Int × Unit) =>
 Option.bind
 (bif !r.fst == nilOf UInt8 then
 bif decide (r_1.fst < (0 : Int)) then
 some
 ((s.fst.fst,
 IntKind.wrap IntKind.i64
 (s.fst.snd.fst + (↑(List.length s.snd.fst.snd.snd.snd.snd.fst) : Int)),
 s.fst.snd.snd.fst, true, ()),
 ())
 else
 if (0 : Int) ≤ r_1.fst ∧ r_1.fst < (↑(List.length s.fst.fst) : Int) then
 some
 ((s.fst.fst,
 IntKind.wrap IntKind.i64
 (s.fst.snd.fst + (↑(List.length s.snd.fst.snd.snd.snd.snd.fst) : Int)),
 s.fst.snd.snd.fst,
 (List.getD s.fst.fst (Int.toNat r_1.fst)
 (nilOf UInt8, Int.ofNat (nat_lit 0), Int.ofNat (nat_lit 0),
 Int.ofNat (nat_lit 0), nilOf UInt8, nilOf UInt8,
 Int.ofNat (nat_lit 0))).snd.fst !=
 (0 : Int),
 ()),
 ())
 else none
 else
 some
 ((s.fst.fst,
 IntKind.wrap IntKind.i64
 (s.fst.snd.fst + (↑(List.length s.snd.fst.snd.snd.snd.snd.fst) : Int)),
 s.fst.snd.snd.fst, false, ()),
 ()))
 fun
 (s :
 (List (List UInt8 × Int × Int × Int × List UInt8 × List UInt8 × Int) ×
 Int × Int × Bool × Unit) ×
 Unit) =>
 bif s.fst.snd.snd.snd.fst then some (Sum.inr (false, ()))
 else
 k
 ((s.fst.fst, s.fst.snd.fst, IntKind.wrap IntKind.i64 (s.fst.snd.snd.fst + (1 : Int)), ()),
 ())
 else none
 else some (Sum.inl ((s.fst.fst, s.fst.snd.fst, ()), ())))
 ((a0, (0 : Int), (0 : Int), ()), ()))
 fun (s : (List (List UInt8 × Int × Int × Int × List UInt8 × List UInt8 × Int) × Int × Unit) × Unit) =>
 joinC
 (loopC (List.length s.fst.fst + Int.toNat s.fst.snd.fst + Int.toNat (0 : Int) + (300 : Nat))
 (fun (s : (List (List UInt8 × Int × Int × Int × List UInt8 × List UInt8 × Int) × Int × Int × Unit) × Unit)
 (k :
 (List (List UInt8 × Int × Int × Int × List UInt8 × List UInt8 × Int) × Int × Int × Unit) × Unit →
 Option ((Int × Unit) × Unit ⊕ Bool × Unit)) =>
 bif decide (s.fst.snd.snd.fst < (↑(List.length s.fst.fst) : Int)) then
 joinC
 (if (0 : Int) ≤ s.fst.snd.snd.fst ∧ s.fst.snd.snd.fst < (↑(List.length s.fst.fst) : Int) then
 bif
 (List.getD s.fst.fst (Int.toNat s.fst.snd.snd.fst)
 (nilOf UInt8, Int.ofNat (nat_lit 0), Int.ofNat (nat_lit 0), Int.ofNat (nat_lit 0),
 nilOf UInt8, nilOf UInt8, Int.ofNat (nat_lit 0))).snd.snd.snd.snd.snd.snd ==
 (0 : Int) then
 some (Sum.inl s)
 else
 joinC
 (loopC
 (List.length s.fst.fst + Int.toNat s.fst.snd.fst + Int.toNat s.fst.snd.snd.fst +
 Int.toNat (0 : Int) +
 Int.toNat (0 : Int) +
 (300 : Nat))
 (fun
 (s :
 (List (List UInt8 × Int × Int × Int × List UInt8 × List UInt8 × Int) ×
 Int × Int × Int × Int × Unit) ×
 Unit)
 (k :
 (List (List UInt8 × Int × Int × Int × List UInt8 × List UInt8 × Int) ×
 Int × Int × Int × Int × Unit) ×
 Unit →
 Option
 ((List (List UInt8 × Int × Int × Int × List UInt8 × List UInt8 × Int) ×
 Int × Int × Int × Unit) ×
 Unit ⊕
 (List (List UInt8 × Int × Int × Int × List UInt8 × List UInt8 × Int) ×
 Int × Int × Unit) ×
 Unit ⊕
 (Int × Unit) × Unit ⊕ Bool × Unit)) =>
 bif decide (s.fst.snd.snd.snd.snd.fst < (↑(List.length s.fst.fst) : Int)) then
 if
 (0 : Int) ≤ s.fst.snd.snd.snd.snd.fst ∧
 s.fst.snd.snd.snd.snd.fst < (↑(List.length s.fst.fst) : Int) then
 if
 (0 : Int) ≤ s.fst.snd.snd.fst ∧
 s.fst.snd.snd.fst < (↑(List.length s.fst.fst) : Int) then
 joinC
 (bif
 (List.getD s.fst.fst (Int.toNat s.fst.snd.snd.snd.snd.fst)
 (nilOf UInt8, Int.ofNat (nat_lit 0), Int.ofNat (nat_lit 0),
 Int.ofNat (nat_lit 0), nilOf UInt8, nilOf UInt8,
 Int.ofNat (nat_lit 0))).snd.snd.snd.snd.snd.snd ==
 (List.getD s.fst.fst (Int.toNat s.fst.snd.snd.fst)
 (nilOf UInt8, Int.ofNat (nat_lit 0), Int.ofNat (nat_lit 0),
 Int.ofNat (nat_lit 0), nilOf UInt8, nilOf UInt8,
 Int.ofNat (nat_lit 0))).snd.snd.snd.snd.snd.snd then
 Option.bind
 (if
 (0 : Int) ≤ s.fst.snd.snd.snd.snd.fst ∧
 s.fst.snd.snd.snd.snd.fst < (↑(List.length s.fst.fst) : Int) then
 if
 (0 : Int) ≤ s.fst.snd.snd.fst ∧
 s.fst.snd.snd.fst < (↑(List.length s.fst.fst) : Int) then
 bif
 (List.getD s.fst.fst (Int.toNat s.fst.snd.snd.snd.snd.fst)
 (nilOf UInt8, Int.ofNat (nat_lit 0), Int.ofNat (nat_lit 0),
 Int.ofNat (nat_lit 0), nilOf UInt8, nilOf UInt8,
 Int.ofNat (nat_lit 0))).snd.snd.fst !=
 (List.getD s.fst.fst (Int.toNat s.fst.snd.snd.fst)
 (nilOf UInt8, Int.ofNat (nat_lit 0), Int.ofNat (nat_lit 0),
 Int.ofNat (nat_lit 0), nilOf UInt8, nilOf UInt8,
 Int.ofNat (nat_lit 0))).snd.snd.fst then
 some
 ((s.fst.fst, s.fst.snd.fst, s.fst.snd.snd.fst,
 IntKind.wrap IntKind.i64 (s.fst.snd.snd.snd.fst + (1 : Int)),
 s.fst.snd.snd.snd.snd.fst, true, ()),
 ())
 else
 if
 (0 : Int) ≤ s.fst.snd.snd.snd.snd.fst ∧
 s.fst.snd.snd.snd.snd.fst < (↑(List.length s.fst.fst) : Int) then
 if
 (0 : Int) ≤ s.fst.snd.snd.fst ∧
 s.fst.snd.snd.fst < (↑(List.length s.fst.fst) : Int) then
 bif
 (List.getD s.fst.fst (Int.toNat s.fst.snd.snd.snd.snd.fst)
 (nilOf UInt8, Int.ofNat (nat_lit 0),
 Int.ofNat (nat_lit 0), Int.ofNat (nat_lit 0),
 nilOf UInt8, nilOf UInt8,
 Int.ofNat (nat_lit 0))).snd.snd.snd.fst !=
 (List.getD s.fst.fst (Int.toNat s.fst.snd.snd.fst)
 (nilOf UInt8, Int.ofNat (nat_lit 0),
 Int.ofNat (nat_lit 0), Int.ofNat (nat_lit 0),
 nilOf UInt8, nilOf UInt8,
 Int.ofNat (nat_lit 0))).snd.snd.snd.fst then
 some
 ((s.fst.fst, s.fst.snd.fst, s.fst.snd.snd.fst,
 IntKind.wrap IntKind.i64 (s.fst.snd.snd.snd.fst + (1 : Int)),
 s.fst.snd.snd.snd.snd.fst, true, ()),
 ())
 else
 if
 (0 : Int) ≤ s.fst.snd.snd.snd.snd.fst ∧
 s.fst.snd.snd.snd.snd.fst <
 (↑(List.length s.fst.fst) : Int) then
 if
 (0 : Int) ≤ s.fst.snd.snd.fst ∧
 s.fst.snd.snd.fst < (↑(List.length s.fst.fst) : Int) then
 some
 ((s.fst.fst, s.fst.snd.fst, s.fst.snd.snd.fst,
 IntKind.wrap IntKind.i64
 (s.fst.snd.snd.snd.fst + (1 : Int)),
 s.fst.snd.snd.snd.snd.fst,
 !(List.getD s.fst.fst (Int.toNat s.fst.snd.snd.snd.snd.fst)
 (nilOf UInt8, Int.ofNat (nat_lit 0),
 Int.ofNat (nat_lit 0),
 Int.ofNat (nat_lit 0), nilOf UInt8,
 nilOf UInt8,
 Int.ofNat
 (nat_lit 0))).snd.snd.snd.snd.fst ==
 (List.getD s.fst.fst (Int.toNat s.fst.snd.snd.fst)
 (nilOf UInt8, Int.ofNat (nat_lit 0),
 Int.ofNat (nat_lit 0),
 Int.ofNat (nat_lit 0), nilOf UInt8,
 nilOf UInt8,
 Int.ofNat
 (nat_lit 0))).snd.snd.snd.snd.fst,
 ()),
 ())
 else none
 else none
 else none
 else none
 else none
 else none)
 fun
 (s :
 (List (List UInt8 × Int × Int × Int × List UInt8 × List UInt8 × Int) ×
 Int × Int × Int × Int × Bool × Unit) ×
 Unit) =>
 bif s.fst.snd.snd.snd.snd.snd.fst then
 some (Sum.inr (Sum.inr (Sum.inr (Sum.inr (false, ())))))
 else
 some
 (Sum.inl
 ((s.fst.fst, s.fst.snd.fst, s.fst.snd.snd.fst, s.fst.snd.snd.snd.fst,
 s.fst.snd.snd.snd.snd.fst, ()),
 ()))
 else some (Sum.inl s))
 fun
 (s :
 (List (List UInt8 × Int × Int × Int × List UInt8 × List UInt8 × Int) ×
 Int × Int × Int × Int × Unit) ×
 Unit) =>
 k
 ((s.fst.fst, s.fst.snd.fst, s.fst.snd.snd.fst, s.fst.snd.snd.snd.fst,
 IntKind.wrap IntKind.i64 (s.fst.snd.snd.snd.snd.fst + (1 : Int)), ()),
 ())
 else none
 else none
 else
 some
 (Sum.inl ((s.fst.fst, s.fst.snd.fst, s.fst.snd.snd.fst, s.fst.snd.snd.snd.fst, ()), ())))
 ((s.fst.fst, s.fst.snd.fst, s.fst.snd.snd.fst, (0 : Int), (0 : Int), ()), ()))
 fun
 (s :
 (List (List UInt8 × Int × Int × Int × List UInt8 × List UInt8 × Int) ×
 Int × Int × Int × Unit) ×
 Unit) =>
 bif decide (s.fst.snd.snd.snd.fst < (2 : Int)) then some (Sum.inr (Sum.inr (false, ())))
 else some (Sum.inl ((s.fst.fst, s.fst.snd.fst, s.fst.snd.snd.fst, ()), ()))
 else none)
 fun
 (s :
 (List (List UInt8 × Int × Int × Int × List UInt8 × List UInt8 × Int) × Int × Int × Unit) ×
 Unit) =>
 k ((s.fst.fst, s.fst.snd.fst, IntKind.wrap IntKind.i64 (s.fst.snd.snd.fst + (1 : Int)), ()), ())
 else some (Sum.inl ((s.fst.snd.fst, ()), ())))
 ((s.fst.fst, s.fst.snd.fst, (0 : Int), ()), ()))
 fun (s : (Int × Unit) × Unit) => some (decide (s.fst.fst ≤ (20000 : Int)), ())
-- spec.Put
def m_spec_Put (a0 : List (List UInt8 × (Int × (Int × (Int × (List UInt8 × (List UInt8 × Int))))))) (a1 : (List UInt8 × (Int × (Int × (Int × (List UInt8 × (List UInt8 × Int))))))) : Option ((List (List UInt8 × (Int × (Int × (Int × (List UInt8 × (List UInt8 × Int)))))) × Bool × Unit) × Unit) :=
 Option.bind
 (Option.bind (m_spec_TreeOk a0) fun (r : Bool × Unit) =>
 bif !r.fst then
 some
 ((a0, (), true, ()),
 (a1.fst, a1.snd.fst, a1.snd.snd.fst, a1.snd.snd.snd.fst, a1.snd.snd.snd.snd.fst, a1.snd.snd.snd.snd.snd.fst,
 a1.snd.snd.snd.snd.snd.snd, ()),
 ())
 else
 Option.bind (m_spec_NodeOk a1) fun (r : Bool × Unit) =>
 some
 ((a0, (), !r.fst, ()),
 (a1.fst, a1.snd.fst, a1.snd.snd.fst, a1.snd.snd.snd.fst, a1.snd.snd.snd.snd.fst,
 a1.snd.snd.snd.snd.snd.fst, a1.snd.snd.snd.snd.snd.snd, ()),
 ()))
 fun
 (s :
 (List (List UInt8 × Int × Int × Int × List UInt8 × List UInt8 × Int) × Unit × Bool × Unit) ×
 (List UInt8 × Int × Int × Int × List UInt8 × List UInt8 × Int × Unit) × Unit) =>
 bif s.fst.snd.snd.fst then
 some ((nilOf (List UInt8 × Int × Int × Int × List UInt8 × List UInt8 × Int), false, ()), ())
 else
 Option.bind
 (m_spec_l10Put s.fst.fst
 (s.snd.fst.fst, s.snd.fst.snd.fst, s.snd.fst.snd.snd.fst, s.snd.fst.snd.snd.snd.fst,
 s.snd.fst.snd.snd.snd.snd.fst, s.snd.fst.snd.snd.snd.snd.snd.fst, s.snd.fst.snd.snd.snd.snd.snd.snd.fst))
 fun (r : Unit × List (List UInt8 × Int × Int × Int × List UInt8 × List UInt8 × Int) × Unit) =>
 Option.bind (m_spec_TreeOk r.snd.fst) fun (r_1 : Bool × Unit) =>
 bif !r_1.fst then some ((nilOf (List UInt8 × Int × Int × Int × List UInt8 × List UInt8 × Int), false, ()), ())
 else some ((r.snd.fst, true, ()), ())
-- internal/bytealg.CountString
def m_bytealg_CountString (a0 : List UInt8) (a1 : Int) : Option (Int × Unit) := some ((Go.Lib.countByte a0 a1.toNat.toUInt8 : Nat), ())
-- strings.Count
def m_strings_Count (a0 : List UInt8) : Option (Int × Unit) :=
 if (0 : Int) ≤ (0 : Int) ∧ (0 : Int) < (↑(List.length [(47 : UInt8)]) : Int) then
 Option.bind
 (m_bytealg_CountString a0 (↑(UInt8.toNat (List.getD [(47 : UInt8)] (Int.toNat (0 : Int)) (0 : UInt8))) : Int))
 fun (r : Int × Unit) => some r
 else none
-- internal/bytealg.IndexByteString
def m_bytealg_IndexByteString (a0 : List UInt8) (a1 : Int) : Option (Int × Unit) := some (Go.Lib.indexByte a0 a1.toNat.toUInt8, ())
-- internal/stringslite.IndexByte
def m_stringslite_IndexByte (a0 : List UInt8) (a1 : Int) : Option (Int × Unit) :=
 Option.bind (m_bytealg_IndexByteString a0 a1) fun (r : Int × Unit) => some r
-- internal/stringslite.Index
def m_stringslite_Index (a0 : List UInt8) : Option (Int × Unit) :=
 bif [(47 : UInt8)] == a0 then some ((0 : Int), ())
 else
 if (0 : Int) ≤ (0 : Int) ∧ (0 : Int) < (↑(List.length [(47 : UInt8)]) : Int) then
 Option.bind
 (m_stringslite_IndexByte a0 (↑(UInt8.toNat (List.getD [(47 : UInt8)] (Int.toNat (0 : Int)) (0 : UInt8))) : Int))
 fun (r : Int × Unit) => some r
 else none
-- strings.Index
def m_strings_Index (a0 : List UInt8) : Option (Int × Unit) := Option.bind (m_stringslite_Index a0) fun (r : Int × Unit) => some r
-- strings.genSplit
def m_strings_genSplit (a0 : List UInt8) : Option (List (List UInt8) × Unit) :=
 Option.bind (m_strings_Count a0) fun (r : Int × Unit) =>
 if
 ((0 : Int) ≤
 if
 IntKind.wrap IntKind.i64 ((↑(List.length a0) : Int) + (1 : Int)) <
 IntKind.wrap IntKind.i64 (r.fst + (1 : Int)) then
 IntKind.wrap IntKind.i64 ((↑(List.length a0) : Int) + (1 : Int))
 else IntKind.wrap IntKind.i64 (r.fst + (1 : Int))) ∧
 ((if
 IntKind.wrap IntKind.i64 ((↑(List.length a0) : Int) + (1 : Int)) <
 IntKind.wrap IntKind.i64 (r.fst + (1 : Int)) then
 IntKind.wrap IntKind.i64 ((↑(List.length a0) : Int) + (1 : Int))
 else IntKind.wrap IntKind.i64 (r.fst + (1 : Int))) ≤
 if
 IntKind.wrap IntKind.i64 ((↑(List.length a0) : Int) + (1 : Int)) <
 IntKind.wrap IntKind.i64 (r.fst + (1 : Int)) then
 IntKind.wrap IntKind.i64 ((↑(List.length a0) : Int) + (1 : Int))
 else IntKind.wrap IntKind.i64 (r.fst + (1 : Int))) ∧
 ((↑(16 : Nat) : Int) *
 if
 IntKind.wrap IntKind.i64 ((↑(List.length a0) : Int) + (1 : Int)) <
 IntKind.wrap IntKind.i64 (r.fst + (1 : Int)) then
 IntKind.wrap IntKind.i64 ((↑(List.length a0) : Int) + (1 : Int))
 else IntKind.wrap IntKind.i64 (r.fst + (1 : Int))) ≤
 (140737488355328 : Int) ∧
 (if
 IntKind.wrap IntKind.i64 ((↑(List.length a0) : Int) + (1 : Int)) <
 IntKind.wrap IntKind.i64 (r.fst + (1 : Int)) then
 IntKind.wrap IntKind.i64 ((↑(List.length a0) : Int) + (1 : Int))
 else IntKind.wrap IntKind.i64 (r.fst + (1 : Int))) <
 (2 : Int) ^ (62 : Nat) then
 Option.bind
 (loopC
 (List.length a0 +
 Int.toNat
 (IntKind.wrap IntKind.i64
 ((if
 IntKind.wrap IntKind.i64 ((↑(List.length a0) : Int) + (1 : Int)) <
 IntKind.wrap IntKind.i64 (r.fst + (1 : Int)) then
 IntKind.wrap IntKind.i64 ((↑(List.length a0) : Int) + (1 : Int))
 else IntKind.wrap IntKind.i64 (r.fst + (1 : Int))) -
 (1 : Int))) +
 Int.toNat (0 : Int) +
 List.length
 (List.replicate
 (Int.toNat
 (if
 IntKind.wrap IntKind.i64 ((↑(List.length a0) : Int) + (1 : Int)) <
 IntKind.wrap IntKind.i64 (r.fst + (1 : Int)) then
 IntKind.wrap IntKind.i64 ((↑(List.length a0) : Int) + (1 : Int))
 else IntKind.wrap IntKind.i64 (r.fst + (1 : Int))))
 (nilOf UInt8)) +
 (300 : Nat))
 (fun (s : (List UInt8 × Unit × Unit × Int × Unit × Int × Unit) × List (List UInt8) × Unit)
 (k :
 (List UInt8 × Unit × Unit × Int × Unit × Int × Unit) × List (List UInt8) × Unit →
 Option ((List UInt8 × Unit × Int × Unit) × List (List UInt8) × Unit)) =>
 bif decide (s.fst.snd.snd.snd.snd.snd.fst < s.fst.snd.snd.snd.fst) then
 Option.bind (m_strings_Index s.fst.fst) fun (r : Int × Unit) =>
 bif decide (r.fst < (0 : Int)) then some ((s.fst.fst, (), s.fst.snd.snd.snd.snd.snd), s.snd)
 else
 if
 (0 : Int) ≤ (0 : Int) ∧
 (0 : Int) ≤ IntKind.wrap IntKind.i64 (r.fst + (0 : Int)) ∧
 IntKind.wrap IntKind.i64 (r.fst + (0 : Int)) ≤ (↑(List.length s.fst.fst) : Int) then
 if
 (0 : Int) ≤ s.fst.snd.snd.snd.snd.snd.fst ∧
 s.fst.snd.snd.snd.snd.snd.fst < (↑(List.length s.snd.fst) : Int) then
 if Int.toNat s.fst.snd.snd.snd.snd.snd.fst < List.length s.snd.fst then
 if
 (0 : Int) ≤ IntKind.wrap IntKind.i64 (r.fst + (↑(List.length [(47 : UInt8)]) : Int)) ∧
 IntKind.wrap IntKind.i64 (r.fst + (↑(List.length [(47 : UInt8)]) : Int)) ≤
 (↑(List.length s.fst.fst) : Int) ∧
 (↑(List.length s.fst.fst) : Int) ≤ (↑(List.length s.fst.fst) : Int) then
 k
 ((List.drop
 (Int.toNat (IntKind.wrap IntKind.i64 (r.fst + (↑(List.length [(47 : UInt8)]) : Int))))
 (List.take (Int.toNat (↑(List.length s.fst.fst) : Int)) s.fst.fst),
 (), (), s.fst.snd.snd.snd.fst, (),
 IntKind.wrap IntKind.i64 (s.fst.snd.snd.snd.snd.snd.fst + (1 : Int)), ()),
 List.set s.snd.fst (Int.toNat s.fst.snd.snd.snd.snd.snd.fst)
 (List.drop (Int.toNat (0 : Int))
 (List.take (Int.toNat (IntKind.wrap IntKind.i64 (r.fst + (0 : Int)))) s.fst.fst)),
 ())
 else none
 else none
 else none
 else none
 else some ((s.fst.fst, (), s.fst.snd.snd.snd.snd.snd), s.snd))
 ((a0, (), (),
 IntKind.wrap IntKind.i64
 ((if
 IntKind.wrap IntKind.i64 ((↑(List.length a0) : Int) + (1 : Int)) <
 IntKind.wrap IntKind.i64 (r.fst + (1 : Int)) then
 IntKind.wrap IntKind.i64 ((↑(List.length a0) : Int) + (1 : Int))
 else IntKind.wrap IntKind.i64 (r.fst + (1 : Int))) -
 (1 : Int)),
 (), (0 : Int), ()),
 List.replicate
 (Int.toNat
 (if
 IntKind.wrap IntKind.i64 ((↑(List.length a0) : Int) + (1 : Int)) <
 IntKind.wrap IntKind.i64 (r.fst + (1 : Int)) then
 IntKind.wrap IntKind.i64 ((↑(List.length a0) : Int) + (1 : Int))
 else IntKind.wrap IntKind.i64 (r.fst + (1 : Int))))
 (nilOf UInt8),
 ()))
 fun (s : (List UInt8 × Unit × Int × Unit) × List (List UInt8) × Unit) =>
 if (0 : Int) ≤ s.fst.snd.snd.fst ∧ s.fst.snd.snd.fst < (↑(List.length s.snd.fst) : Int) then
 if Int.toNat s.fst.snd.snd.fst < List.length s.snd.fst then
 if
 (0 : Int) ≤ (0 : Int) ∧
 (0 : Int) ≤ IntKind.wrap IntKind.i64 (s.fst.snd.snd.fst + (1 : Int)) ∧
 IntKind.wrap IntKind.i64 (s.fst.snd.snd.fst + (1 : Int)) ≤
 (↑(List.length (List.set s.snd.fst (Int.toNat s.fst.snd.snd.fst) s.fst.fst)) : Int) then
 some
 (List.drop (Int.toNat (0 : Int))
 (List.take (Int.toNat (IntKind.wrap IntKind.i64 (s.fst.snd.snd.fst + (1 : Int))))
 (List.set s.snd.fst (Int.toNat s.fst.snd.snd.fst) s.fst.fst)),
 ())
 else none
 else none
 else none
 else none
-- strings.Split
def m_strings_Split (a0 : List UInt8) : Option (List (List UInt8) × Unit) :=
 Option.bind (m_strings_genSplit a0) fun (r : List (List UInt8) × Unit) => some r
-- impl.within
def m_impl_within (a0 : Int) (a1 : Int) (a2 : Int) : Option (Bool × Unit) :=
 Option.bind (bif decide (a0 ≥ a1) then some ((decide (a0 ≤ a2), ()), ()) else some ((false, ()), ()))
 fun (s : (Bool × PUnit) × PUnit) => some (s.fst.fst, ())
-- impl.NameOk
def m_impl_NameOk (a0 : List UInt8) : Option (Bool × Unit) :=
 joinC
 (loopC (List.length a0 + Int.toNat (↑(List.length a0) : Int) + Int.toNat (0 : Int) + (300 : Nat))
 (fun (s : (List UInt8 × Int × Int × Unit) × Unit)
 (k : (List UInt8 × Int × Int × Unit) × Unit → Option ((List UInt8 × Unit) × Unit ⊕ Bool × Unit)) =>
 bif decide (s.fst.snd.snd.fst < s.fst.snd.fst) then
 if (0 : Int) ≤ s.fst.snd.snd.fst ∧ s.fst.snd.snd.fst < (↑(List.length s.fst.fst) : Int) then
 Option.bind
 (bif
 decide
 ((↑(UInt8.toNat (List.getD s.fst.fst (Int.toNat s.fst.snd.snd.fst) (0 : UInt8))) : Int) ≥
 (97 : Int)) then
 bif
 decide
 ((↑(UInt8.toNat (List.getD s.fst.fst (Int.toNat s.fst.snd.snd.fst) (0 : UInt8))) : Int) ≤
 (122 : Int)) then
 some ((s.fst.fst, s.fst.snd.fst, s.fst.snd.snd.fst, !true, ()), ())
 else
 bif
 decide
 ((↑(UInt8.toNat (List.getD s.fst.fst (Int.toNat s.fst.snd.snd.fst) (0 : UInt8))) : Int) ≥
 (65 : Int)) then
 bif
 decide
 ((↑(UInt8.toNat (List.getD s.fst.fst (Int.toNat s.fst.snd.snd.fst) (0 : UInt8))) : Int) ≤
 (90 : Int)) then
 some ((s.fst.fst, s.fst.snd.fst, s.fst.snd.snd.fst, !true, ()), ())
 else
 bif
 decide
 ((↑(UInt8.toNat (List.getD s.fst.fst (Int.toNat s.fst.snd.snd.fst) (0 : UInt8))) : Int) ≥
 (48 : Int)) then
 bif
 decide
 ((↑(UInt8.toNat (List.getD s.fst.fst (Int.toNat s.fst.snd.snd.fst) (0 : UInt8))) : Int) ≤
 (57 : Int)) then
 some ((s.fst.fst, s.fst.snd.fst, s.fst.snd.snd.fst, !true, ()), ())
 else
 bif
 (↑(UInt8.toNat (List.getD s.fst.fst (Int.toNat s.fst.snd.snd.fst) (0 : UInt8))) : Int) ==
 (46 : Int) then
 some ((s.fst.fst, s.fst.snd.fst, s.fst.snd.snd.fst, !true, ()), ())
 else
 bif
 (↑(UInt8.toNat (List.getD s.fst.fst (Int.toNat s.fst.snd.snd.fst) (0 : UInt8))) :
 Int) ==
 (95 : Int) then
 some ((s.fst.fst, s.fst.snd.fst, s.fst.snd.snd.fst, !true, ()), ())
 else
 some
 ((s.fst.fst, s.fst.snd.fst, s.fst.snd.snd.fst,
 !(↑(UInt8.toNat (List.getD s.fst.fst (Int.toNat s.fst.snd.snd.fst) (0 : UInt8))) :
 Int) ==
 (45 : Int),
 ()),
 ())
 else
 bif
 (↑(UInt8.toNat (List.getD s.fst.fst (Int.toNat s.fst.snd.snd.fst) (0 : UInt8))) : Int) ==
 (46 : Int) then
 some ((s.fst.fst, s.fst.snd.fst, s.fst.snd.snd.fst, !true, ()), ())
 else
 bif
 (↑(UInt8.toNat (List.getD s.fst.fst (Int.toNat s.fst.snd.snd.fst) (0 : UInt8))) : Int) ==
 (95 : Int) then
 some ((s.fst.fst, s.fst.snd.fst, s.fst.snd.snd.fst, !true, ()), ())
 else
 some
 ((s.fst.fst, s.fst.snd.fst, s.fst.snd.snd.fst,
 !(↑(UInt8.toNat (List.getD s.fst.fst (Int.toNat s.fst.snd.snd.fst) (0 : UInt8))) :
 Int) ==
 (45 : Int),
 ()),
 ())
 else
 bif
 decide
 ((↑(UInt8.toNat (List.getD s.fst.fst (Int.toNat s.fst.snd.snd.fst) (0 : UInt8))) : Int) ≥
 (48 : Int)) then
 bif
 decide
 ((↑(UInt8.toNat (List.getD s.fst.fst (Int.toNat s.fst.snd.snd.fst) (0 : UInt8))) : Int) ≤
 (57 : Int)) then
 some ((s.fst.fst, s.fst.snd.fst, s.fst.snd.snd.fst, !true, ()), ())
 else
 bif
 (↑(UInt8.toNat (List.getD s.fst.fst (Int.toNat s.fst.snd.snd.fst) (0 : UInt8))) : Int) ==
 (46 : Int) then
 some ((s.fst.fst, s.fst.snd.fst, s.fst.snd.snd.fst, !true, ()), ())
 else
 bif
 (↑(UInt8.toNat (List.getD s.fst.fst (Int.toNat s.fst.snd.snd.fst) (0 : UInt8))) : Int) ==
 (95 : Int) then
 some ((s.fst.fst, s.fst.snd.fst, s.fst.snd.snd.fst, !true, ()), ())
 else
 some
 ((s.fst.fst, s.fst.snd.fst, s.fst.snd.snd.fst,
 !(↑(UInt8.toNat (List.getD s.fst.fst (Int.toNat s.fst.snd.snd.fst) (0 : UInt8))) :
 Int) ==
 (45 : Int),
 ()),
 ())
 else
 bif
 (↑(UInt8.toNat (List.getD s.fst.fst (Int.toNat s.fst.snd.snd.fst) (0 : UInt8))) : Int) ==
 (46 : Int) then
 some ((s.fst.fst, s.fst.snd.fst, s.fst.snd.snd.fst, !true, ()), ())
 else
 bif
 (↑(UInt8.toNat (List.getD s.fst.fst (Int.toNat s.fst.snd.snd.fst) (0 : UInt8))) : Int) ==
 (95 : Int) then
 some ((s.fst.fst, s.fst.snd.fst, s.fst.snd.snd.fst, !true, ()), ())
 else
 some
 ((s.fst.fst, s.fst.snd.fst, s.fst.snd.snd.fst,
 !(↑(UInt8.toNat (List.getD s.fst.fst (Int.toNat s.fst.snd.snd.fst) (0 : UInt8))) :
 Int) ==
 (45 : Int),
 ()),
 ())
 else
 bif
 decide
 ((↑(UInt8.toNat (List.getD s.fst.fst (Int.toNat s.fst.snd.snd.fst) (0 : UInt8))) : Int) ≥
 (65 : Int)) then
 bif
 decide
 ((↑(UInt8.toNat (List.getD s.fst.fst (Int.toNat s.fst.snd.snd.fst) (0 : UInt8))) : Int) ≤
 (90 : Int)) then
 some ((s.fst.fst, s.fst.snd.fst, s.fst.snd.snd.fst, !true, ()), ())
 else
 bif
 decide
 ((↑(UInt8.toNat (List.getD s.fst.fst (Int.toNat s.fst.snd.snd.fst) (0 : UInt8))) : Int) ≥
 (48 : Int)) then
 bif
 decide
 ((↑(UInt8.toNat (List.getD s.fst.fst (Int.toNat s.fst.snd.snd.fst) (0 : UInt8))) : Int) ≤
 (57 : Int)) then
 some ((s.fst.fst, s.fst.snd.fst, s.fst.snd.snd.fst, !true, ()), ())
 else
 bif
 (↑(UInt8.toNat (List.getD s.fst.fst (Int.toNat s.fst.snd.snd.fst) (0 : UInt8))) : Int) ==
 (46 : Int) then
 some ((s.fst.fst, s.fst.snd.fst, s.fst.snd.snd.fst, !true, ()), ())
 else
 bif
 (↑(UInt8.toNat (List.getD s.fst.fst (Int.toNat s.fst.snd.snd.fst) (0 : UInt8))) : Int) ==
 (95 : Int) then
 some ((s.fst.fst, s.fst.snd.fst, s.fst.snd.snd.fst, !true, ()), ())
 else
 some
 ((s.fst.fst, s.fst.snd.fst, s.fst.snd.snd.fst,
 !(↑(UInt8.toNat (List.getD s.fst.fst (Int.toNat s.fst.snd.snd.fst) (0 : UInt8))) :
 Int) ==
 (45 : Int),
 ()),
 ())
 else
 bif
 (↑(UInt8.toNat (List.getD s.fst.fst (Int.toNat s.fst.snd.snd.fst) (0 : UInt8))) : Int) ==
 (46 : Int) then
 some ((s.fst.fst, s.fst.snd.fst, s.fst.snd.snd.fst, !true, ()), ())
 else
 bif
 (↑(UInt8.toNat (List.getD s.fst.fst (Int.toNat s.fst.snd.snd.fst) (0 : UInt8))) : Int) ==
 (95 : Int) then
 some ((s.fst.fst, s.fst.snd.fst, s.fst.snd.snd.fst, !true, ()), ())
 else
 some
 ((s.fst.fst, s.fst.snd.fst, s.fst.snd.snd.fst,
 !(↑(UInt8.toNat (List.getD s.fst.fst (Int.toNat s.fst.snd.snd.fst) (0 : UInt8))) :
 Int) ==
 (45 : Int),
 ()),
 ())
 else
 bif
 decide
 ((↑(UInt8.toNat (List.getD s.fst.fst (Int.toNat s.fst.snd.snd.fst) (0 : UInt8))) : Int) ≥
 (48 : Int)) then
 bif
 decide
 ((↑(UInt8.toNat (List.getD s.fst.fst (Int.toNat s.fst.snd.snd.fst) (0 : UInt8))) : Int) ≤
 (57 : Int)) then
 some ((s.fst.fst, s.fst.snd.fst, s.fst.snd.snd.fst, !true, ()), ())
 else
 bif
 (↑(UInt8.toNat (List.getD s.fst.fst (Int.toNat s.fst.snd.snd.fst) (0 : UInt8))) : Int) ==
 (46 : Int) then
 some ((s.fst.fst, s.fst.snd.fst, s.fst.snd.snd.fst, !true, ()), ())
 else
 bif
 (↑(UInt8.toNat (List.getD s.fst.fst (Int.toNat s.fst.snd.snd.fst) (0 : UInt8))) : Int) ==
 (95 : Int) then
 some ((s.fst.fst, s.fst.snd.fst, s.fst.snd.snd.fst, !true, ()), ())
 else
 some
 ((s.fst.fst, s.fst.snd.fst, s.fst.snd.snd.fst,
 !(↑(UInt8.toNat (List.getD s.fst.fst (Int.toNat s.fst.snd.snd.fst) (0 : UInt8))) :
 Int) ==
 (45 : Int),
 ()),
 ())
 else
 bif
 (↑(UInt8.toNat (List.getD s.fst.fst (Int.toNat s.fst.snd.snd.fst) (0 : UInt8))) : Int) ==
 (46 : Int) then
 some ((s.fst.fst, s.fst.snd.fst, s.fst.snd.snd.fst, !true, ()), ())
 else
 bif
 (↑(UInt8.toNat (List.getD s.fst.fst (Int.toNat s.fst.snd.snd.fst) (0 : UInt8))) : Int) ==
 (95 : Int) then
 some ((s.fst.fst, s.fst.snd.fst, s.fst.snd.snd.fst, !true, ()), ())
 else
 some
 ((s.fst.fst, s.fst.snd.fst, s.fst.snd.snd.fst,
 !(↑(UInt8.toNat (List.getD s.fst.fst (Int.toNat s.fst.snd.snd.fst) (0 : UInt8))) : Int) ==
 (45 : Int),
 ()),
 ()))
 fun (s : (List UInt8 × Int × Int × Bool × Unit) × Unit) =>
 bif s.fst.snd.snd.snd.fst then some (Sum.inr (false, ()))
 else k ((s.fst.fst, s.fst.snd.fst, IntKind.wrap IntKind.i64 (s.fst.snd.snd.fst + (1 : Int)), ()), ())
 else none
 else some (Sum.inl ((s.fst.fst, ()), ())))
 ((a0, (↑(List.length a0) : Int), (0 : Int), ()), ()))
 fun (s : (List UInt8 × Unit) × Unit) =>
 Option.bind
 (Option.bind (m_impl_within (↑(List.length s.fst.fst) : Int) (1 : Int) (20 : Int)) fun (r : Bool × Unit) =>
 bif r.fst then
 bif !s.fst.fst == [(46 : UInt8)] then some ((!s.fst.fst == [(46 : UInt8), (46 : UInt8)], ()), ())
 else some ((false, ()), ())
 else some ((false, ()), ()))
 fun (s : (Bool × Unit) × Unit) => some s.fst
-- impl.Names
def m_impl_Names (a0 : List UInt8) : Option (List (List UInt8) × Unit) :=
 bif decide ((↑(List.length a0) : Int) > (168 : Int)) then some (nilOf (List UInt8), ())
 else
 Option.bind (m_strings_Split a0) fun (r : List (List UInt8) × Unit) =>
 bif decide ((↑(List.length r.fst) : Int) > (8 : Int)) then some (nilOf (List UInt8), ())
 else
 joinC
 (loopC
 (List.length r.fst + List.length r.fst + Int.toNat (↑(List.length r.fst) : Int) + Int.toNat (0 : Int) +
 (300 : Nat))
 (fun (s : (List (List UInt8) × List (List UInt8) × Int × Int × Unit) × Unit)
 (k :
 (List (List UInt8) × List (List UInt8) × Int × Int × Unit) × Unit →
 Option ((List (List UInt8) × Unit) × Unit ⊕ List (List UInt8) × Unit)) =>
 bif decide (s.fst.snd.snd.snd.fst < s.fst.snd.snd.fst) then
 if (0 : Int) ≤ s.fst.snd.snd.snd.fst ∧ s.fst.snd.snd.snd.fst < (↑(List.length s.fst.snd.fst) : Int) then
 Option.bind (m_impl_NameOk (List.getD s.fst.snd.fst (Int.toNat s.fst.snd.snd.snd.fst) (nilOf UInt8)))
 fun (r : Bool × Unit) =>
 bif !r.fst then some (Sum.inr (nilOf (List UInt8), ()))
 else
 k
 ((s.fst.fst, s.fst.snd.fst, s.fst.snd.snd.fst,
 IntKind.wrap IntKind.i64 (s.fst.snd.snd.snd.fst + (1 : Int)), ()),
 ())
 else none
 else some (Sum.inl ((s.fst.fst, ()), ())))
 ((r.fst, r.fst, (↑(List.length r.fst) : Int), (0 : Int), ()), ()))
 fun (s : (List (List UInt8) × Unit) × Unit) => some s.fst
-- impl.PathOk
def m_impl_PathOk (a0 : List UInt8) : Option (Bool × Unit) :=
 Option.bind (m_impl_Names a0) fun (r : List (List UInt8) × Unit) =>
 some (decide ((↑(List.length r.fst) : Int) > (0 : Int)), ())
-- internal/stringslite.Index
def m_stringslite_Index_2 (a0 : List UInt8) : Option (Int × Unit) :=
 bif [(10 : UInt8)] == a0 then some ((0 : Int), ())
 else
 if (0 : Int) ≤ (0 : Int) ∧ (0 : Int) < (↑(List.length [(10 : UInt8)]) : Int) then
 Option.bind
 (m_stringslite_IndexByte a0 (↑(UInt8.toNat (List.getD [(10 : UInt8)] (Int.toNat (0 : Int)) (0 : UInt8))) : Int))
 fun (r : Int × Unit) => some r
 else none
-- strings.Index
def m_strings_Index_2 (a0 : List UInt8) : Option (Int × Unit) := Option.bind (m_stringslite_Index_2 a0) fun (r : Int × Unit) => some r
-- strings.Contains
def m_strings_Contains (a0 : List UInt8) : Option (Bool × Unit) :=
 Option.bind (m_strings_Index_2 a0) fun (r : Int × Unit) => some (decide (r.fst ≥ (0 : Int)), ())
-- impl.NodeOk
def m_impl_NodeOk (a0 : (List UInt8 × (Int × (Int × (Int × (List UInt8 × (List UInt8 × Int))))))) : Option (Bool × Unit) :=
 Option.bind
 (Option.bind (m_impl_PathOk a0.fst) fun (r : Bool × Unit) =>
 bif !r.fst then
 some
 (((), true, ()),
 (a0.fst, a0.snd.fst, a0.snd.snd.fst, a0.snd.snd.snd.fst, a0.snd.snd.snd.snd.fst, a0.snd.snd.snd.snd.snd.fst,
 a0.snd.snd.snd.snd.snd.snd, ()),
 ())
 else
 Option.bind (m_impl_within a0.snd.snd.fst (0 : Int) (511 : Int)) fun (r : Bool × Unit) =>
 bif !r.fst then
 some
 (((), true, ()),
 (a0.fst, a0.snd.fst, a0.snd.snd.fst, a0.snd.snd.snd.fst, a0.snd.snd.snd.snd.fst,
 a0.snd.snd.snd.snd.snd.fst, a0.snd.snd.snd.snd.snd.snd, ()),
 ())
 else
 Option.bind (m_impl_within a0.snd.snd.snd.fst (0 : Int) (1000000000 : Int)) fun (r : Bool × Unit) =>
 some
 (((), !r.fst, ()),
 (a0.fst, a0.snd.fst, a0.snd.snd.fst, a0.snd.snd.snd.fst, a0.snd.snd.snd.snd.fst,
 a0.snd.snd.snd.snd.snd.fst, a0.snd.snd.snd.snd.snd.snd, ()),
 ()))
 fun (s : (Unit × Bool × Unit) × (List UInt8 × Int × Int × Int × List UInt8 × List UInt8 × Int × Unit) × Unit) =>
 bif s.fst.snd.fst then some (false, ())
 else
 bif s.snd.fst.snd.fst == (0 : Int) then
 Option.bind
 (bif s.snd.fst.snd.snd.snd.snd.fst == nilOf UInt8 then
 bif s.snd.fst.snd.snd.snd.snd.snd.fst == nilOf UInt8 then
 some ((s.snd.fst.snd.snd.snd.snd.snd.snd.fst == (0 : Int), ()), ())
 else some ((false, ()), ())
 else some ((false, ()), ()))
 fun (s : (Bool × Unit) × Unit) => some s.fst
 else
 bif s.snd.fst.snd.fst == (1 : Int) then
 Option.bind
 (bif decide ((↑(List.length s.snd.fst.snd.snd.snd.snd.fst) : Int) ≤ (20000 : Int)) then
 bif s.snd.fst.snd.snd.snd.snd.snd.fst == nilOf UInt8 then
 Option.bind (m_impl_within s.snd.fst.snd.snd.snd.snd.snd.snd.fst (0 : Int) (200 : Int))
 fun (r : Bool × Unit) => some (r, ())
 else some ((false, ()), ())
 else some ((false, ()), ()))
 fun (s : (Bool × Unit) × Unit) => some s.fst
 else
 bif s.snd.fst.snd.fst == (2 : Int) then
 Option.bind
 (bif s.snd.fst.snd.snd.snd.snd.fst == nilOf UInt8 then
 bif s.snd.fst.snd.snd.fst == (0 : Int) then
 bif s.snd.fst.snd.snd.snd.snd.snd.snd.fst == (0 : Int) then
 Option.bind
 (m_impl_within (↑(List.length s.snd.fst.snd.snd.snd.snd.snd.fst) : Int) (1 : Int) (60 : Int))
 fun (r : Bool × Unit) =>
 bif r.fst then
 Option.bind (m_strings_Contains s.snd.fst.snd.snd.snd.snd.snd.fst) fun (r : Bool × Unit) =>
 some ((!r.fst, ()), ())
 else some ((false, ()), ())
 else some ((false, ()), ())
 else some ((false, ()), ())
 else some ((false, ()), ()))
 fun (s : (Bool × Unit) × Unit) => some s.fst
 else some (false, ())
-- strings.Join
def m_strings_Join (a0 : List (List UInt8)) (a1 : List UInt8) : Option (List UInt8 × Unit) := joinM a0 a1
-- impl.ParentOf
def m_impl_ParentOf (a0 : List UInt8) : Option (List UInt8 × Unit) :=
 Option.bind (m_impl_Names a0) fun (r : List (List UInt8) × Unit) =>
 bif (↑(List.length r.fst) : Int) == (0 : Int) then some (nilOf UInt8, ())
 else
 if
 (0 : Int) ≤ (0 : Int) ∧
 (0 : Int) ≤ IntKind.wrap IntKind.i64 ((↑(List.length r.fst) : Int) - (1 : Int)) ∧
 IntKind.wrap IntKind.i64 ((↑(List.length r.fst) : Int) - (1 : Int)) ≤ (↑(List.length r.fst) : Int) then
 Option.bind
 (m_strings_Join
 (List.drop (Int.toNat (0 : Int))
 (List.take (Int.toNat (IntKind.wrap IntKind.i64 ((↑(List.length r.fst) : Int) - (1 : Int)))) r.fst))
 [(47 : UInt8)])
 fun (r : List UInt8 × Unit) => some r
 else none
-- internal/bytealg.abigen_runtime_cmpstring
def m_bytealg_abigen_runtime_cmpstring (a0 a1 : List UInt8) : Option (Int × Unit) := some (Go.Lib.compareBytes a0 a1, ())
-- internal/bytealg.CompareString
def m_bytealg_CompareString (a0 : List UInt8) (a1 : List UInt8) : Option (Int × Unit) :=
 Option.bind (m_bytealg_abigen_runtime_cmpstring a0 a1) fun (r : Int × Unit) => some r
-- strings.Compare
def m_strings_Compare (a0 : List UInt8) (a1 : List UInt8) : Option (Int × Unit) :=
 Option.bind (m_bytealg_CompareString a0 a1) fun (r : Int × Unit) => some r
-- impl.place$1
def m_impl_place_1 (a0 : (List UInt8 × (Int × (Int × (Int × (List UInt8 × (List UInt8 × Int))))))) (a1 : List UInt8) : Option (Int × Unit) :=
 Option.bind (m_strings_Compare a0.fst a1) fun (r : Int × Unit) => some r
-- slices.BinarySearchFunc[[]impl.Node,impl.Node,string]
def m_slices_BinarySearchFunc_impl_Node_impl_Node_string (a0 : List (List UInt8 × (Int × (Int × (Int × (List UInt8 × (List UInt8 × Int))))))) (a1 : List UInt8) : Option ((Int × Bool × Unit) × Unit) :=
 Option.bind
 (loopC
 (List.length a0 + List.length a1 + Int.toNat (↑(List.length a0) : Int) + Int.toNat (0 : Int) +
 Int.toNat (↑(List.length a0) : Int) +
 (300 : Nat))
 (fun
 (s :
 (List (List UInt8 × Int × Int × Int × List UInt8 × List UInt8 × Int) ×
 List UInt8 × Unit × Int × Int × Int × Unit) ×
 Unit)
 (k :
 (List (List UInt8 × Int × Int × Int × List UInt8 × List UInt8 × Int) ×
 List UInt8 × Unit × Int × Int × Int × Unit) ×
 Unit →
 Option
 ((List (List UInt8 × Int × Int × Int × List UInt8 × List UInt8 × Int) ×
 List UInt8 × Unit × Int × Int × Unit) ×
 Unit)) =>
 bif decide (s.fst.snd.snd.snd.snd.fst < s.fst.snd.snd.snd.snd.snd.fst) then
 if (0 : Int) ≤ (1 : Int) then
 if
 (0 : Int) ≤
 IntKind.wrap IntKind.i64
 (Int.fdiv
 (IntKind.wrap IntKind.u64
 (IntKind.wrap IntKind.i64 (s.fst.snd.snd.snd.snd.fst + s.fst.snd.snd.snd.snd.snd.fst)))
 ((2 : Int) ^ min (Int.toNat (1 : Int)) (IntKind.bits IntKind.u64))) ∧
 IntKind.wrap IntKind.i64
 (Int.fdiv
 (IntKind.wrap IntKind.u64
 (IntKind.wrap IntKind.i64 (s.fst.snd.snd.snd.snd.fst + s.fst.snd.snd.snd.snd.snd.fst)))
 ((2 : Int) ^ min (Int.toNat (1 : Int)) (IntKind.bits IntKind.u64))) <
 (↑(List.length s.fst.fst) : Int) then
 Option.bind
 (m_impl_place_1
 (List.getD s.fst.fst
 (Int.toNat
 (IntKind.wrap IntKind.i64
 (Int.fdiv
 (IntKind.wrap IntKind.u64
 (IntKind.wrap IntKind.i64 (s.fst.snd.snd.snd.snd.fst + s.fst.snd.snd.snd.snd.snd.fst)))
 ((2 : Int) ^ min (Int.toNat (1 : Int)) (IntKind.bits IntKind.u64)))))
 (nilOf UInt8, Int.ofNat (nat_lit 0), Int.ofNat (nat_lit 0), Int.ofNat (nat_lit 0), nilOf UInt8,
 nilOf UInt8, Int.ofNat (nat_lit 0)))
 s.fst.snd.fst)
 fun (r : Int × Unit) =>
 Option.bind
 (bif decide (r.fst < (0 : Int)) then
 some
 ((s.fst.fst, s.fst.snd.fst, (), s.fst.snd.snd.snd.fst,
 IntKind.wrap IntKind.i64
 (IntKind.wrap IntKind.i64
 (Int.fdiv
 (IntKind.wrap IntKind.u64
 (IntKind.wrap IntKind.i64
 (s.fst.snd.snd.snd.snd.fst + s.fst.snd.snd.snd.snd.snd.fst)))
 ((2 : Int) ^ min (Int.toNat (1 : Int)) (IntKind.bits IntKind.u64))) +
 (1 : Int)),
 s.fst.snd.snd.snd.snd.snd),
 ())
 else
 some
 ((s.fst.fst, s.fst.snd.fst, (), s.fst.snd.snd.snd.fst, s.fst.snd.snd.snd.snd.fst,
 IntKind.wrap IntKind.i64
 (Int.fdiv
 (IntKind.wrap IntKind.u64
 (IntKind.wrap IntKind.i64 (s.fst.snd.snd.snd.snd.fst + s.fst.snd.snd.snd.snd.snd.fst)))
 ((2 : Int) ^ min (Int.toNat (1 : Int)) (IntKind.bits IntKind.u64))),
 ()),
 ()))
 fun
 (s :
 (List (List UInt8 × Int × Int × Int × List UInt8 × List UInt8 × Int) ×
 List UInt8 × Unit × Int × Int × Int × Unit) ×
 Unit) =>
 k ((s.fst.fst, s.fst.snd.fst, (), s.fst.snd.snd.snd), ())
 else none
 else none
 else some ((s.fst.fst, s.fst.snd.fst, (), s.fst.snd.snd.snd.fst, s.fst.snd.snd.snd.snd.fst, ()), ()))
 ((a0, a1, (), (↑(List.length a0) : Int), (0 : Int), (↑(List.length a0) : Int), ()), ()))
 fun
 (s :
 (List (List UInt8 × Int × Int × Int × List UInt8 × List UInt8 × Int) × List UInt8 × Unit × Int × Int × Unit) ×
 Unit) =>
 Option.bind
 (bif decide (s.fst.snd.snd.snd.snd.fst < s.fst.snd.snd.snd.fst) then
 if (0 : Int) ≤ s.fst.snd.snd.snd.snd.fst ∧ s.fst.snd.snd.snd.snd.fst < (↑(List.length s.fst.fst) : Int) then
 Option.bind
 (m_impl_place_1
 (List.getD s.fst.fst (Int.toNat s.fst.snd.snd.snd.snd.fst)
 (nilOf UInt8, Int.ofNat (nat_lit 0), Int.ofNat (nat_lit 0), Int.ofNat (nat_lit 0), nilOf UInt8,
 nilOf UInt8, Int.ofNat (nat_lit 0)))
 s.fst.snd.fst)
 fun (r : Int × Unit) => some ((s.fst.snd.snd.snd.snd.fst, r.fst == (0 : Int), ()), ())
 else none
 else some ((s.fst.snd.snd.snd.snd.fst, false, ()), ()))
 fun (s : (Int × Bool × Unit) × Unit) => some s
-- impl.place
def m_impl_place (a0 : List (List UInt8 × (Int × (Int × (Int × (List UInt8 × (List UInt8 × Int))))))) (a1 : List UInt8) : Option ((Int × Bool × Unit) × Unit) :=
 Option.bind (m_slices_BinarySearchFunc_impl_Node_impl_Node_string a0 a1) fun (r : (Int × Bool × Unit) × Unit) =>
 some r
-- impl.isDirIn
def m_impl_isDirIn (a0 : List (List UInt8 × (Int × (Int × (Int × (List UInt8 × (List UInt8 × Int))))))) (a1 : List UInt8) : Option (Bool × Unit) :=
 Option.bind (m_impl_place a0 a1) fun (r : (Int × Bool × Unit) × Unit) =>
 Option.bind
 (bif a1 == nilOf UInt8 then some ((true, ()), ())
 else
 bif r.fst.snd.fst then
 if (0 : Int) ≤ r.fst.fst ∧ r.fst.fst < (↑(List.length a0) : Int) then
 some
 (((List.getD a0 (Int.toNat r.fst.fst)
 (nilOf UInt8, Int.ofNat (nat_lit 0), Int.ofNat (nat_lit 0), Int.ofNat (nat_lit 0),
 nilOf UInt8, nilOf UInt8, Int.ofNat (nat_lit 0))).snd.fst ==
 (0 : Int),
 ()),
 ())
 else none
 else some ((false, ()), ()))
 fun (s : (Bool × Unit) × Unit) => some s.fst
-- impl.isAlike
def m_impl_isAlike (a0 : (List UInt8 × (Int × (Int × (Int × (List UInt8 × (List UInt8 × Int))))))) (a1 : (List UInt8 × (Int × (Int × (Int × (List UInt8 × (List UInt8 × Int))))))) : Option (Bool × Unit) :=
 Option.bind
 (bif a0.snd.snd.fst == a1.snd.snd.fst then
 bif a0.snd.snd.snd.fst == a1.snd.snd.snd.fst then
 some ((a0.snd.snd.snd.snd.fst == a1.snd.snd.snd.snd.fst, ()), ())
 else some ((false, ()), ())
 else some ((false, ()), ()))
 fun (s : (Bool × Unit) × Unit) => some s.fst
-- impl.areSmall
def m_impl_areSmall (a0 : List (List UInt8 × (Int × (Int × (Int × (List UInt8 × (List UInt8 × Int))))))) : Option (Bool × Unit) :=
 Option.bind
 (loopC
 (List.length a0 + Int.toNat (0 : Int) + List.length a0 + Int.toNat (↑(List.length a0) : Int) +
 Int.toNat (0 : Int) +
 (300 : Nat))
 (fun
 (s :
 (List (List UInt8 × Int × Int × Int × List UInt8 × List UInt8 × Int) ×
 Int × List (List UInt8 × Int × Int × Int × List UInt8 × List UInt8 × Int) × Int × Int × Unit) ×
 Unit)
 (k :
 (List (List UInt8 × Int × Int × Int × List UInt8 × List UInt8 × Int) ×
 Int × List (List UInt8 × Int × Int × Int × List UInt8 × List UInt8 × Int) × Int × Int × Unit) ×
 Unit →
 Option ((List (List UInt8 × Int × Int × Int × List UInt8 × List UInt8 × Int) × Int × Unit) × Unit)) =>
 bif decide (s.fst.snd.snd.snd.snd.fst < s.fst.snd.snd.snd.fst) then
 if
 (0 : Int) ≤ s.fst.snd.snd.snd.snd.fst ∧
 s.fst.snd.snd.snd.snd.fst < (↑(List.length s.fst.snd.snd.fst) : Int) then
 k
 ((s.fst.fst,
 IntKind.wrap IntKind.i64
 (s.fst.snd.fst +
 (↑(List.length
 (List.getD s.fst.snd.snd.fst (Int.toNat s.fst.snd.snd.snd.snd.fst)
 (nilOf UInt8, Int.ofNat (nat_lit 0), Int.ofNat (nat_lit 0),
 Int.ofNat (nat_lit 0), nilOf UInt8, nilOf UInt8,
 Int.ofNat (nat_lit 0))).snd.snd.snd.snd.fst) :
 Int)),
 s.fst.snd.snd.fst, s.fst.snd.snd.snd.fst,
 IntKind.wrap IntKind.i64 (s.fst.snd.snd.snd.snd.fst + (1 : Int)), ()),
 ())
 else none
 else some ((s.fst.fst, s.fst.snd.fst, ()), ()))
 ((a0, (0 : Int), a0, (↑(List.length a0) : Int), (0 : Int), ()), ()))
 fun (s : (List (List UInt8 × Int × Int × Int × List UInt8 × List UInt8 × Int) × Int × Unit) × Unit) =>
 Option.bind
 (bif decide ((↑(List.length s.fst.fst) : Int) ≤ (200 : Int)) then
 some ((decide (s.fst.snd.fst ≤ (20000 : Int)), ()), ())
 else some ((false, ()), ()))
 fun (s : (Bool × Unit) × Unit) => some s.fst
-- impl.TreeOk
def m_impl_TreeOk (a0 : List (List UInt8 × (Int × (Int × (Int × (List UInt8 × (List UInt8 × Int))))))) : Option (Bool × Unit) :=
 bif decide ((↑(List.length a0) : Int) > (200 : Int)) then some (false, ())
 else
 joinC
 (loopC
 (List.length a0 + List.length a0 + Int.toNat (↑(List.length a0) : Int) + Int.toNat (0 : Int) +
 List.length (nilOf (Int × List UInt8 × Int × Int × Int × List UInt8 × List UInt8 × Int)) +
 List.length (nilOf (Int × Int)) +
 (300 : Nat))
 (fun
 (s :
 (List (List UInt8 × Int × Int × Int × List UInt8 × List UInt8 × Int) ×
 Unit ×
 Unit × List (List UInt8 × Int × Int × Int × List UInt8 × List UInt8 × Int) × Int × Int × Unit) ×
 List (Int × List UInt8 × Int × Int × Int × List UInt8 × List UInt8 × Int) × List (Int × Int) × Unit)
 (k :
 (List (List UInt8 × Int × Int × Int × List UInt8 × List UInt8 × Int) ×
 Unit ×
 Unit × List (List UInt8 × Int × Int × Int × List UInt8 × List UInt8 × Int) × Int × Int × Unit) ×
 List (Int × List UInt8 × Int × Int × Int × List UInt8 × List UInt8 × Int) × List (Int × Int) × Unit →
 Option
 ((List (List UInt8 × Int × Int × Int × List UInt8 × List UInt8 × Int) × Unit × Unit) ×
 List (Int × Int) × Unit ⊕
 Bool × Unit)) =>
 bif decide (s.fst.snd.snd.snd.snd.snd.fst < s.fst.snd.snd.snd.snd.fst) then
 joinC
 (if
 (0 : Int) ≤ s.fst.snd.snd.snd.snd.snd.fst ∧
 s.fst.snd.snd.snd.snd.snd.fst < (↑(List.length s.fst.snd.snd.snd.fst) : Int) then
 Option.bind
 (Option.bind
 (m_impl_NodeOk
 (List.getD s.fst.snd.snd.snd.fst (Int.toNat s.fst.snd.snd.snd.snd.snd.fst)
 (nilOf UInt8, Int.ofNat (nat_lit 0), Int.ofNat (nat_lit 0), Int.ofNat (nat_lit 0), nilOf UInt8,
 nilOf UInt8, Int.ofNat (nat_lit 0))))
 fun (r : Bool × Unit) =>
 bif !r.fst then
 some
 ((s.fst.fst, (), (), (), s.fst.snd.snd.snd.fst, s.fst.snd.snd.snd.snd.fst,
 s.fst.snd.snd.snd.snd.snd.fst, true, ()),
 s.snd.fst, s.snd.snd.fst,
 ((List.getD s.fst.snd.snd.snd.fst (Int.toNat s.fst.snd.snd.snd.snd.snd.fst)
 (nilOf UInt8, Int.ofNat (nat_lit 0), Int.ofNat (nat_lit 0), Int.ofNat (nat_lit 0),
 nilOf UInt8, nilOf UInt8, Int.ofNat (nat_lit 0))).fst,
 (List.getD s.fst.snd.snd.snd.fst (Int.toNat s.fst.snd.snd.snd.snd.snd.fst)
 (nilOf UInt8, Int.ofNat (nat_lit 0), Int.ofNat (nat_lit 0), Int.ofNat (nat_lit 0),
 nilOf UInt8, nilOf UInt8, Int.ofNat (nat_lit 0))).snd.fst,
 (List.getD s.fst.snd.snd.snd.fst (Int.toNat s.fst.snd.snd.snd.snd.snd.fst)
 (nilOf UInt8, Int.ofNat (nat_lit 0), Int.ofNat (nat_lit 0), Int.ofNat (nat_lit 0),
 nilOf UInt8, nilOf UInt8, Int.ofNat (nat_lit 0))).snd.snd.fst,
 (List.getD s.fst.snd.snd.snd.fst (Int.toNat s.fst.snd.snd.snd.snd.snd.fst)
 (nilOf UInt8, Int.ofNat (nat_lit 0), Int.ofNat (nat_lit 0), Int.ofNat (nat_lit 0),
 nilOf UInt8, nilOf UInt8, Int.ofNat (nat_lit 0))).snd.snd.snd.fst,
 (List.getD s.fst.snd.snd.snd.fst (Int.toNat s.fst.snd.snd.snd.snd.snd.fst)
 (nilOf UInt8, Int.ofNat (nat_lit 0), Int.ofNat (nat_lit 0),
 Int.ofNat (nat_lit 0), nilOf UInt8, nilOf UInt8,
 Int.ofNat (nat_lit 0))).snd.snd.snd.snd.fst,
 (List.getD s.fst.snd.snd.snd.fst (Int.toNat s.fst.snd.snd.snd.snd.snd.fst)
 (nilOf UInt8, Int.ofNat (nat_lit 0), Int.ofNat (nat_lit 0),
 Int.ofNat (nat_lit 0), nilOf UInt8, nilOf UInt8,
 Int.ofNat (nat_lit 0))).snd.snd.snd.snd.snd.fst,
 (List.getD s.fst.snd.snd.snd.fst (Int.toNat s.fst.snd.snd.snd.snd.snd.fst)
 (nilOf UInt8, Int.ofNat (nat_lit 0), Int.ofNat (nat_lit 0),
 Int.ofNat (nat_lit 0), nilOf UInt8, nilOf UInt8,
 Int.ofNat (nat_lit 0))).snd.snd.snd.snd.snd.snd,
 ()),
 ())
 else
 bif decide (s.fst.snd.snd.snd.snd.snd.fst > (0 : Int)) then
 if
 (0 : Int) ≤ IntKind.wrap IntKind.i64 (s.fst.snd.snd.snd.snd.snd.fst - (1 : Int)) ∧
 IntKind.wrap IntKind.i64 (s.fst.snd.snd.snd.snd.snd.fst - (1 : Int)) <
 (↑(List.length s.fst.fst) : Int) then
 bif
 !Op.bytesLess
 (List.getD s.fst.fst
 (Int.toNat (IntKind.wrap IntKind.i64 (s.fst.snd.snd.snd.snd.snd.fst - (1 : Int))))
 (nilOf UInt8, Int.ofNat (nat_lit 0), Int.ofNat (nat_lit 0), Int.ofNat (nat_lit 0),
 nilOf UInt8, nilOf UInt8, Int.ofNat (nat_lit 0))).fst
 (List.getD s.fst.snd.snd.snd.fst (Int.toNat s.fst.snd.snd.snd.snd.snd.fst)
 (nilOf UInt8, Int.ofNat (nat_lit 0), Int.ofNat (nat_lit 0), Int.ofNat (nat_lit 0),
 nilOf UInt8, nilOf UInt8, Int.ofNat (nat_lit 0))).fst then
 some
 ((s.fst.fst, (), (), (), s.fst.snd.snd.snd.fst, s.fst.snd.snd.snd.snd.fst,
 s.fst.snd.snd.snd.snd.snd.fst, true, ()),
 s.snd.fst, s.snd.snd.fst,
 ((List.getD s.fst.snd.snd.snd.fst (Int.toNat s.fst.snd.snd.snd.snd.snd.fst)
 (nilOf UInt8, Int.ofNat (nat_lit 0), Int.ofNat (nat_lit 0), Int.ofNat (nat_lit 0),
 nilOf UInt8, nilOf UInt8, Int.ofNat (nat_lit 0))).fst,
 (List.getD s.fst.snd.snd.snd.fst (Int.toNat s.fst.snd.snd.snd.snd.snd.fst)
 (nilOf UInt8, Int.ofNat (nat_lit 0), Int.ofNat (nat_lit 0),
 Int.ofNat (nat_lit 0), nilOf UInt8, nilOf UInt8,
 Int.ofNat (nat_lit 0))).snd.fst,
 (List.getD s.fst.snd.snd.snd.fst (Int.toNat s.fst.snd.snd.snd.snd.snd.fst)
 (nilOf UInt8, Int.ofNat (nat_lit 0), Int.ofNat (nat_lit 0),
 Int.ofNat (nat_lit 0), nilOf UInt8, nilOf UInt8,
 Int.ofNat (nat_lit 0))).snd.snd.fst,
 (List.getD s.fst.snd.snd.snd.fst (Int.toNat s.fst.snd.snd.snd.snd.snd.fst)
 (nilOf UInt8, Int.ofNat (nat_lit 0), Int.ofNat (nat_lit 0),
 Int.ofNat (nat_lit 0), nilOf UInt8, nilOf UInt8,
 Int.ofNat (nat_lit 0))).snd.snd.snd.fst,
 (List.getD s.fst.snd.snd.snd.fst (Int.toNat s.fst.snd.snd.snd.snd.snd.fst)
 (nilOf UInt8, Int.ofNat (nat_lit 0), Int.ofNat (nat_lit 0),
 Int.ofNat (nat_lit 0), nilOf UInt8, nilOf UInt8,
 Int.ofNat (nat_lit 0))).snd.snd.snd.snd.fst,
 (List.getD s.fst.snd.snd.snd.fst (Int.toNat s.fst.snd.snd.snd.snd.snd.fst)
 (nilOf UInt8, Int.ofNat (nat_lit 0), Int.ofNat (nat_lit 0),
 Int.ofNat (nat_lit 0), nilOf UInt8, nilOf UInt8,
 Int.ofNat (nat_lit 0))).snd.snd.snd.snd.snd.fst,
 (List.getD s.fst.snd.snd.snd.fst (Int.toNat s.fst.snd.snd.snd.snd.snd.fst)
 (nilOf UInt8, Int.ofNat (nat_lit 0), Int.ofNat (nat_lit 0),
 Int.ofNat (nat_lit 0), nilOf UInt8, nilOf UInt8,
 Int.ofNat (nat_lit 0))).snd.snd.snd.snd.snd.snd,
 ()),
 ())
 else
 if
 (0 : Int) ≤ (0 : Int) ∧
 (0 : Int) ≤ s.fst.snd.snd.snd.snd.snd.fst ∧
 s.fst.snd.snd.snd.snd.snd.fst ≤ (↑(List.length s.fst.fst) : Int) then
 Option.bind
 (m_impl_ParentOf
 (List.getD s.fst.snd.snd.snd.fst (Int.toNat s.fst.snd.snd.snd.snd.snd.fst)
 (nilOf UInt8, Int.ofNat (nat_lit 0), Int.ofNat (nat_lit 0), Int.ofNat (nat_lit 0),
 nilOf UInt8, nilOf UInt8, Int.ofNat (nat_lit 0))).fst)
 fun (r : List UInt8 × Unit) =>
 Option.bind
 (m_impl_isDirIn
 (List.drop (Int.toNat (0 : Int))
 (List.take (Int.toNat s.fst.snd.snd.snd.snd.snd.fst) s.fst.fst))
 r.fst)
 fun (r : Bool × Unit) =>
 some
 ((s.fst.fst, (), (), (), s.fst.snd.snd.snd.fst, s.fst.snd.snd.snd.snd.fst,
 s.fst.snd.snd.snd.snd.snd.fst, !r.fst, ()),
 s.snd.fst, s.snd.snd.fst,
 ((List.getD s.fst.snd.snd.snd.fst (Int.toNat s.fst.snd.snd.snd.snd.snd.fst)
 (nilOf UInt8, Int.ofNat (nat_lit 0), Int.ofNat (nat_lit 0),
 Int.ofNat (nat_lit 0), nilOf UInt8, nilOf UInt8,
 Int.ofNat (nat_lit 0))).fst,
 (List.getD s.fst.snd.snd.snd.fst (Int.toNat s.fst.snd.snd.snd.snd.snd.fst)
 (nilOf UInt8, Int.ofNat (nat_lit 0), Int.ofNat (nat_lit 0),
 Int.ofNat (nat_lit 0), nilOf UInt8, nilOf UInt8,
 Int.ofNat (nat_lit 0))).snd.fst,
 (List.getD s.fst.snd.snd.snd.fst (Int.toNat s.fst.snd.snd.snd.snd.snd.fst)
 (nilOf UInt8, Int.ofNat (nat_lit 0), Int.ofNat (nat_lit 0),
 Int.ofNat (nat_lit 0), nilOf UInt8, nilOf UInt8,
 Int.ofNat (nat_lit 0))).snd.snd.fst,
 (List.getD s.fst.snd.snd.snd.fst (Int.toNat s.fst.snd.snd.snd.snd.snd.fst)
 (nilOf UInt8, Int.ofNat (nat_lit 0), Int.ofNat (nat_lit 0),
 Int.ofNat (nat_lit 0), nilOf UInt8, nilOf UInt8,
 Int.ofNat (nat_lit 0))).snd.snd.snd.fst,
 (List.getD s.fst.snd.snd.snd.fst (Int.toNat s.fst.snd.snd.snd.snd.snd.fst)
 (nilOf UInt8, Int.ofNat (nat_lit 0), Int.ofNat (nat_lit 0),
 Int.ofNat (nat_lit 0), nilOf UInt8, nilOf UInt8,
 Int.ofNat (nat_lit 0))).snd.snd.snd.snd.fst,
 (List.getD s.fst.snd.snd.snd.fst (Int.toNat s.fst.snd.snd.snd.snd.snd.fst)
 (nilOf UInt8, Int.ofNat (nat_lit 0), Int.ofNat (nat_lit 0),
 Int.ofNat (nat_lit 0), nilOf UInt8, nilOf UInt8,
 Int.ofNat (nat_lit 0))).snd.snd.snd.snd.snd.fst,
 (List.getD s.fst.snd.snd.snd.fst (Int.toNat s.fst.snd.snd.snd.snd.snd.fst)
 (nilOf UInt8, Int.ofNat (nat_lit 0), Int.ofNat (nat_lit 0),
 Int.ofNat (nat_lit 0), nilOf UInt8, nilOf UInt8,
 Int.ofNat (nat_lit 0))).snd.snd.snd.snd.snd.snd,
 ()),
 ())
 else none
 else none
 else
 if
 (0 : Int) ≤ (0 : Int) ∧
 (0 : Int) ≤ s.fst.snd.snd.snd.snd.snd.fst ∧
 s.fst.snd.snd.snd.snd.snd.fst ≤ (↑(List.length s.fst.fst) : Int) then
 Option.bind
 (m_impl_ParentOf
 (List.getD s.fst.snd.snd.snd.fst (Int.toNat s.fst.snd.snd.snd.snd.snd.fst)
 (nilOf UInt8, Int.ofNat (nat_lit 0), Int.ofNat (nat_lit 0), Int.ofNat (nat_lit 0),
 nilOf UInt8, nilOf UInt8, Int.ofNat (nat_lit 0))).fst)
 fun (r : List UInt8 × Unit) =>
 Option.bind
 (m_impl_isDirIn
 (List.drop (Int.toNat (0 : Int))
 (List.take (Int.toNat s.fst.snd.snd.snd.snd.snd.fst) s.fst.fst))
 r.fst)
 fun (r : Bool × Unit) =>
 some
 ((s.fst.fst, (), (), (), s.fst.snd.snd.snd.fst, s.fst.snd.snd.snd.snd.fst,
 s.fst.snd.snd.snd.snd.snd.fst, !r.fst, ()),
 s.snd.fst, s.snd.snd.fst,
 ((List.getD s.fst.snd.snd.snd.fst (Int.toNat s.fst.snd.snd.snd.snd.snd.fst)
 (nilOf UInt8, Int.ofNat (nat_lit 0), Int.ofNat (nat_lit 0),
 Int.ofNat (nat_lit 0), nilOf UInt8, nilOf UInt8, Int.ofNat (nat_lit 0))).fst,
 (List.getD s.fst.snd.snd.snd.fst (Int.toNat s.fst.snd.snd.snd.snd.snd.fst)
 (nilOf UInt8, Int.ofNat (nat_lit 0), Int.ofNat (nat_lit 0),
 Int.ofNat (nat_lit 0), nilOf UInt8, nilOf UInt8,
 Int.ofNat (nat_lit 0))).snd.fst,
 (List.getD s.fst.snd.snd.snd.fst (Int.toNat s.fst.snd.snd.snd.snd.snd.fst)
 (nilOf UInt8, Int.ofNat (nat_lit 0), Int.ofNat (nat_lit 0),
 Int.ofNat (nat_lit 0), nilOf UInt8, nilOf UInt8,
 Int.ofNat (nat_lit 0))).snd.snd.fst,
 (List.getD s.fst.snd.snd.snd.fst (Int.toNat s.fst.snd.snd.snd.snd.snd.fst)
 (nilOf UInt8, Int.ofNat (nat_lit 0), Int.ofNat (nat_lit 0),
 Int.ofNat (nat_lit 0), nilOf UInt8, nilOf UInt8,
 Int.ofNat (nat_lit 0))).snd.snd.snd.fst,
 (List.getD s.fst.snd.snd.snd.fst (Int.toNat s.fst.snd.snd.snd.snd.snd.fst)
 (nilOf UInt8, Int.ofNat (nat_lit 0), Int.ofNat (nat_lit 0),
 Int.ofNat (nat_lit 0), nilOf UInt8, nilOf UInt8,
 Int.ofNat (nat_lit 0))).snd.snd.snd.snd.fst,
 (List.getD s.fst.snd.snd.snd.fst (Int.toNat s.fst.snd.snd.snd.snd.snd.fst)
 (nilOf UInt8, Int.ofNat (nat_lit 0), Int.ofNat (nat_lit 0),
 Int.ofNat (nat_lit 0), nilOf UInt8, nilOf UInt8,
 Int.ofNat (nat_lit 0))).snd.snd.snd.snd.snd.fst,
 (List.getD s.fst.snd.snd.snd.fst (Int.toNat s.fst.snd.snd.snd.snd.snd.fst)
 (nilOf UInt8, Int.ofNat (nat_lit 0), Int.ofNat (nat_lit 0),
 Int.ofNat (nat_lit 0), nilOf UInt8, nilOf UInt8,
 Int.ofNat (nat_lit 0))).snd.snd.snd.snd.snd.snd,
 ()),
 ())
 else none)
 fun
 (s :
 (List (List UInt8 × Int × Int × Int × List UInt8 × List UInt8 × Int) ×
 Unit ×
 Unit ×
 Unit ×
 List (List UInt8 × Int × Int × Int × List UInt8 × List UInt8 × Int) ×
 Int × Int × Bool × Unit) ×
 List (Int × List UInt8 × Int × Int × Int × List UInt8 × List UInt8 × Int) ×
 List (Int × Int) ×
 (List UInt8 × Int × Int × Int × List UInt8 × List UInt8 × Int × Unit) × Unit) =>
 bif s.fst.snd.snd.snd.snd.snd.snd.snd.fst then some (Sum.inr (Sum.inr (false, ())))
 else
 bif s.snd.snd.snd.fst.snd.snd.snd.snd.snd.snd.fst == (0 : Int) then
 some
 (Sum.inl
 ((s.fst.fst, (), (), s.fst.snd.snd.snd.snd.fst, s.fst.snd.snd.snd.snd.snd.fst,
 s.fst.snd.snd.snd.snd.snd.snd.fst, ()),
 s.snd.fst, s.snd.snd.fst, ()))
 else
 Option.bind
 (bif
 Option.isSome
 (mget (Ty.int IntKind.i64) s.snd.snd.snd.fst.snd.snd.snd.snd.snd.snd.fst s.snd.fst) then
 Option.bind
 (m_impl_isAlike
 (Option.getD
 (mget (Ty.int IntKind.i64) s.snd.snd.snd.fst.snd.snd.snd.snd.snd.snd.fst s.snd.fst)
 (nilOf UInt8, Int.ofNat (nat_lit 0), Int.ofNat (nat_lit 0), Int.ofNat (nat_lit 0),
 nilOf UInt8, nilOf UInt8, Int.ofNat (nat_lit 0)))
 (s.snd.snd.snd.fst.fst, s.snd.snd.snd.fst.snd.fst, s.snd.snd.snd.fst.snd.snd.fst,
 s.snd.snd.snd.fst.snd.snd.snd.fst, s.snd.snd.snd.fst.snd.snd.snd.snd.fst,
 s.snd.snd.snd.fst.snd.snd.snd.snd.snd.fst,
 s.snd.snd.snd.fst.snd.snd.snd.snd.snd.snd.fst))
 fun (r : Bool × Unit) =>
 some
 ((s.fst.fst, (), (), (), s.fst.snd.snd.snd.snd.fst, s.fst.snd.snd.snd.snd.snd.fst,
 s.fst.snd.snd.snd.snd.snd.snd.fst, !r.fst, ()),
 s.snd)
 else
 some
 ((s.fst.fst, (), (), (), s.fst.snd.snd.snd.snd.fst, s.fst.snd.snd.snd.snd.snd.fst,
 s.fst.snd.snd.snd.snd.snd.snd.fst, false, ()),
 s.snd))
 fun
 (s :
 (List (List UInt8 × Int × Int × Int × List UInt8 × List UInt8 × Int) ×
 Unit ×
 Unit ×
 Unit ×
 List (List UInt8 × Int × Int × Int × List UInt8 × List UInt8 × Int) ×
 Int × Int × Bool × Unit) ×
 List (Int × List UInt8 × Int × Int × Int × List UInt8 × List UInt8 × Int) ×
 List (Int × Int) ×
 (List UInt8 × Int × Int × Int × List UInt8 × List UInt8 × Int × Unit) × Unit) =>
 bif s.fst.snd.snd.snd.snd.snd.snd.snd.fst then some (Sum.inr (Sum.inr (false, ())))
 else
 some
 (Sum.inl
 ((s.fst.fst, (), (), s.fst.snd.snd.snd.snd.fst, s.fst.snd.snd.snd.snd.snd.fst,
 s.fst.snd.snd.snd.snd.snd.snd.fst, ()),
 mset (Ty.int IntKind.i64) s.snd.snd.snd.fst.snd.snd.snd.snd.snd.snd.fst
 (s.snd.snd.snd.fst.fst, s.snd.snd.snd.fst.snd.fst, s.snd.snd.snd.fst.snd.snd.fst,
 s.snd.snd.snd.fst.snd.snd.snd.fst, s.snd.snd.snd.fst.snd.snd.snd.snd.fst,
 s.snd.snd.snd.fst.snd.snd.snd.snd.snd.fst,
 s.snd.snd.snd.fst.snd.snd.snd.snd.snd.snd.fst)
 s.snd.fst,
 mset (Ty.int IntKind.i64) s.snd.snd.snd.fst.snd.snd.snd.snd.snd.snd.fst
 (IntKind.wrap IntKind.i64
 (Option.getD
 (mget (Ty.int IntKind.i64) s.snd.snd.snd.fst.snd.snd.snd.snd.snd.snd.fst
 s.snd.snd.fst)
 (Int.ofNat (nat_lit 0)) +
 (1 : Int)))
 s.snd.snd.fst,
 ()))
 else none)
 fun
 (s :
 (List (List UInt8 × Int × Int × Int × List UInt8 × List UInt8 × Int) ×
 Unit ×
 Unit ×
 List (List UInt8 × Int × Int × Int × List UInt8 × List UInt8 × Int) × Int × Int × Unit) ×
 List (Int × List UInt8 × Int × Int × Int × List UInt8 × List UInt8 × Int) ×
 List (Int × Int) × Unit) =>
 k
 ((s.fst.fst, (), (), s.fst.snd.snd.snd.fst, s.fst.snd.snd.snd.snd.fst,
 IntKind.wrap IntKind.i64 (s.fst.snd.snd.snd.snd.snd.fst + (1 : Int)), ()),
 s.snd)
 else some (Sum.inl ((s.fst.fst, (), ()), s.snd.snd)))
 ((a0, (), (), a0, (↑(List.length a0) : Int), (0 : Int), ()),
 nilOf (Int × List UInt8 × Int × Int × Int × List UInt8 × List UInt8 × Int), nilOf (Int × Int), ()))
 fun
 (s :
 (List (List UInt8 × Int × Int × Int × List UInt8 × List UInt8 × Int) × Unit × Unit) ×
 List (Int × Int) × Unit) =>
 Option.bind (anyC (fun (p : Int × Int) => some (decide (p.snd < (2 : Int)))) s.snd.fst) fun (b : Bool) =>
 bif b then some (false, ()) else Option.bind (m_impl_areSmall s.fst.fst) fun (r : Bool × Unit) => some r
-- slices.Clone[[]impl.Node,impl.Node]
def m_slices_Clone_impl_Node_impl_Node (a0 : List (List UInt8 × (Int × (Int × (Int × (List UInt8 × (List UInt8 × Int))))))) : Option (Unit × List (List UInt8 × (Int × (Int × (Int × (List UInt8 × (List UInt8 × Int)))))) × Unit) := cloneM 80 a0
-- slices.Insert[[]impl.Node,impl.Node]
def m_slices_Insert_impl_Node_impl_Node (a1 : Int) (s0 s1 : List ((List UInt8 × (Int × (Int × (Int × (List UInt8 × (List UInt8 × Int)))))))) : Option (Unit × List ((List UInt8 × (Int × (Int × (Int × (List UInt8 × (List UInt8 × Int))))))) × List ((List UInt8 × (Int × (Int × (Int × (List UInt8 × (List UInt8 × Int))))))) × Unit) := insM 80 a1 s0 s1
-- impl.put
def m_impl_put (a0 : List (List UInt8 × (Int × (Int × (Int × (List UInt8 × (List UInt8 × Int))))))) (a1 : (List UInt8 × (Int × (Int × (Int × (List UInt8 × (List UInt8 × Int))))))) : Option (Unit × (List ((List UInt8 × (Int × (Int × (Int × (List UInt8 × (List UInt8 × Int))))))) × Unit)) :=
 Option.bind (m_impl_place a0 a1.fst) fun (r : (Int × Bool × Unit) × Unit) =>
 Option.bind (m_slices_Clone_impl_Node_impl_Node a0)
 fun (r_1 : Unit × List (List UInt8 × Int × Int × Int × List UInt8 × List UInt8 × Int) × Unit) =>
 bif r.fst.snd.fst then
 if (0 : Int) ≤ r.fst.fst ∧ r.fst.fst < (↑(List.length r_1.snd.fst) : Int) then
 if Int.toNat r.fst.fst < List.length r_1.snd.fst then
 some ((), List.set r_1.snd.fst (Int.toNat r.fst.fst) a1, ())
 else none
 else none
 else
 Option.bind (m_slices_Insert_impl_Node_impl_Node r.fst.fst r_1.snd.fst [a1])
 fun
 (r :
 Unit ×
 List (List UInt8 × Int × Int × Int × List UInt8 × List UInt8 × Int) ×
 List (List UInt8 × Int × Int × Int × List UInt8 × List UInt8 × Int) × Unit) =>
 some ((), r.snd.fst, ())
-- impl.Put
def m_impl_Put (a0 : List (List UInt8 × (Int × (Int × (Int × (List UInt8 × (List UInt8 × Int))))))) (a1 : (List UInt8 × (Int × (Int × (Int × (List UInt8 × (List UInt8 × Int))))))) : Option ((List (List UInt8 × (Int × (Int × (Int × (List UInt8 × (List UInt8 × Int)))))) × Bool × Unit) × Unit) :=
 Option.bind
 (Option.bind (m_impl_TreeOk a0) fun (r : Bool × Unit) =>
 bif !r.fst then
 some
 ((a0, (), true, ()),
 (a1.fst, a1.snd.fst, a1.snd.snd.fst, a1.snd.snd.snd.fst, a1.snd.snd.snd.snd.fst, a1.snd.snd.snd.snd.snd.fst,
 a1.snd.snd.snd.snd.snd.snd, ()),
 ())
 else
 Option.bind (m_impl_NodeOk a1) fun (r : Bool × Unit) =>
 some
 ((a0, (), !r.fst, ()),
 (a1.fst, a1.snd.fst, a1.snd.snd.fst, a1.snd.snd.snd.fst, a1.snd.snd.snd.snd.fst,
 a1.snd.snd.snd.snd.snd.fst, a1.snd.snd.snd.snd.snd.snd, ()),
 ()))
 fun
 (s :
 (List (List UInt8 × Int × Int × Int × List UInt8 × List UInt8 × Int) × Unit × Bool × Unit) ×
 (List UInt8 × Int × Int × Int × List UInt8 × List UInt8 × Int × Unit) × Unit) =>
 bif s.fst.snd.snd.fst then
 some ((nilOf (List UInt8 × Int × Int × Int × List UInt8 × List UInt8 × Int), false, ()), ())
 else
 Option.bind
 (m_impl_put s.fst.fst
 (s.snd.fst.fst, s.snd.fst.snd.fst, s.snd.fst.snd.snd.fst, s.snd.fst.snd.snd.snd.fst,
 s.snd.fst.snd.snd.snd.snd.fst, s.snd.fst.snd.snd.snd.snd.snd.fst, s.snd.fst.snd.snd.snd.snd.snd.snd.fst))
 fun (r : Unit × List (List UInt8 × Int × Int × Int × List UInt8 × List UInt8 × Int) × Unit) =>
 Option.bind (m_impl_TreeOk r.snd.fst) fun (r_1 : Bool × Unit) =>
 bif !r_1.fst then some ((nilOf (List UInt8 × Int × Int × Int × List UInt8 × List UInt8 × Int), false, ()), ())
 else some ((r.snd.fst, true, ()), ())
-- impl.Find
def m_impl_Find (a0 : List (List UInt8 × (Int × (Int × (Int × (List UInt8 × (List UInt8 × Int))))))) (a1 : List UInt8) : Option (Int × Unit) :=
 Option.bind (m_impl_TreeOk a0) fun (r : Bool × Unit) =>
 bif !r.fst then some ((-1 : Int), ())
 else
 Option.bind (m_impl_place a0 a1) fun (r : (Int × Bool × Unit) × Unit) =>
 bif !r.fst.snd.fst then some ((-1 : Int), ()) else some (r.fst.fst, ())
-- laws.nodeAt
def m_laws_nodeAt (a0 : List (List UInt8 × (Int × (Int × (Int × (List UInt8 × (List UInt8 × Int))))))) (a1 : List UInt8) : Option ((List UInt8 × (Int × (Int × (Int × (List UInt8 × (List UInt8 × Int)))))) × Unit) :=
 joinC
 (loopC
 (List.length a0 + List.length a1 + Int.toNat (0 : Int) + List.length (nilOf UInt8) + Int.toNat (0 : Int) +
 Int.toNat (0 : Int) +
 Int.toNat (0 : Int) +
 List.length (nilOf UInt8) +
 List.length (nilOf UInt8) +
 Int.toNat (0 : Int) +
 (300 : Nat))
 (fun
 (s :
 (List (List UInt8 × Int × Int × Int × List UInt8 × List UInt8 × Int) × List UInt8 × Unit × Int × Unit) ×
 (List UInt8 × Int × Int × Int × List UInt8 × List UInt8 × Int × Unit) × Unit)
 (k :
 (List (List UInt8 × Int × Int × Int × List UInt8 × List UInt8 × Int) × List UInt8 × Unit × Int × Unit) ×
 (List UInt8 × Int × Int × Int × List UInt8 × List UInt8 × Int × Unit) × Unit →
 Option
 ((Unit × Unit) × (List UInt8 × Int × Int × Int × List UInt8 × List UInt8 × Int × Unit) × Unit ⊕
 (List UInt8 × Int × Int × Int × List UInt8 × List UInt8 × Int) × Unit)) =>
 bif decide (s.fst.snd.snd.snd.fst < (↑(List.length s.fst.fst) : Int)) then
 if (0 : Int) ≤ s.fst.snd.snd.snd.fst ∧ s.fst.snd.snd.snd.fst < (↑(List.length s.fst.fst) : Int) then
 bif
 (List.getD s.fst.fst (Int.toNat s.fst.snd.snd.snd.fst)
 (nilOf UInt8, Int.ofNat (nat_lit 0), Int.ofNat (nat_lit 0), Int.ofNat (nat_lit 0), nilOf UInt8,
 nilOf UInt8, Int.ofNat (nat_lit 0))).fst ==
 s.fst.snd.fst then
 if (0 : Int) ≤ s.fst.snd.snd.snd.fst ∧ s.fst.snd.snd.snd.fst < (↑(List.length s.fst.fst) : Int) then
 some
 (Sum.inr
 (List.getD s.fst.fst (Int.toNat s.fst.snd.snd.snd.fst)
 (nilOf UInt8, Int.ofNat (nat_lit 0), Int.ofNat (nat_lit 0), Int.ofNat (nat_lit 0), nilOf UInt8,
 nilOf UInt8, Int.ofNat (nat_lit 0)),
 ()))
 else none
 else
 k
 ((s.fst.fst, s.fst.snd.fst, (), IntKind.wrap IntKind.i64 (s.fst.snd.snd.snd.fst + (1 : Int)), ()),
 s.snd)
 else none
 else some (Sum.inl (((), ()), s.snd)))
 ((a0, a1, (), (0 : Int), ()),
 (nilOf UInt8, (0 : Int), (0 : Int), (0 : Int), nilOf UInt8, nilOf UInt8, (0 : Int), ()), ()))
 fun (s : (Unit × Unit) × (List UInt8 × Int × Int × Int × List UInt8 × List UInt8 × Int × Unit) × Unit) =>
 some ((nilOf UInt8, (0 : Int), (0 : Int), (0 : Int), nilOf UInt8, nilOf UInt8, (0 : Int)), ())
-- internal/stringslite.HasPrefix
def m_stringslite_HasPrefix (a0 : List UInt8) (a1 : List UInt8) : Option (Bool × Unit) :=
 Option.bind
 (bif decide ((↑(List.length a0) : Int) ≥ (↑(List.length a1) : Int)) then
 if
 (0 : Int) ≤ (0 : Int) ∧
 (0 : Int) ≤ (↑(List.length a1) : Int) ∧ (↑(List.length a1) : Int) ≤ (↑(List.length a0) : Int) then
 some ((List.drop (Int.toNat (0 : Int)) (List.take (Int.toNat (↑(List.length a1) : Int)) a0) == a1, ()), ())
 else none
 else some ((false, ()), ()))
 fun (s : (Bool × PUnit) × PUnit) => some (s.fst.fst, ())
-- strings.HasPrefix
def m_strings_HasPrefix (a0 : List UInt8) (a1 : List UInt8) : Option (Bool × Unit) :=
 Option.bind (m_stringslite_HasPrefix a0 a1) fun (r : Bool × PUnit) => some (r.fst, ())
-- impl.Under
def m_impl_Under (a0 : List UInt8) (a1 : List UInt8) : Option (Bool × Unit) :=
 Option.bind
 (bif !a0 == nilOf UInt8 then
 Option.bind (m_impl_PathOk a0) fun (r : Bool × Unit) =>
 bif !r.fst then some ((a0, a1, true, ()), ())
 else Option.bind (m_impl_PathOk a1) fun (r : Bool × Unit) => some ((a0, a1, !r.fst, ()), ())
 else Option.bind (m_impl_PathOk a1) fun (r : Bool × Unit) => some ((a0, a1, !r.fst, ()), ()))
 fun (s : (List UInt8 × List UInt8 × Bool × Unit) × Unit) =>
 bif s.fst.snd.snd.fst then some (false, ())
 else
 Option.bind
 (bif s.fst.fst == nilOf UInt8 then some ((true, ()), ())
 else
 bif s.fst.snd.fst == s.fst.fst then some ((true, ()), ())
 else
 if List.length s.fst.fst + List.length [(47 : UInt8)] < (2 : Nat) ^ (63 : Nat) then
 Option.bind (m_strings_HasPrefix s.fst.snd.fst (s.fst.fst ++ [(47 : UInt8)])) fun (r : Bool × Unit) =>
 some (r, ())
 else none)
 fun (s : (Bool × Unit) × Unit) => some s.fst
-- impl.Remove$1
def m_impl_Remove_1 (a0 : (List UInt8 × (Int × (Int × (Int × (List UInt8 × (List UInt8 × Int))))))) (s0 : (List UInt8 × Unit)) : Option (Bool × ((List UInt8 × Unit) × Unit)) :=
 Option.bind (m_impl_Under s0.fst a0.fst) fun (r : Bool × Unit) => some (r.fst, s0, ())
-- slices.IndexFunc[[]impl.Node,impl.Node]
def m_slices_IndexFunc_impl_Node_impl_Node (a0 : List (List UInt8 × (Int × (Int × (Int × (List UInt8 × (List UInt8 × Int))))))) (s0 : (List UInt8 × Unit)) : Option (Int × ((List UInt8 × Unit) × Unit)) :=
 joinC
 (loopC
 (List.length a0 + Int.toNat (↑(List.length a0) : Int) + Int.toNat (0 : Int) + List.length s0.fst + (300 : Nat))
 (fun
 (s :
 (List (List UInt8 × Int × Int × Int × List UInt8 × List UInt8 × Int) × Unit × Int × Int × Unit) ×
 (List UInt8 × Unit) × Unit)
 (k :
 (List (List UInt8 × Int × Int × Int × List UInt8 × List UInt8 × Int) × Unit × Int × Int × Unit) ×
 (List UInt8 × Unit) × Unit →
 Option (Unit × (List UInt8 × Unit) × Unit ⊕ Int × (List UInt8 × Unit) × Unit)) =>
 bif decide (s.fst.snd.snd.snd.fst < s.fst.snd.snd.fst) then
 if (0 : Int) ≤ s.fst.snd.snd.snd.fst ∧ s.fst.snd.snd.snd.fst < (↑(List.length s.fst.fst) : Int) then
 Option.bind
 (m_impl_Remove_1
 (List.getD s.fst.fst (Int.toNat s.fst.snd.snd.snd.fst)
 (nilOf UInt8, Int.ofNat (nat_lit 0), Int.ofNat (nat_lit 0), Int.ofNat (nat_lit 0), nilOf UInt8,
 nilOf UInt8, Int.ofNat (nat_lit 0)))
 s.snd.fst)
 fun (r : Bool × (List UInt8 × Unit) × Unit) =>
 bif r.fst then some (Sum.inr (s.fst.snd.snd.snd.fst, r.snd))
 else
 k
 ((s.fst.fst, (), s.fst.snd.snd.fst, IntKind.wrap IntKind.i64 (s.fst.snd.snd.snd.fst + (1 : Int)), ()),
 r.snd)
 else none
 else some (Sum.inl ((), s.snd)))
 ((a0, (), (↑(List.length a0) : Int), (0 : Int), ()), s0, ()))
 fun (s : Unit × (List UInt8 × Unit) × Unit) => some ((-1 : Int), s.snd)
-- slices.DeleteFunc[[]impl.Node,impl.Node]
def m_slices_DeleteFunc_impl_Node_impl_Node (s0 : List ((List UInt8 × (Int × (Int × (Int × (List UInt8 × (List UInt8 × Int)))))))) (s1 : (List UInt8 × Unit)) : Option (Unit × (List ((List UInt8 × (Int × (Int × (Int × (List UInt8 × (List UInt8 × Int))))))) × (List UInt8 × Unit) × Unit)) :=
 Option.bind (m_slices_IndexFunc_impl_Node_impl_Node s0 s1) fun (r : Int × (List UInt8 × Unit) × Unit) =>
 bif r.fst == (-1 : Int) then some ((), s0, r.snd)
 else
 Option.bind
 (loopC
 (Int.toNat r.fst + Int.toNat (IntKind.wrap IntKind.i64 (r.fst + (1 : Int))) + List.length s0 +
 List.length r.snd.fst.fst +
 (300 : Nat))
 (fun
 (s :
 (Unit × Unit × Int × Int × Unit) ×
 List (List UInt8 × Int × Int × Int × List UInt8 × List UInt8 × Int) × (List UInt8 × Unit) × Unit)
 (k :
 (Unit × Unit × Int × Int × Unit) ×
 List (List UInt8 × Int × Int × Int × List UInt8 × List UInt8 × Int) × (List UInt8 × Unit) × Unit →
 Option
 ((Unit × Int × Unit) ×
 List (List UInt8 × Int × Int × Int × List UInt8 × List UInt8 × Int) ×
 (List UInt8 × Unit) × Unit)) =>
 bif decide (s.fst.snd.snd.snd.fst < (↑(List.length s.snd.fst) : Int)) then
 if (0 : Int) ≤ s.fst.snd.snd.snd.fst ∧ s.fst.snd.snd.snd.fst < (↑(List.length s.snd.fst) : Int) then
 if Int.toNat s.fst.snd.snd.snd.fst < List.length s.snd.fst then
 Option.bind
 (m_impl_Remove_1
 (List.getD s.snd.fst (Int.toNat s.fst.snd.snd.snd.fst)
 (nilOf UInt8, Int.ofNat (nat_lit 0), Int.ofNat (nat_lit 0), Int.ofNat (nat_lit 0), nilOf UInt8,
 nilOf UInt8, Int.ofNat (nat_lit 0)))
 s.snd.snd.fst)
 fun (r : Bool × (List UInt8 × Unit) × Unit) =>
 Option.bind
 (bif !r.fst then
 if (0 : Int) ≤ s.fst.snd.snd.fst ∧ s.fst.snd.snd.fst < (↑(List.length s.snd.fst) : Int) then
 if Int.toNat s.fst.snd.snd.fst < List.length s.snd.fst then
 some
 (((), (), IntKind.wrap IntKind.i64 (s.fst.snd.snd.fst + (1 : Int)), s.fst.snd.snd.snd),
 List.set s.snd.fst (Int.toNat s.fst.snd.snd.fst)
 (List.getD s.snd.fst (Int.toNat s.fst.snd.snd.snd.fst)
 (nilOf UInt8, Int.ofNat (nat_lit 0), Int.ofNat (nat_lit 0), Int.ofNat (nat_lit 0),
 nilOf UInt8, nilOf UInt8, Int.ofNat (nat_lit 0))),
 r.snd)
 else none
 else none
 else some (((), (), s.fst.snd.snd), s.snd.fst, r.snd))
 fun
 (s :
 (Unit × Unit × Int × Int × Unit) ×
 List (List UInt8 × Int × Int × Int × List UInt8 × List UInt8 × Int) ×
 (List UInt8 × Unit) × Unit) =>
 k
 (((), (), s.fst.snd.snd.fst, IntKind.wrap IntKind.i64 (s.fst.snd.snd.snd.fst + (1 : Int)), ()),
 s.snd)
 else none
 else none
 else some (((), s.fst.snd.snd.fst, ()), s.snd))
 (((), (), r.fst, IntKind.wrap IntKind.i64 (r.fst + (1 : Int)), ()), s0, r.snd))
 fun
 (s :
 (Unit × Int × Unit) ×
 List (List UInt8 × Int × Int × Int × List UInt8 × List UInt8 × Int) × (List UInt8 × Unit) × Unit) =>
 if (0 : Int) ≤ s.fst.snd.fst ∧ s.fst.snd.fst ≤ (↑(List.length s.snd.fst) : Int) then
 if
 (0 : Int) ≤ s.fst.snd.fst ∧
 s.fst.snd.fst ≤
 (↑(List.length
 (List.take (Int.toNat s.fst.snd.fst) s.snd.fst ++
 List.replicate (List.length s.snd.fst - Int.toNat s.fst.snd.fst)
 (nilOf UInt8, Int.ofNat (nat_lit 0), Int.ofNat (nat_lit 0), Int.ofNat (nat_lit 0),
 nilOf UInt8, nilOf UInt8, Int.ofNat (nat_lit 0)))) :
 Int) then
 some
 ((),
 List.take (Int.toNat s.fst.snd.fst)
 (List.take (Int.toNat s.fst.snd.fst) s.snd.fst ++
 List.replicate (List.length s.snd.fst - Int.toNat s.fst.snd.fst)
 (nilOf UInt8, Int.ofNat (nat_lit 0), Int.ofNat (nat_lit 0), Int.ofNat (nat_lit 0), nilOf UInt8,
 nilOf UInt8, Int.ofNat (nat_lit 0))),
 s.snd.snd)
 else none
 else none
-- impl.unlonely
def m_impl_unlonely (s0 : List ((List UInt8 × (Int × (Int × (Int × (List UInt8 × (List UInt8 × Int)))))))) : Option ((Unit) × (List ((List UInt8 × (Int × (Int × (Int × (List UInt8 × (List UInt8 × Int))))))) × Unit)) :=
 Option.bind
 (loopC
 (Int.toNat (↑(List.length s0) : Int) + Int.toNat (0 : Int) + List.length s0 + List.length (nilOf (Int × Int)) +
 (300 : Nat))
 (fun
 (s :
 (Unit × Unit × Unit × Int × Int × Unit) ×
 List (List UInt8 × Int × Int × Int × List UInt8 × List UInt8 × Int) × List (Int × Int) × Unit)
 (k :
 (Unit × Unit × Unit × Int × Int × Unit) ×
 List (List UInt8 × Int × Int × Int × List UInt8 × List UInt8 × Int) × List (Int × Int) × Unit →
 Option
 ((Unit × Unit × Unit) ×
 List (List UInt8 × Int × Int × Int × List UInt8 × List UInt8 × Int) × List (Int × Int) × Unit)) =>
 bif decide (s.fst.snd.snd.snd.snd.fst < s.fst.snd.snd.snd.fst) then
 if (0 : Int) ≤ s.fst.snd.snd.snd.snd.fst ∧ s.fst.snd.snd.snd.snd.fst < (↑(List.length s.snd.fst) : Int) then
 if Int.toNat s.fst.snd.snd.snd.snd.fst < List.length s.snd.fst then
 k
 (((), (), (), s.fst.snd.snd.snd.fst, IntKind.wrap IntKind.i64 (s.fst.snd.snd.snd.snd.fst + (1 : Int)),
 ()),
 s.snd.fst,
 mset (Ty.int IntKind.i64)
 (List.getD s.snd.fst (Int.toNat s.fst.snd.snd.snd.snd.fst)
 (nilOf UInt8, Int.ofNat (nat_lit 0), Int.ofNat (nat_lit 0), Int.ofNat (nat_lit 0),
 nilOf UInt8, nilOf UInt8, Int.ofNat (nat_lit 0))).snd.snd.snd.snd.snd.snd
 (IntKind.wrap IntKind.i64
 (Option.getD
 (mget (Ty.int IntKind.i64)
 (List.getD s.snd.fst (Int.toNat s.fst.snd.snd.snd.snd.fst)
 (nilOf UInt8, Int.ofNat (nat_lit 0), Int.ofNat (nat_lit 0),
 Int.ofNat (nat_lit 0), nilOf UInt8, nilOf UInt8,
 Int.ofNat (nat_lit 0))).snd.snd.snd.snd.snd.snd
 s.snd.snd.fst)
 (Int.ofNat (nat_lit 0)) +
 (1 : Int)))
 s.snd.snd.fst,
 ())
 else none
 else none
 else some (((), (), ()), s.snd))
 (((), (), (), (↑(List.length s0) : Int), (0 : Int), ()), s0, nilOf (Int × Int), ()))
 fun
 (s :
 (Unit × Unit × Unit) ×
 List (List UInt8 × Int × Int × Int × List UInt8 × List UInt8 × Int) × List (Int × Int) × Unit) =>
 Option.bind
 (loopC
 (Int.toNat (↑(List.length s.snd.fst) : Int) + Int.toNat (0 : Int) + List.length s.snd.fst +
 List.length s.snd.snd.fst +
 (300 : Nat))
 (fun
 (s :
 (Unit × Unit × Unit × Int × Int × Unit) ×
 List (List UInt8 × Int × Int × Int × List UInt8 × List UInt8 × Int) × List (Int × Int) × Unit)
 (k :
 (Unit × Unit × Unit × Int × Int × Unit) ×
 List (List UInt8 × Int × Int × Int × List UInt8 × List UInt8 × Int) × List (Int × Int) × Unit →
 Option (Unit × List (List UInt8 × Int × Int × Int × List UInt8 × List UInt8 × Int) × Unit)) =>
 bif decide (s.fst.snd.snd.snd.snd.fst < s.fst.snd.snd.snd.fst) then
 if (0 : Int) ≤ s.fst.snd.snd.snd.snd.fst ∧ s.fst.snd.snd.snd.snd.fst < (↑(List.length s.snd.fst) : Int) then
 if Int.toNat s.fst.snd.snd.snd.snd.fst < List.length s.snd.fst then
 Option.bind
 (bif
 Option.getD
 (mget (Ty.int IntKind.i64)
 (List.getD s.snd.fst (Int.toNat s.fst.snd.snd.snd.snd.fst)
 (nilOf UInt8, Int.ofNat (nat_lit 0), Int.ofNat (nat_lit 0),
 Int.ofNat (nat_lit 0), nilOf UInt8, nilOf UInt8,
 Int.ofNat (nat_lit 0))).snd.snd.snd.snd.snd.snd
 s.snd.snd.fst)
 (Int.ofNat (nat_lit 0)) ==
 (1 : Int) then
 if
 (0 : Int) ≤ s.fst.snd.snd.snd.snd.fst ∧
 s.fst.snd.snd.snd.snd.fst < (↑(List.length s.snd.fst) : Int) then
 if Int.toNat s.fst.snd.snd.snd.snd.fst < List.length s.snd.fst then
 some
 (((), (), (), s.fst.snd.snd.snd),
 List.set s.snd.fst (Int.toNat s.fst.snd.snd.snd.snd.fst)
 ((List.getD s.snd.fst (Int.toNat s.fst.snd.snd.snd.snd.fst)
 (nilOf UInt8, Int.ofNat (nat_lit 0), Int.ofNat (nat_lit 0), Int.ofNat (nat_lit 0),
 nilOf UInt8, nilOf UInt8, Int.ofNat (nat_lit 0))).fst,
 (List.getD s.snd.fst (Int.toNat s.fst.snd.snd.snd.snd.fst)
 (nilOf UInt8, Int.ofNat (nat_lit 0), Int.ofNat (nat_lit 0), Int.ofNat (nat_lit 0),
 nilOf UInt8, nilOf UInt8, Int.ofNat (nat_lit 0))).snd.fst,
 (List.getD s.snd.fst (Int.toNat s.fst.snd.snd.snd.snd.fst)
 (nilOf UInt8, Int.ofNat (nat_lit 0), Int.ofNat (nat_lit 0),
 Int.ofNat (nat_lit 0), nilOf UInt8, nilOf UInt8,
 Int.ofNat (nat_lit 0))).snd.snd.fst,
 (List.getD s.snd.fst (Int.toNat s.fst.snd.snd.snd.snd.fst)
 (nilOf UInt8, Int.ofNat (nat_lit 0), Int.ofNat (nat_lit 0),
 Int.ofNat (nat_lit 0), nilOf UInt8, nilOf UInt8,
 Int.ofNat (nat_lit 0))).snd.snd.snd.fst,
 (List.getD s.snd.fst (Int.toNat s.fst.snd.snd.snd.snd.fst)
 (nilOf UInt8, Int.ofNat (nat_lit 0), Int.ofNat (nat_lit 0),
 Int.ofNat (nat_lit 0), nilOf UInt8, nilOf UInt8,
 Int.ofNat (nat_lit 0))).snd.snd.snd.snd.fst,
 (List.getD s.snd.fst (Int.toNat s.fst.snd.snd.snd.snd.fst)
 (nilOf UInt8, Int.ofNat (nat_lit 0), Int.ofNat (nat_lit 0),
 Int.ofNat (nat_lit 0), nilOf UInt8, nilOf UInt8,
 Int.ofNat (nat_lit 0))).snd.snd.snd.snd.snd.fst,
 (0 : Int)),
 s.snd.snd)
 else none
 else none
 else some (((), (), (), s.fst.snd.snd.snd), s.snd))
 fun
 (s :
 (Unit × Unit × Unit × Int × Int × Unit) ×
 List (List UInt8 × Int × Int × Int × List UInt8 × List UInt8 × Int) ×
 List (Int × Int) × Unit) =>
 k
 (((), (), (), s.fst.snd.snd.snd.fst,
 IntKind.wrap IntKind.i64 (s.fst.snd.snd.snd.snd.fst + (1 : Int)), ()),
 s.snd)
 else none
 else none
 else some ((), s.snd.fst, ()))
 (((), (), (), (↑(List.length s.snd.fst) : Int), (0 : Int), ()), s.snd))
 fun (s : Unit × List (List UInt8 × Int × Int × Int × List UInt8 × List UInt8 × Int) × Unit) => some ((), s.snd)
-- impl.Remove
def m_impl_Remove (a0 : List (List UInt8 × (Int × (Int × (Int × (List UInt8 × (List UInt8 × Int))))))) (a1 : List UInt8) : Option ((List (List UInt8 × (Int × (Int × (Int × (List UInt8 × (List UInt8 × Int)))))) × Bool × Unit) × Unit) :=
 Option.bind (m_impl_Find a0 a1) fun (r : Int × Unit) =>
 bif decide (r.fst < (0 : Int)) then
 some ((nilOf (List UInt8 × Int × Int × Int × List UInt8 × List UInt8 × Int), false, ()), ())
 else
 Option.bind (m_slices_Clone_impl_Node_impl_Node a0)
 fun (r : Unit × List (List UInt8 × Int × Int × Int × List UInt8 × List UInt8 × Int) × Unit) =>
 Option.bind (m_slices_DeleteFunc_impl_Node_impl_Node r.snd.fst (a1, ()))
 fun
 (r :
 Unit ×
 List (List UInt8 × Int × Int × Int × List UInt8 × List UInt8 × Int) × (List UInt8 × Unit) × Unit) =>
 Option.bind (m_impl_unlonely r.snd.fst)
 fun (r : Unit × List (List UInt8 × Int × Int × Int × List UInt8 × List UInt8 × Int) × Unit) =>
 some ((r.snd.fst, true, ()), ())
-- laws.plain
def m_laws_plain (a0 : (List UInt8 × (Int × (Int × (Int × (List UInt8 × (List UInt8 × Int))))))) : Option ((List UInt8 × (Int × (Int × (Int × (List UInt8 × (List UInt8 × Int)))))) × Unit) :=
 some
 ((a0.fst, a0.snd.fst, a0.snd.snd.fst, a0.snd.snd.snd.fst, a0.snd.snd.snd.snd.fst, a0.snd.snd.snd.snd.snd.fst,
 (0 : Int)),
 ())
-- laws.FnPut
def m_laws_FnPut (a0 : List Int) : Option (Bool × Unit) :=
 Option.bind (m_laws_big a0) fun (r : Bool × Unit) =>
 bif r.fst then some (true, ())
 else
 Option.bind (m_spec_DrawPut a0)
 fun
 (r :
 (List (List UInt8 × Int × Int × Int × List UInt8 × List UInt8 × Int) ×
 (List UInt8 × Int × Int × Int × List UInt8 × List UInt8 × Int) × Unit) ×
 Unit) =>
 Option.bind (m_spec_Put r.fst.fst r.fst.snd.fst)
 fun (r_1 : (List (List UInt8 × Int × Int × Int × List UInt8 × List UInt8 × Int) × Bool × Unit) × Unit) =>
 Option.bind (m_impl_Put r.fst.fst r.fst.snd.fst)
 fun (r_2 : (List (List UInt8 × Int × Int × Int × List UInt8 × List UInt8 × Int) × Bool × Unit) × Unit) =>
 bif !r_2.fst.snd.fst == r_1.fst.snd.fst then some (false, ())
 else
 bif !r_2.fst.snd.fst then some ((↑(List.length r_2.fst.fst) : Int) == (0 : Int), ())
 else
 Option.bind (m_impl_Find r_2.fst.fst r.fst.snd.fst.fst) fun (r_3 : Int × Unit) =>
 Option.bind
 (Option.bind (m_impl_TreeOk r_2.fst.fst) fun (r_4 : Bool × Unit) =>
 bif !r_4.fst then
 some
 ((r.fst.fst, (), r_2.fst.fst, true, ()),
 (r.fst.snd.fst.fst, r.fst.snd.fst.snd.fst, r.fst.snd.fst.snd.snd.fst,
 r.fst.snd.fst.snd.snd.snd.fst, r.fst.snd.fst.snd.snd.snd.snd.fst,
 r.fst.snd.fst.snd.snd.snd.snd.snd.fst, r.fst.snd.fst.snd.snd.snd.snd.snd.snd, ()),
 ())
 else
 bif decide (r_3.fst < (0 : Int)) then
 some
 ((r.fst.fst, (), r_2.fst.fst, true, ()),
 (r.fst.snd.fst.fst, r.fst.snd.fst.snd.fst, r.fst.snd.fst.snd.snd.fst,
 r.fst.snd.fst.snd.snd.snd.fst, r.fst.snd.fst.snd.snd.snd.snd.fst,
 r.fst.snd.fst.snd.snd.snd.snd.snd.fst, r.fst.snd.fst.snd.snd.snd.snd.snd.snd, ()),
 ())
 else
 bif decide (r_3.fst ≥ (↑(List.length r_2.fst.fst) : Int)) then
 some
 ((r.fst.fst, (), r_2.fst.fst, true, ()),
 (r.fst.snd.fst.fst, r.fst.snd.fst.snd.fst, r.fst.snd.fst.snd.snd.fst,
 r.fst.snd.fst.snd.snd.snd.fst, r.fst.snd.fst.snd.snd.snd.snd.fst,
 r.fst.snd.fst.snd.snd.snd.snd.snd.fst, r.fst.snd.fst.snd.snd.snd.snd.snd.snd, ()),
 ())
 else
 if (0 : Int) ≤ r_3.fst ∧ r_3.fst < (↑(List.length r_2.fst.fst) : Int) then
 some
 ((r.fst.fst, (), r_2.fst.fst,
 !((List.getD r_2.fst.fst (Int.toNat r_3.fst)
 (nilOf UInt8, Int.ofNat (nat_lit 0), Int.ofNat (nat_lit 0),
 Int.ofNat (nat_lit 0), nilOf UInt8, nilOf UInt8,
 Int.ofNat (nat_lit 0))).fst ==
 r.fst.snd.fst.fst &&
 ((List.getD r_2.fst.fst (Int.toNat r_3.fst)
 (nilOf UInt8, Int.ofNat (nat_lit 0), Int.ofNat (nat_lit 0),
 Int.ofNat (nat_lit 0), nilOf UInt8, nilOf UInt8,
 Int.ofNat (nat_lit 0))).snd.fst ==
 r.fst.snd.fst.snd.fst &&
 ((List.getD r_2.fst.fst (Int.toNat r_3.fst)
 (nilOf UInt8, Int.ofNat (nat_lit 0), Int.ofNat (nat_lit 0),
 Int.ofNat (nat_lit 0), nilOf UInt8, nilOf UInt8,
 Int.ofNat (nat_lit 0))).snd.snd.fst ==
 r.fst.snd.fst.snd.snd.fst &&
 ((List.getD r_2.fst.fst (Int.toNat r_3.fst)
 (nilOf UInt8, Int.ofNat (nat_lit 0), Int.ofNat (nat_lit 0),
 Int.ofNat (nat_lit 0), nilOf UInt8, nilOf UInt8,
 Int.ofNat (nat_lit 0))).snd.snd.snd.fst ==
 r.fst.snd.fst.snd.snd.snd.fst &&
 ((List.getD r_2.fst.fst (Int.toNat r_3.fst)
 (nilOf UInt8, Int.ofNat (nat_lit 0),
 Int.ofNat (nat_lit 0), Int.ofNat (nat_lit 0),
 nilOf UInt8, nilOf UInt8,
 Int.ofNat (nat_lit 0))).snd.snd.snd.snd.fst ==
 r.fst.snd.fst.snd.snd.snd.snd.fst &&
 ((List.getD r_2.fst.fst (Int.toNat r_3.fst)
 (nilOf UInt8, Int.ofNat (nat_lit 0),
 Int.ofNat (nat_lit 0), Int.ofNat (nat_lit 0),
 nilOf UInt8, nilOf UInt8,
 Int.ofNat (nat_lit 0))).snd.snd.snd.snd.snd.fst ==
 r.fst.snd.fst.snd.snd.snd.snd.snd.fst &&
 ((List.getD r_2.fst.fst (Int.toNat r_3.fst)
 (nilOf UInt8, Int.ofNat (nat_lit 0),
 Int.ofNat (nat_lit 0), Int.ofNat (nat_lit 0),
 nilOf UInt8, nilOf UInt8,
 Int.ofNat (nat_lit 0))).snd.snd.snd.snd.snd.snd ==
 r.fst.snd.fst.snd.snd.snd.snd.snd.snd &&
 true))))))),
 ()),
 (r.fst.snd.fst.fst, r.fst.snd.fst.snd.fst, r.fst.snd.fst.snd.snd.fst,
 r.fst.snd.fst.snd.snd.snd.fst, r.fst.snd.fst.snd.snd.snd.snd.fst,
 r.fst.snd.fst.snd.snd.snd.snd.snd.fst, r.fst.snd.fst.snd.snd.snd.snd.snd.snd, ()),
 ())
 else none)
 fun
 (s :
 (List (List UInt8 × Int × Int × Int × List UInt8 × List UInt8 × Int) ×
 Unit ×
 List (List UInt8 × Int × Int × Int × List UInt8 × List UInt8 × Int) × Bool × Unit) ×
 (List UInt8 × Int × Int × Int × List UInt8 × List UInt8 × Int × Unit) × Unit) =>
 bif s.fst.snd.snd.snd.fst then some (false, ())
 else
 joinC
 (loopC
 (List.length s.fst.fst + List.length s.fst.snd.snd.fst + Int.toNat (0 : Int) +
 List.length s.snd.fst.fst +
 Int.toNat s.snd.fst.snd.fst +
 Int.toNat s.snd.fst.snd.snd.fst +
 Int.toNat s.snd.fst.snd.snd.snd.fst +
 List.length s.snd.fst.snd.snd.snd.snd.fst +
 List.length s.snd.fst.snd.snd.snd.snd.snd.fst +
 Int.toNat s.snd.fst.snd.snd.snd.snd.snd.snd.fst +
 (300 : Nat))
 (fun
 (s :
 (List (List UInt8 × Int × Int × Int × List UInt8 × List UInt8 × Int) ×
 Unit ×
 List (List UInt8 × Int × Int × Int × List UInt8 × List UInt8 × Int) ×
 Int × Unit) ×
 (List UInt8 × Int × Int × Int × List UInt8 × List UInt8 × Int × Unit) × Unit)
 (k :
 (List (List UInt8 × Int × Int × Int × List UInt8 × List UInt8 × Int) ×
 Unit ×
 List (List UInt8 × Int × Int × Int × List UInt8 × List UInt8 × Int) ×
 Int × Unit) ×
 (List UInt8 × Int × Int × Int × List UInt8 × List UInt8 × Int × Unit) × Unit →
 Option
 ((Unit ×
 List (List UInt8 × Int × Int × Int × List UInt8 × List UInt8 × Int) × Unit) ×
 (List UInt8 × Int × Int × Int × List UInt8 × List UInt8 × Int × Unit) × Unit ⊕
 Bool × Unit)) =>
 bif decide (s.fst.snd.snd.snd.fst < (↑(List.length s.fst.fst) : Int)) then
 Option.bind
 (if
 (0 : Int) ≤ s.fst.snd.snd.snd.fst ∧
 s.fst.snd.snd.snd.fst < (↑(List.length s.fst.fst) : Int) then
 bif
 !(List.getD s.fst.fst (Int.toNat s.fst.snd.snd.snd.fst)
 (nilOf UInt8, Int.ofNat (nat_lit 0), Int.ofNat (nat_lit 0),
 Int.ofNat (nat_lit 0), nilOf UInt8, nilOf UInt8,
 Int.ofNat (nat_lit 0))).fst ==
 s.snd.fst.fst then
 if
 (0 : Int) ≤ s.fst.snd.snd.snd.fst ∧
 s.fst.snd.snd.snd.fst < (↑(List.length s.fst.fst) : Int) then
 Option.bind
 (m_laws_nodeAt s.fst.snd.snd.fst
 (List.getD s.fst.fst (Int.toNat s.fst.snd.snd.snd.fst)
 (nilOf UInt8, Int.ofNat (nat_lit 0), Int.ofNat (nat_lit 0),
 Int.ofNat (nat_lit 0), nilOf UInt8, nilOf UInt8,
 Int.ofNat (nat_lit 0))).fst)
 fun
 (r :
 (List UInt8 × Int × Int × Int × List UInt8 × List UInt8 × Int) × Unit) =>
 if
 (0 : Int) ≤ s.fst.snd.snd.snd.fst ∧
 s.fst.snd.snd.snd.fst < (↑(List.length s.fst.fst) : Int) then
 some
 ((s.fst.fst, (), s.fst.snd.snd.fst, s.fst.snd.snd.snd.fst,
 !(r.fst.fst ==
 (List.getD s.fst.fst (Int.toNat s.fst.snd.snd.snd.fst)
 (nilOf UInt8, Int.ofNat (nat_lit 0), Int.ofNat (nat_lit 0),
 Int.ofNat (nat_lit 0), nilOf UInt8, nilOf UInt8,
 Int.ofNat (nat_lit 0))).fst &&
 (r.fst.snd.fst ==
 (List.getD s.fst.fst (Int.toNat s.fst.snd.snd.snd.fst)
 (nilOf UInt8, Int.ofNat (nat_lit 0),
 Int.ofNat (nat_lit 0), Int.ofNat (nat_lit 0),
 nilOf UInt8, nilOf UInt8,
 Int.ofNat (nat_lit 0))).snd.fst &&
 (r.fst.snd.snd.fst ==
 (List.getD s.fst.fst (Int.toNat s.fst.snd.snd.snd.fst)
 (nilOf UInt8, Int.ofNat (nat_lit 0),
 Int.ofNat (nat_lit 0), Int.ofNat (nat_lit 0),
 nilOf UInt8, nilOf UInt8,
 Int.ofNat (nat_lit 0))).snd.snd.fst &&
 (r.fst.snd.snd.snd.fst ==
 (List.getD s.fst.fst (Int.toNat s.fst.snd.snd.snd.fst)
 (nilOf UInt8, Int.ofNat (nat_lit 0),
 Int.ofNat (nat_lit 0), Int.ofNat (nat_lit 0),
 nilOf UInt8, nilOf UInt8,
 Int.ofNat (nat_lit 0))).snd.snd.snd.fst &&
 (r.fst.snd.snd.snd.snd.fst ==
 (List.getD s.fst.fst (Int.toNat s.fst.snd.snd.snd.fst)
 (nilOf UInt8, Int.ofNat (nat_lit 0),
 Int.ofNat (nat_lit 0),
 Int.ofNat (nat_lit 0), nilOf UInt8,
 nilOf UInt8,
 Int.ofNat
 (nat_lit 0))).snd.snd.snd.snd.fst &&
 (r.fst.snd.snd.snd.snd.snd.fst ==
 (List.getD s.fst.fst (Int.toNat s.fst.snd.snd.snd.fst)
 (nilOf UInt8, Int.ofNat (nat_lit 0),
 Int.ofNat (nat_lit 0),
 Int.ofNat (nat_lit 0), nilOf UInt8,
 nilOf UInt8,
 Int.ofNat
 (nat_lit
 0))).snd.snd.snd.snd.snd.fst &&
 (r.fst.snd.snd.snd.snd.snd.snd ==
 (List.getD s.fst.fst (Int.toNat s.fst.snd.snd.snd.fst)
 (nilOf UInt8, Int.ofNat (nat_lit 0),
 Int.ofNat (nat_lit 0),
 Int.ofNat (nat_lit 0), nilOf UInt8,
 nilOf UInt8,
 Int.ofNat
 (nat_lit
 0))).snd.snd.snd.snd.snd.snd &&
 true))))))),
 ()),
 s.snd)
 else none
 else none
 else
 some ((s.fst.fst, (), s.fst.snd.snd.fst, s.fst.snd.snd.snd.fst, false, ()), s.snd)
 else none)
 fun
 (s :
 (List (List UInt8 × Int × Int × Int × List UInt8 × List UInt8 × Int) ×
 Unit ×
 List (List UInt8 × Int × Int × Int × List UInt8 × List UInt8 × Int) ×
 Int × Bool × Unit) ×
 (List UInt8 × Int × Int × Int × List UInt8 × List UInt8 × Int × Unit) × Unit) =>
 bif s.fst.snd.snd.snd.snd.fst then some (Sum.inr (false, ()))
 else
 k
 ((s.fst.fst, (), s.fst.snd.snd.fst,
 IntKind.wrap IntKind.i64 (s.fst.snd.snd.snd.fst + (1 : Int)), ()),
 s.snd)
 else some (Sum.inl (((), s.fst.snd.snd.fst, ()), s.snd)))
 ((s.fst.fst, (), s.fst.snd.snd.fst, (0 : Int), ()), s.snd))
 fun
 (s :
 (Unit × List (List UInt8 × Int × Int × Int × List UInt8 × List UInt8 × Int) × Unit) ×
 (List UInt8 × Int × Int × Int × List UInt8 × List UInt8 × Int × Unit) × Unit) =>
 Option.bind (m_impl_Remove s.fst.snd.fst s.snd.fst.fst)
 fun
 (r :
 (List (List UInt8 × Int × Int × Int × List UInt8 × List UInt8 × Int) × Bool × Unit) ×
 Unit) =>
 Option.bind
 (bif !r.fst.snd.fst then some (((), s.fst.snd.fst, r.fst.fst, true, ()), s.snd)
 else
 Option.bind (m_impl_TreeOk r.fst.fst) fun (r_4 : Bool × Unit) =>
 some (((), s.fst.snd.fst, r.fst.fst, !r_4.fst, ()), s.snd))
 fun
 (s :
 (Unit ×
 List (List UInt8 × Int × Int × Int × List UInt8 × List UInt8 × Int) ×
 List (List UInt8 × Int × Int × Int × List UInt8 × List UInt8 × Int) ×
 Bool × Unit) ×
 (List UInt8 × Int × Int × Int × List UInt8 × List UInt8 × Int × Unit) × Unit) =>
 bif s.fst.snd.snd.snd.fst then some (false, ())
 else
 joinC
 (loopC
 (List.length s.fst.snd.fst + List.length s.fst.snd.snd.fst + Int.toNat (0 : Int) +
 List.length s.snd.fst.fst +
 Int.toNat s.snd.fst.snd.fst +
 Int.toNat s.snd.fst.snd.snd.fst +
 Int.toNat s.snd.fst.snd.snd.snd.fst +
 List.length s.snd.fst.snd.snd.snd.snd.fst +
 List.length s.snd.fst.snd.snd.snd.snd.snd.fst +
 Int.toNat s.snd.fst.snd.snd.snd.snd.snd.snd.fst +
 (300 : Nat))
 (fun
 (s :
 (Unit ×
 List (List UInt8 × Int × Int × Int × List UInt8 × List UInt8 × Int) ×
 List (List UInt8 × Int × Int × Int × List UInt8 × List UInt8 × Int) ×
 Int × Unit) ×
 (List UInt8 × Int × Int × Int × List UInt8 × List UInt8 × Int × Unit) ×
 Unit)
 (k :
 (Unit ×
 List (List UInt8 × Int × Int × Int × List UInt8 × List UInt8 × Int) ×
 List (List UInt8 × Int × Int × Int × List UInt8 × List UInt8 × Int) ×
 Int × Unit) ×
 (List UInt8 × Int × Int × Int × List UInt8 × List UInt8 × Int × Unit) ×
 Unit →
 Option
 ((Unit ×
 List (List UInt8 × Int × Int × Int × List UInt8 × List UInt8 × Int) ×
 List
 (List UInt8 × Int × Int × Int × List UInt8 × List UInt8 × Int) ×
 Unit) ×
 (List UInt8 × Int × Int × Int × List UInt8 × List UInt8 × Int × Unit) ×
 Unit ⊕
 Bool × Unit)) =>
 bif decide (s.fst.snd.snd.snd.fst < (↑(List.length s.fst.snd.snd.fst) : Int)) then
 if
 (0 : Int) ≤ s.fst.snd.snd.snd.fst ∧
 s.fst.snd.snd.snd.fst < (↑(List.length s.fst.snd.snd.fst) : Int) then
 Option.bind
 (m_impl_Under s.snd.fst.fst
 (List.getD s.fst.snd.snd.fst (Int.toNat s.fst.snd.snd.snd.fst)
 (nilOf UInt8, Int.ofNat (nat_lit 0), Int.ofNat (nat_lit 0),
 Int.ofNat (nat_lit 0), nilOf UInt8, nilOf UInt8,
 Int.ofNat (nat_lit 0))).fst)
 fun (r : Bool × Unit) =>
 bif r.fst then some (Sum.inr (false, ()))
 else
 k
 (((), s.fst.snd.fst, s.fst.snd.snd.fst,
 IntKind.wrap IntKind.i64 (s.fst.snd.snd.snd.fst + (1 : Int)), ()),
 s.snd)
 else none
 else some (Sum.inl (((), s.fst.snd.fst, s.fst.snd.snd.fst, ()), s.snd)))
 (((), s.fst.snd.fst, s.fst.snd.snd.fst, (0 : Int), ()), s.snd))
 fun
 (s :
 (Unit ×
 List (List UInt8 × Int × Int × Int × List UInt8 × List UInt8 × Int) ×
 List (List UInt8 × Int × Int × Int × List UInt8 × List UInt8 × Int) × Unit) ×
 (List UInt8 × Int × Int × Int × List UInt8 × List UInt8 × Int × Unit) × Unit) =>
 joinC
 (loopC
 (List.length s.fst.snd.fst + List.length s.fst.snd.snd.fst + Int.toNat (0 : Int) +
 List.length s.snd.fst.fst +
 Int.toNat s.snd.fst.snd.fst +
 Int.toNat s.snd.fst.snd.snd.fst +
 Int.toNat s.snd.fst.snd.snd.snd.fst +
 List.length s.snd.fst.snd.snd.snd.snd.fst +
 List.length s.snd.fst.snd.snd.snd.snd.snd.fst +
 Int.toNat s.snd.fst.snd.snd.snd.snd.snd.snd.fst +
 (300 : Nat))
 (fun
 (s :
 (Unit ×
 List (List UInt8 × Int × Int × Int × List UInt8 × List UInt8 × Int) ×
 List (List UInt8 × Int × Int × Int × List UInt8 × List UInt8 × Int) ×
 Int × Unit) ×
 (List UInt8 × Int × Int × Int × List UInt8 × List UInt8 × Int × Unit) ×
 Unit)
 (k :
 (Unit ×
 List (List UInt8 × Int × Int × Int × List UInt8 × List UInt8 × Int) ×
 List (List UInt8 × Int × Int × Int × List UInt8 × List UInt8 × Int) ×
 Int × Unit) ×
 (List UInt8 × Int × Int × Int × List UInt8 × List UInt8 × Int × Unit) ×
 Unit →
 Option (Unit × Unit ⊕ Bool × Unit)) =>
 bif decide (s.fst.snd.snd.snd.fst < (↑(List.length s.fst.snd.fst) : Int)) then
 Option.bind
 (if
 (0 : Int) ≤ s.fst.snd.snd.snd.fst ∧
 s.fst.snd.snd.snd.fst < (↑(List.length s.fst.snd.fst) : Int) then
 Option.bind
 (m_impl_Under s.snd.fst.fst
 (List.getD s.fst.snd.fst (Int.toNat s.fst.snd.snd.snd.fst)
 (nilOf UInt8, Int.ofNat (nat_lit 0), Int.ofNat (nat_lit 0),
 Int.ofNat (nat_lit 0), nilOf UInt8, nilOf UInt8,
 Int.ofNat (nat_lit 0))).fst)
 fun (r : Bool × Unit) =>
 bif !r.fst then
 if
 (0 : Int) ≤ s.fst.snd.snd.snd.fst ∧
 s.fst.snd.snd.snd.fst < (↑(List.length s.fst.snd.fst) : Int) then
 Option.bind
 (m_laws_nodeAt s.fst.snd.snd.fst
 (List.getD s.fst.snd.fst (Int.toNat s.fst.snd.snd.snd.fst)
 (nilOf UInt8, Int.ofNat (nat_lit 0), Int.ofNat (nat_lit 0),
 Int.ofNat (nat_lit 0), nilOf UInt8, nilOf UInt8,
 Int.ofNat (nat_lit 0))).fst)
 fun
 (r :
 (List UInt8 × Int × Int × Int × List UInt8 × List UInt8 × Int) ×
 Unit) =>
 Option.bind (m_laws_plain r.fst)
 fun
 (r :
 (List UInt8 ×
 Int × Int × Int × List UInt8 × List UInt8 × Int) ×
 Unit) =>
 if
 (0 : Int) ≤ s.fst.snd.snd.snd.fst ∧
 s.fst.snd.snd.snd.fst <
 (↑(List.length s.fst.snd.fst) : Int) then
 Option.bind
 (m_laws_plain
 (List.getD s.fst.snd.fst (Int.toNat s.fst.snd.snd.snd.fst)
 (nilOf UInt8, Int.ofNat (nat_lit 0),
 Int.ofNat (nat_lit 0), Int.ofNat (nat_lit 0),
 nilOf UInt8, nilOf UInt8, Int.ofNat (nat_lit 0))))
 fun
 (r_4 :
 (List UInt8 ×
 Int × Int × Int × List UInt8 × List UInt8 × Int) ×
 Unit) =>
 some
 (((), s.fst.snd.fst, s.fst.snd.snd.fst,
 s.fst.snd.snd.snd.fst,
 !(r.fst.fst == r_4.fst.fst &&
 (r.fst.snd.fst == r_4.fst.snd.fst &&
 (r.fst.snd.snd.fst == r_4.fst.snd.snd.fst &&
 (r.fst.snd.snd.snd.fst ==
 r_4.fst.snd.snd.snd.fst &&
 (r.fst.snd.snd.snd.snd.fst ==
 r_4.fst.snd.snd.snd.snd.fst &&
 (r.fst.snd.snd.snd.snd.snd.fst ==
 r_4.fst.snd.snd.snd.snd.snd.fst &&
 (r.fst.snd.snd.snd.snd.snd.snd ==
 r_4.fst.snd.snd.snd.snd.snd.snd &&
 true))))))),
 ()),
 s.snd)
 else none
 else none
 else
 some
 (((), s.fst.snd.fst, s.fst.snd.snd.fst, s.fst.snd.snd.snd.fst, false,
 ()),
 s.snd)
 else none)
 fun
 (s :
 (Unit ×
 List (List UInt8 × Int × Int × Int × List UInt8 × List UInt8 × Int) ×
 List
 (List UInt8 × Int × Int × Int × List UInt8 × List UInt8 × Int) ×
 Int × Bool × Unit) ×
 (List UInt8 × Int × Int × Int × List UInt8 × List UInt8 × Int × Unit) ×
 Unit) =>
 bif s.fst.snd.snd.snd.snd.fst then some (Sum.inr (false, ()))
 else
 k
 (((), s.fst.snd.fst, s.fst.snd.snd.fst,
 IntKind.wrap IntKind.i64 (s.fst.snd.snd.snd.fst + (1 : Int)), ()),
 s.snd)
 else some (Sum.inl ((), ())))
 (((), s.fst.snd.fst, s.fst.snd.snd.fst, (0 : Int), ()), s.snd))
 fun (s : Unit × Unit) => some (true, ())
end Go.AM
