/- What each function computes, in plain Lean. -/
import Derived.Test.YtkjbhlhebjfklaaAmE
set_option linter.unusedVariables false
set_option maxRecDepth 100000
namespace Go.AM
open Go
-- spec.l01In
def m_spec_l01In (a0 : Int) (a1 : Int) (a2 : Int) : Option (Bool × Unit) :=
  Option.bind (bif decide (a0 ≥ a1) then some ((decide (a0 ≤ a2), ()), ()) else some ((false, ()), ()))
    fun (s : (Bool × PUnit) × PUnit) => some (s.fst.fst, ())
-- spec.l08Class
def m_spec_l08Class (a0 : List UInt8) : Option (((Int × (Int × (Bool × List Bool))) × Int × Unit) × Unit) :=
  loopC
    (List.length a0 + Int.toNat (0 : Int) + Int.toNat (0 : Int) + Int.toNat (0 : Int) + Int.toNat (2 : Int) +
          Int.toNat (0 : Int) +
        List.length (nilOf Bool) +
      (300 : Nat))
    (fun
        (s :
          (List UInt8 × PUnit × PUnit × Int × PUnit) ×
            (Int × Int × Bool × PUnit × PUnit) × (Int × Int × Bool × PUnit × PUnit) × List Bool × PUnit)
        (k :
          (List UInt8 × PUnit × PUnit × Int × PUnit) ×
              (Int × Int × Bool × PUnit × PUnit) × (Int × Int × Bool × PUnit × PUnit) × List Bool × PUnit →
            Option (((Int × Int × Bool × List Bool) × Int × PUnit) × PUnit)) =>
      bif decide (s.fst.snd.snd.snd.fst < (256 : Int)) then
        if (List.length s.snd.snd.snd.fst + List.length [false]) * (1 : Nat) ≤ (140737488355328 : Nat) then
          k
            ((s.fst.fst, (), (), IntKind.wrap IntKind.i64 (s.fst.snd.snd.snd.fst + (1 : Int)), ()),
              (s.snd.fst.fst, s.snd.fst.snd.fst, s.snd.fst.snd.snd.fst, (), ()),
              (s.snd.snd.fst.fst, s.snd.snd.fst.snd.fst, s.snd.snd.fst.snd.snd.fst, (), ()),
              s.snd.snd.snd.fst ++ [false], ())
        else none
      else
        Option.bind
          (bif decide ((0 : Int) < (↑(List.length s.fst.fst) : Int)) then
            if (0 : Int) ≤ (0 : Int) ∧ (0 : Int) < (↑(List.length s.fst.fst) : Int) then
              some
                ((s.fst.fst, (), (), (0 : Int),
                    (↑(UInt8.toNat (List.getD s.fst.fst (Int.toNat (0 : Int)) (0 : UInt8))) : Int) == (33 : Int), ()),
                  (s.snd.fst.fst, s.snd.fst.snd.fst, s.snd.fst.snd.snd.fst, (), ()),
                  (s.snd.snd.fst.fst, s.snd.snd.fst.snd.fst, s.snd.snd.fst.snd.snd.fst, (), ()), s.snd.snd.snd.fst, ())
            else none
          else
            some
              ((s.fst.fst, (), (), (0 : Int), false, ()),
                (s.snd.fst.fst, s.snd.fst.snd.fst, s.snd.fst.snd.snd.fst, (), ()),
                (s.snd.snd.fst.fst, s.snd.snd.fst.snd.fst, s.snd.snd.fst.snd.snd.fst, (), ()), s.snd.snd.snd.fst, ()))
          fun
            (s :
              (List UInt8 × PUnit × PUnit × Int × Bool × PUnit) ×
                (Int × Int × Bool × PUnit × PUnit) × (Int × Int × Bool × PUnit × PUnit) × List Bool × PUnit) =>
          Option.bind
            (bif s.fst.snd.snd.snd.snd.fst then
              some
                ((s.fst.fst, (), (), IntKind.wrap IntKind.i64 (s.fst.snd.snd.snd.fst + (1 : Int)), ()),
                  (s.snd.fst.fst, s.snd.fst.snd.fst, s.snd.fst.snd.snd.fst, (), ()),
                  (s.snd.snd.fst.fst, s.snd.snd.fst.snd.fst, true, (), ()), s.snd.snd.snd.fst, ())
            else
              some
                ((s.fst.fst, (), (), s.fst.snd.snd.snd.fst, ()),
                  (s.snd.fst.fst, s.snd.fst.snd.fst, s.snd.fst.snd.snd.fst, (), ()),
                  (s.snd.snd.fst.fst, s.snd.snd.fst.snd.fst, s.snd.snd.fst.snd.snd.fst, (), ()), s.snd.snd.snd.fst, ()))
            fun
              (s :
                (List UInt8 × PUnit × PUnit × Int × PUnit) ×
                  (Int × Int × Bool × PUnit × PUnit) × (Int × Int × Bool × PUnit × PUnit) × List Bool × PUnit) =>
            loopC
              (List.length s.fst.fst + Int.toNat s.fst.snd.snd.snd.fst + Int.toNat s.snd.fst.fst +
                        Int.toNat s.snd.fst.snd.fst +
                      Int.toNat s.snd.snd.fst.fst +
                    Int.toNat s.snd.snd.fst.snd.fst +
                  List.length s.snd.snd.snd.fst +
                (300 : Nat))
              (fun
                  (s :
                    (List UInt8 × PUnit × PUnit × Int × Bool × PUnit) ×
                      (Int × Int × Bool × PUnit × PUnit) × (Int × Int × Bool × PUnit × PUnit) × List Bool × PUnit)
                  (k :
                    (List UInt8 × PUnit × PUnit × Int × Bool × PUnit) ×
                        (Int × Int × Bool × PUnit × PUnit) × (Int × Int × Bool × PUnit × PUnit) × List Bool × PUnit →
                      Option (((Int × Int × Bool × List Bool) × Int × PUnit) × PUnit)) =>
                Option.bind
                  (bif decide (s.fst.snd.snd.snd.fst < (↑(List.length s.fst.fst) : Int)) then
                    bif s.fst.snd.snd.snd.snd.fst then
                      some
                        ((s.fst.fst, (), (), s.fst.snd.snd.snd.fst, true, ()),
                          (s.snd.fst.fst, s.snd.fst.snd.fst, s.snd.fst.snd.snd.fst, (), ()),
                          (s.snd.snd.fst.fst, s.snd.snd.fst.snd.fst, s.snd.snd.fst.snd.snd.fst, (), ()),
                          s.snd.snd.snd.fst, ())
                    else
                      if
                          (0 : Int) ≤ s.fst.snd.snd.snd.fst ∧
                            s.fst.snd.snd.snd.fst < (↑(List.length s.fst.fst) : Int) then
                        some
                          ((s.fst.fst, (), (), s.fst.snd.snd.snd.fst,
                              (↑(UInt8.toNat (List.getD s.fst.fst (Int.toNat s.fst.snd.snd.snd.fst) (0 : UInt8))) :
                                  Int) !=
                                (93 : Int),
                              ()),
                            (s.snd.fst.fst, s.snd.fst.snd.fst, s.snd.fst.snd.snd.fst, (), ()),
                            (s.snd.snd.fst.fst, s.snd.snd.fst.snd.fst, s.snd.snd.fst.snd.snd.fst, (), ()),
                            s.snd.snd.snd.fst, ())
                      else none
                  else
                    some
                      ((s.fst.fst, (), (), s.fst.snd.snd.snd.fst, false, ()),
                        (s.snd.fst.fst, s.snd.fst.snd.fst, s.snd.fst.snd.snd.fst, (), ()),
                        (s.snd.snd.fst.fst, s.snd.snd.fst.snd.fst, s.snd.snd.fst.snd.snd.fst, (), ()),
                        s.snd.snd.snd.fst, ()))
                  fun
                    (s :
                      (List UInt8 × PUnit × PUnit × Int × Bool × PUnit) ×
                        (Int × Int × Bool × PUnit × PUnit) × (Int × Int × Bool × PUnit × PUnit) × List Bool × PUnit) =>
                  bif s.fst.snd.snd.snd.snd.fst then
                    Option.bind
                      (bif
                          decide
                            (IntKind.wrap IntKind.i64 (s.fst.snd.snd.snd.fst + (2 : Int)) <
                              (↑(List.length s.fst.fst) : Int)) then
                        if
                            (0 : Int) ≤ IntKind.wrap IntKind.i64 (s.fst.snd.snd.snd.fst + (1 : Int)) ∧
                              IntKind.wrap IntKind.i64 (s.fst.snd.snd.snd.fst + (1 : Int)) <
                                (↑(List.length s.fst.fst) : Int) then
                          bif
                              (↑(UInt8.toNat
                                      (List.getD s.fst.fst
                                        (Int.toNat (IntKind.wrap IntKind.i64 (s.fst.snd.snd.snd.fst + (1 : Int))))
                                        (0 : UInt8))) :
                                  Int) ==
                                (45 : Int) then
                            if
                                (0 : Int) ≤ IntKind.wrap IntKind.i64 (s.fst.snd.snd.snd.fst + (2 : Int)) ∧
                                  IntKind.wrap IntKind.i64 (s.fst.snd.snd.snd.fst + (2 : Int)) <
                                    (↑(List.length s.fst.fst) : Int) then
                              some
                                ((s.fst.fst, (), (), s.fst.snd.snd.snd.fst, false,
                                    (↑(UInt8.toNat
                                            (List.getD s.fst.fst
                                              (Int.toNat (IntKind.wrap IntKind.i64 (s.fst.snd.snd.snd.fst + (2 : Int))))
                                              (0 : UInt8))) :
                                        Int) !=
                                      (93 : Int),
                                    ()),
                                  (s.snd.fst.fst, s.snd.fst.snd.fst, s.snd.fst.snd.snd.fst, (), ()),
                                  (s.snd.snd.fst.fst, s.snd.snd.fst.snd.fst, s.snd.snd.fst.snd.snd.fst, (), ()),
                                  s.snd.snd.snd.fst, ())
                            else none
                          else
                            some
                              ((s.fst.fst, (), (), s.fst.snd.snd.snd.fst, false, false, ()),
                                (s.snd.fst.fst, s.snd.fst.snd.fst, s.snd.fst.snd.snd.fst, (), ()),
                                (s.snd.snd.fst.fst, s.snd.snd.fst.snd.fst, s.snd.snd.fst.snd.snd.fst, (), ()),
                                s.snd.snd.snd.fst, ())
                        else none
                      else
                        some
                          ((s.fst.fst, (), (), s.fst.snd.snd.snd.fst, false, false, ()),
                            (s.snd.fst.fst, s.snd.fst.snd.fst, s.snd.fst.snd.snd.fst, (), ()),
                            (s.snd.snd.fst.fst, s.snd.snd.fst.snd.fst, s.snd.snd.fst.snd.snd.fst, (), ()),
                            s.snd.snd.snd.fst, ()))
                      fun
                        (s :
                          (List UInt8 × PUnit × PUnit × Int × Bool × Bool × PUnit) ×
                            (Int × Int × Bool × PUnit × PUnit) ×
                              (Int × Int × Bool × PUnit × PUnit) × List Bool × PUnit) =>
                      Option.bind
                        (bif s.fst.snd.snd.snd.snd.snd.fst then
                          if
                              (0 : Int) ≤ s.fst.snd.snd.snd.fst ∧
                                s.fst.snd.snd.snd.fst < (↑(List.length s.fst.fst) : Int) then
                            loopC
                              (List.length s.fst.fst + Int.toNat s.fst.snd.snd.snd.fst +
                                            Int.toNat
                                              (IntKind.wrap IntKind.i64
                                                (↑(UInt8.toNat
                                                      (List.getD s.fst.fst (Int.toNat s.fst.snd.snd.snd.fst)
                                                        (0 : UInt8))) :
                                                  Int)) +
                                          Int.toNat s.snd.fst.fst +
                                        Int.toNat s.snd.fst.snd.fst +
                                      Int.toNat s.snd.snd.fst.fst +
                                    Int.toNat s.snd.snd.fst.snd.fst +
                                  List.length s.snd.snd.snd.fst +
                                (300 : Nat))
                              (fun
                                  (s :
                                    (List UInt8 × PUnit × PUnit × Int × Bool × Int × PUnit) ×
                                      (Int × Int × Bool × PUnit × PUnit) ×
                                        (Int × Int × Bool × PUnit × PUnit) × List Bool × PUnit)
                                  (k :
                                    (List UInt8 × PUnit × PUnit × Int × Bool × Int × PUnit) ×
                                        (Int × Int × Bool × PUnit × PUnit) ×
                                          (Int × Int × Bool × PUnit × PUnit) × List Bool × PUnit →
                                      Option
                                        ((List UInt8 × PUnit × PUnit × Int × Bool × PUnit) ×
                                          (Int × Int × Bool × PUnit × PUnit) ×
                                            (Int × Int × Bool × PUnit × PUnit) × List Bool × PUnit)) =>
                                if
                                    (0 : Int) ≤ IntKind.wrap IntKind.i64 (s.fst.snd.snd.snd.fst + (2 : Int)) ∧
                                      IntKind.wrap IntKind.i64 (s.fst.snd.snd.snd.fst + (2 : Int)) <
                                        (↑(List.length s.fst.fst) : Int) then
                                  bif
                                      decide
                                        (s.fst.snd.snd.snd.snd.snd.fst ≤
                                          IntKind.wrap IntKind.i64
                                            (↑(UInt8.toNat
                                                  (List.getD s.fst.fst
                                                    (Int.toNat
                                                      (IntKind.wrap IntKind.i64 (s.fst.snd.snd.snd.fst + (2 : Int))))
                                                    (0 : UInt8))) :
                                              Int)) then
                                    if
                                        (0 : Int) ≤ s.fst.snd.snd.snd.snd.snd.fst ∧
                                          s.fst.snd.snd.snd.snd.snd.fst < (↑(List.length s.snd.snd.snd.fst) : Int) then
                                      if Int.toNat s.fst.snd.snd.snd.snd.snd.fst < List.length s.snd.snd.snd.fst then
                                        k
                                          ((s.fst.fst, (), (), s.fst.snd.snd.snd.fst, s.fst.snd.snd.snd.snd.fst,
                                              IntKind.wrap IntKind.i64 (s.fst.snd.snd.snd.snd.snd.fst + (1 : Int)), ()),
                                            (s.snd.fst.fst, s.snd.fst.snd.fst, s.snd.fst.snd.snd.fst, (), ()),
                                            (s.snd.snd.fst.fst, s.snd.snd.fst.snd.fst, s.snd.snd.fst.snd.snd.fst, (),
                                              ()),
                                            List.set s.snd.snd.snd.fst (Int.toNat s.fst.snd.snd.snd.snd.snd.fst) true,
                                            ())
                                      else none
                                    else none
                                  else
                                    some
                                      ((s.fst.fst, (), (), IntKind.wrap IntKind.i64 (s.fst.snd.snd.snd.fst + (3 : Int)),
                                          s.fst.snd.snd.snd.snd.fst, ()),
                                        (s.snd.fst.fst, s.snd.fst.snd.fst, s.snd.fst.snd.snd.fst, (), ()),
                                        (s.snd.snd.fst.fst, s.snd.snd.fst.snd.fst, s.snd.snd.fst.snd.snd.fst, (), ()),
                                        s.snd.snd.snd.fst, ())
                                else none)
                              ((s.fst.fst, (), (), s.fst.snd.snd.snd.fst, s.fst.snd.snd.snd.snd.fst,
                                  IntKind.wrap IntKind.i64
                                    (↑(UInt8.toNat
                                          (List.getD s.fst.fst (Int.toNat s.fst.snd.snd.snd.fst) (0 : UInt8))) :
                                      Int),
                                  ()),
                                (s.snd.fst.fst, s.snd.fst.snd.fst, s.snd.fst.snd.snd.fst, (), ()),
                                (s.snd.snd.fst.fst, s.snd.snd.fst.snd.fst, s.snd.snd.fst.snd.snd.fst, (), ()),
                                s.snd.snd.snd.fst, ())
                          else none
                        else
                          if
                              (0 : Int) ≤ s.fst.snd.snd.snd.fst ∧
                                s.fst.snd.snd.snd.fst < (↑(List.length s.fst.fst) : Int) then
                            if
                                (0 : Int) ≤
                                    (↑(UInt8.toNat
                                          (List.getD s.fst.fst (Int.toNat s.fst.snd.snd.snd.fst) (0 : UInt8))) :
                                      Int) ∧
                                  (↑(UInt8.toNat (List.getD s.fst.fst (Int.toNat s.fst.snd.snd.snd.fst) (0 : UInt8))) :
                                      Int) <
                                    (↑(List.length s.snd.snd.snd.fst) : Int) then
                              if
                                  Int.toNat
                                      (↑(UInt8.toNat
                                            (List.getD s.fst.fst (Int.toNat s.fst.snd.snd.snd.fst) (0 : UInt8))) :
                                        Int) <
                                    List.length s.snd.snd.snd.fst then
                                some
                                  ((s.fst.fst, (), (), IntKind.wrap IntKind.i64 (s.fst.snd.snd.snd.fst + (1 : Int)),
                                      s.fst.snd.snd.snd.snd.fst, ()),
                                    (s.snd.fst.fst, s.snd.fst.snd.fst, s.snd.fst.snd.snd.fst, (), ()),
                                    (s.snd.snd.fst.fst, s.snd.snd.fst.snd.fst, s.snd.snd.fst.snd.snd.fst, (), ()),
                                    List.set s.snd.snd.snd.fst
                                      (Int.toNat
                                        (↑(UInt8.toNat
                                              (List.getD s.fst.fst (Int.toNat s.fst.snd.snd.snd.fst) (0 : UInt8))) :
                                          Int))
                                      true,
                                    ())
                              else none
                            else none
                          else none)
                        fun
                          (s :
                            (List UInt8 × PUnit × PUnit × Int × Bool × PUnit) ×
                              (Int × Int × Bool × PUnit × PUnit) ×
                                (Int × Int × Bool × PUnit × PUnit) × List Bool × PUnit) =>
                        k
                          ((s.fst.fst, (), (), s.fst.snd.snd.snd.fst, s.fst.snd.snd.snd.snd.fst, ()),
                            (s.snd.fst.fst, s.snd.fst.snd.fst, s.snd.fst.snd.snd.fst, (), ()),
                            (s.snd.snd.fst.fst, s.snd.snd.fst.snd.fst, s.snd.snd.fst.snd.snd.fst, (), ()),
                            s.snd.snd.snd.fst, ())
                  else
                    bif decide (s.fst.snd.snd.snd.fst ≥ (↑(List.length s.fst.fst) : Int)) then
                      some ((((0 : Int), (0 : Int), false, nilOf Bool), (0 : Int), ()), ())
                    else
                      some
                        (((s.snd.snd.fst.fst, s.snd.snd.fst.snd.fst, s.snd.snd.fst.snd.snd.fst, s.snd.snd.snd.fst),
                            IntKind.wrap IntKind.i64 (s.fst.snd.snd.snd.fst + (1 : Int)), ()),
                          ()))
              ((s.fst.fst, (), (), s.fst.snd.snd.snd.fst, true, ()),
                (s.snd.fst.fst, s.snd.fst.snd.fst, s.snd.fst.snd.snd.fst, (), ()),
                (s.snd.snd.fst.fst, s.snd.snd.fst.snd.fst, s.snd.snd.fst.snd.snd.fst, (), ()), s.snd.snd.snd.fst, ()))
    ((a0, (), (), (0 : Int), ()), ((0 : Int), (0 : Int), false, (), ()), ((2 : Int), (0 : Int), false, (), ()),
      nilOf Bool, ())
-- spec.l08Pieces
def m_spec_l08Pieces (a0 : List UInt8) : Option ((List (Int × (Int × (Bool × List Bool))) × Bool × Unit) × Unit) :=
  Option.bind (m_spec_l01In (↑(List.length a0) : Int) (1 : Int) (60 : Int)) fun (r : Bool × PUnit) =>
    bif !r.fst then some ((nilOf (Int × Int × Bool × List Bool), false, ()), ())
    else
      loopC (List.length a0 + List.length (nilOf (Int × Int × Bool × List Bool)) + (300 : Nat))
        (fun (s : (List UInt8 × PUnit × PUnit) × List (Int × Int × Bool × List Bool) × PUnit)
            (k :
              (List UInt8 × PUnit × PUnit) × List (Int × Int × Bool × List Bool) × PUnit →
                Option ((List (Int × Int × Bool × List Bool) × Bool × PUnit) × PUnit)) =>
          bif decide ((↑(List.length s.fst.fst) : Int) > (0 : Int)) then
            if (0 : Int) ≤ (0 : Int) ∧ (0 : Int) < (↑(List.length s.fst.fst) : Int) then
              Option.bind
                (bif decide ((↑(List.length s.fst.fst) : Int) > (1 : Int)) then
                  if (0 : Int) ≤ (0 : Int) ∧ (0 : Int) ≤ (2 : Int) ∧ (2 : Int) ≤ (↑(List.length s.fst.fst) : Int) then
                    some
                      ((s.fst.fst, (), (1 : Int), (),
                          List.drop (Int.toNat (0 : Int)) (List.take (Int.toNat (2 : Int)) s.fst.fst) ==
                            [(42 : UInt8), (42 : UInt8)],
                          ()),
                        s.snd.fst,
                        ((0 : Int), (↑(UInt8.toNat (List.getD s.fst.fst (Int.toNat (0 : Int)) (0 : UInt8))) : Int),
                          false, (), ()),
                        ())
                  else none
                else
                  some
                    ((s.fst.fst, (), (1 : Int), (), false, ()), s.snd.fst,
                      ((0 : Int), (↑(UInt8.toNat (List.getD s.fst.fst (Int.toNat (0 : Int)) (0 : UInt8))) : Int), false,
                        (), ()),
                      ()))
                fun
                  (s :
                    (List UInt8 × PUnit × Int × PUnit × Bool × PUnit) ×
                      List (Int × Int × Bool × List Bool) × (Int × Int × Bool × PUnit × PUnit) × PUnit) =>
                joinC
                  (bif s.fst.snd.snd.snd.snd.fst then
                    some
                      (Sum.inl
                        ((s.fst.fst, (), (2 : Int), (), ()), s.snd.fst,
                          ((4 : Int), s.snd.snd.fst.snd.fst, s.snd.snd.fst.snd.snd.fst, nilOf Bool, ()), ()))
                  else
                    if (0 : Int) ≤ (0 : Int) ∧ (0 : Int) < (↑(List.length s.fst.fst) : Int) then
                      joinC
                        (bif
                            (↑(UInt8.toNat (List.getD s.fst.fst (Int.toNat (0 : Int)) (0 : UInt8))) : Int) ==
                              (42 : Int) then
                          some
                            (Sum.inl
                              ((s.fst.fst, (), s.fst.snd.snd.fst, (), ()), s.snd.fst,
                                ((3 : Int), s.snd.snd.fst.snd.fst, s.snd.snd.fst.snd.snd.fst, nilOf Bool, ()), ()))
                        else
                          if (0 : Int) ≤ (0 : Int) ∧ (0 : Int) < (↑(List.length s.fst.fst) : Int) then
                            joinC
                              (bif
                                  (↑(UInt8.toNat (List.getD s.fst.fst (Int.toNat (0 : Int)) (0 : UInt8))) : Int) ==
                                    (63 : Int) then
                                some
                                  (Sum.inl
                                    ((s.fst.fst, (), s.fst.snd.snd.fst, (), ()), s.snd.fst,
                                      ((1 : Int), s.snd.snd.fst.snd.fst, s.snd.snd.fst.snd.snd.fst, nilOf Bool, ()),
                                      ()))
                              else
                                if (0 : Int) ≤ (0 : Int) ∧ (0 : Int) < (↑(List.length s.fst.fst) : Int) then
                                  joinC
                                    (bif
                                        (↑(UInt8.toNat (List.getD s.fst.fst (Int.toNat (0 : Int)) (0 : UInt8))) :
                                            Int) ==
                                          (91 : Int) then
                                      if
                                          (0 : Int) ≤ (1 : Int) ∧
                                            (1 : Int) ≤ (↑(List.length s.fst.fst) : Int) ∧
                                              (↑(List.length s.fst.fst) : Int) ≤ (↑(List.length s.fst.fst) : Int) then
                                        Option.bind
                                          (m_spec_l08Class
                                            (List.drop (Int.toNat (1 : Int))
                                              (List.take (Int.toNat (↑(List.length s.fst.fst) : Int)) s.fst.fst)))
                                          fun (r : ((Int × Int × Bool × List Bool) × Int × PUnit) × PUnit) =>
                                          bif r.fst.snd.fst == (0 : Int) then
                                            some
                                              (Sum.inr
                                                (Sum.inr
                                                  (Sum.inr
                                                    (Sum.inr ((nilOf (Int × Int × Bool × List Bool), false, ()), ())))))
                                          else
                                            some
                                              (Sum.inl
                                                ((s.fst.fst, (), IntKind.wrap IntKind.i64 ((1 : Int) + r.fst.snd.fst),
                                                    (), ()),
                                                  s.snd.fst,
                                                  (r.fst.fst.fst, r.fst.fst.snd.fst, r.fst.fst.snd.snd.fst,
                                                    r.fst.fst.snd.snd.snd, ()),
                                                  ()))
                                      else none
                                    else
                                      if (0 : Int) ≤ (0 : Int) ∧ (0 : Int) < (↑(List.length s.fst.fst) : Int) then
                                        joinC
                                          (bif
                                              (↑(UInt8.toNat (List.getD s.fst.fst (Int.toNat (0 : Int)) (0 : UInt8))) :
                                                  Int) ==
                                                (92 : Int) then
                                            bif (↑(List.length s.fst.fst) : Int) == (1 : Int) then
                                              some
                                                (Sum.inr
                                                  (Sum.inr
                                                    (Sum.inr
                                                      (Sum.inr
                                                        (Sum.inr
                                                          ((nilOf (Int × Int × Bool × List Bool), false, ()), ()))))))
                                            else
                                              if
                                                  (0 : Int) ≤ (1 : Int) ∧
                                                    (1 : Int) < (↑(List.length s.fst.fst) : Int) then
                                                some
                                                  (Sum.inl
                                                    ((s.fst.fst, (), (2 : Int), (), ()), s.snd.fst,
                                                      (s.snd.snd.fst.fst,
                                                        (↑(UInt8.toNat
                                                              (List.getD s.fst.fst (Int.toNat (1 : Int)) (0 : UInt8))) :
                                                          Int),
                                                        s.snd.snd.fst.snd.snd.fst, (), ()),
                                                      ()))
                                              else none
                                          else
                                            some
                                              (Sum.inl
                                                ((s.fst.fst, (), s.fst.snd.snd.fst, (), ()), s.snd.fst,
                                                  (s.snd.snd.fst.fst, s.snd.snd.fst.snd.fst, s.snd.snd.fst.snd.snd.fst,
                                                    (), ()),
                                                  ())))
                                          fun
                                            (s :
                                              (List UInt8 × PUnit × Int × PUnit × PUnit) ×
                                                List (Int × Int × Bool × List Bool) ×
                                                  (Int × Int × Bool × PUnit × PUnit) × PUnit) =>
                                          some
                                            (Sum.inl
                                              ((s.fst.fst, (), s.fst.snd.snd.fst, (), ()), s.snd.fst,
                                                (s.snd.snd.fst.fst, s.snd.snd.fst.snd.fst, s.snd.snd.fst.snd.snd.fst,
                                                  nilOf Bool, ()),
                                                ()))
                                      else none)
                                    fun
                                      (s :
                                        (List UInt8 × PUnit × Int × PUnit × PUnit) ×
                                          List (Int × Int × Bool × List Bool) ×
                                            (Int × Int × Bool × List Bool × PUnit) × PUnit) =>
                                    some
                                      (Sum.inl
                                        ((s.fst.fst, (), s.fst.snd.snd.fst, (), ()), s.snd.fst,
                                          (s.snd.snd.fst.fst, s.snd.snd.fst.snd.fst, s.snd.snd.fst.snd.snd.fst,
                                            s.snd.snd.fst.snd.snd.snd.fst, ()),
                                          ()))
                                else none)
                              fun
                                (s :
                                  (List UInt8 × PUnit × Int × PUnit × PUnit) ×
                                    List (Int × Int × Bool × List Bool) ×
                                      (Int × Int × Bool × List Bool × PUnit) × PUnit) =>
                              some
                                (Sum.inl
                                  ((s.fst.fst, (), s.fst.snd.snd.fst, (), ()), s.snd.fst,
                                    (s.snd.snd.fst.fst, s.snd.snd.fst.snd.fst, s.snd.snd.fst.snd.snd.fst,
                                      s.snd.snd.fst.snd.snd.snd.fst, ()),
                                    ()))
                          else none)
                        fun
                          (s :
                            (List UInt8 × PUnit × Int × PUnit × PUnit) ×
                              List (Int × Int × Bool × List Bool) × (Int × Int × Bool × List Bool × PUnit) × PUnit) =>
                        some
                          (Sum.inl
                            ((s.fst.fst, (), s.fst.snd.snd.fst, (), ()), s.snd.fst,
                              (s.snd.snd.fst.fst, s.snd.snd.fst.snd.fst, s.snd.snd.fst.snd.snd.fst,
                                s.snd.snd.fst.snd.snd.snd.fst, ()),
                              ()))
                    else none)
                  fun
                    (s :
                      (List UInt8 × PUnit × Int × PUnit × PUnit) ×
                        List (Int × Int × Bool × List Bool) × (Int × Int × Bool × List Bool × PUnit) × PUnit) =>
                  if
                      (List.length s.snd.fst +
                            List.length
                              [(s.snd.snd.fst.fst, s.snd.snd.fst.snd.fst, s.snd.snd.fst.snd.snd.fst,
                                  s.snd.snd.fst.snd.snd.snd.fst)]) *
                          (40 : Nat) ≤
                        (140737488355328 : Nat) then
                    if
                        (0 : Int) ≤ s.fst.snd.snd.fst ∧
                          s.fst.snd.snd.fst ≤ (↑(List.length s.fst.fst) : Int) ∧
                            (↑(List.length s.fst.fst) : Int) ≤ (↑(List.length s.fst.fst) : Int) then
                      k
                        ((List.drop (Int.toNat s.fst.snd.snd.fst)
                              (List.take (Int.toNat (↑(List.length s.fst.fst) : Int)) s.fst.fst),
                            (), ()),
                          s.snd.fst ++
                            [(s.snd.snd.fst.fst, s.snd.snd.fst.snd.fst, s.snd.snd.fst.snd.snd.fst,
                                s.snd.snd.fst.snd.snd.snd.fst)],
                          ())
                    else none
                  else none
            else none
          else some ((s.snd.fst, true, ()), ()))
        ((a0, (), ()), nilOf (Int × Int × Bool × List Bool), ())
-- spec.PatternOk
def m_spec_PatternOk (a0 : List UInt8) : Option (Bool × Unit) :=
  Option.bind (m_spec_l08Pieces a0) fun (r : (List (Int × Int × Bool × List Bool) × Bool × Unit) × Unit) =>
    some r.fst.snd
-- spec.Plain
def m_spec_Plain (a0 : List UInt8) : Option (Bool × Unit) :=
  Option.bind (m_spec_PatternOk a0) fun (r : Bool × Unit) =>
    bif !r.fst then some (false, ())
    else
      joinC
        (loopC (List.length a0 + Int.toNat (0 : Int) + (300 : Nat))
          (fun (s : (List UInt8 × Int × Unit) × Unit)
              (k : (List UInt8 × Int × Unit) × Unit → Option (Unit × Unit ⊕ Bool × Unit)) =>
            bif decide (s.fst.snd.fst < (↑(List.length s.fst.fst) : Int)) then
              Option.bind
                (if (0 : Int) ≤ s.fst.snd.fst ∧ s.fst.snd.fst < (↑(List.length s.fst.fst) : Int) then
                  bif
                      (↑(UInt8.toNat (List.getD s.fst.fst (Int.toNat s.fst.snd.fst) (0 : UInt8))) : Int) ==
                        (42 : Int) then
                    some ((s.fst.fst, s.fst.snd.fst, true, ()), ())
                  else
                    if (0 : Int) ≤ s.fst.snd.fst ∧ s.fst.snd.fst < (↑(List.length s.fst.fst) : Int) then
                      bif
                          (↑(UInt8.toNat (List.getD s.fst.fst (Int.toNat s.fst.snd.fst) (0 : UInt8))) : Int) ==
                            (63 : Int) then
                        some ((s.fst.fst, s.fst.snd.fst, true, ()), ())
                      else
                        if (0 : Int) ≤ s.fst.snd.fst ∧ s.fst.snd.fst < (↑(List.length s.fst.fst) : Int) then
                          bif
                              (↑(UInt8.toNat (List.getD s.fst.fst (Int.toNat s.fst.snd.fst) (0 : UInt8))) : Int) ==
                                (91 : Int) then
                            some ((s.fst.fst, s.fst.snd.fst, true, ()), ())
                          else
                            if (0 : Int) ≤ s.fst.snd.fst ∧ s.fst.snd.fst < (↑(List.length s.fst.fst) : Int) then
                              some
                                ((s.fst.fst, s.fst.snd.fst,
                                    (↑(UInt8.toNat (List.getD s.fst.fst (Int.toNat s.fst.snd.fst) (0 : UInt8))) :
                                        Int) ==
                                      (92 : Int),
                                    ()),
                                  ())
                            else none
                        else none
                    else none
                else none)
                fun (s : (List UInt8 × Int × Bool × Unit) × Unit) =>
                bif s.fst.snd.snd.fst then some (Sum.inr (false, ()))
                else k ((s.fst.fst, IntKind.wrap IntKind.i64 (s.fst.snd.fst + (1 : Int)), ()), ())
            else some (Sum.inl ((), ())))
          ((a0, (0 : Int), ()), ()))
        fun (s : Unit × Unit) => some (true, ())
-- impl.within
def m_impl_within (a0 : Int) (a1 : Int) (a2 : Int) : Option (Bool × Unit) :=
  Option.bind (bif decide (a0 ≥ a1) then some ((decide (a0 ≤ a2), ()), ()) else some ((false, ()), ()))
    fun (s : (Bool × PUnit) × PUnit) => some (s.fst.fst, ())
-- internal/stringslite.HasPrefix
def m_stringslite_HasPrefix (a0 : List UInt8) (a1 : List UInt8) : Option (Bool × Unit) :=
  Option.bind
    (bif decide ((↑(List.length a0) : Int) ≥ (↑(List.length a1) : Int)) then
      if
          (0 : Int) ≤ (0 : Int) ∧
            (0 : Int) ≤ (↑(List.length a1) : Int) ∧ (↑(List.length a1) : Int) ≤ (↑(List.length a0) : Int) then
        some ((List.drop (Int.toNat (0 : Int)) (List.take (Int.toNat (↑(List.length a1) : Int)) a0) == a1, ()), ())
      else none
    else some ((false, ()), ()))
    fun (s : (Bool × PUnit) × PUnit) => some (s.fst.fst, ())
-- strings.HasPrefix
def m_strings_HasPrefix (a0 : List UInt8) (a1 : List UInt8) : Option (Bool × Unit) :=
  Option.bind (m_stringslite_HasPrefix a0 a1) fun (r : Bool × PUnit) => some (r.fst, ())
-- impl.class
def m_impl_class (a0 : List UInt8) : Option ((Option ((Int × (Bool × List Bool))) × Int × Unit) × Unit) :=
  Option.bind (m_strings_HasPrefix a0 [(33 : UInt8)]) fun (r : Bool × PUnit) =>
    Option.bind
      (bif r.fst then
        some
          ((a0, (), IntKind.wrap IntKind.i64 ((0 : Int) + (1 : Int)), ()),
            ((4 : Int), true, List.replicate (256 : Nat) false), ())
      else some ((a0, (), (0 : Int), ()), ((4 : Int), false, List.replicate (256 : Nat) false), ()))
      fun (s : (List UInt8 × PUnit × Int × PUnit) × (Int × Bool × List Bool) × PUnit) =>
      loopC (List.length s.fst.fst + Int.toNat s.fst.snd.snd.fst + (300 : Nat))
        (fun (s : (List UInt8 × PUnit × Int × Bool × PUnit) × (Int × Bool × List Bool) × PUnit)
            (k :
              (List UInt8 × PUnit × Int × Bool × PUnit) × (Int × Bool × List Bool) × PUnit →
                Option ((Option (Int × Bool × List Bool) × Int × PUnit) × PUnit)) =>
          Option.bind
            (bif decide (s.fst.snd.snd.fst < (↑(List.length s.fst.fst) : Int)) then
              bif s.fst.snd.snd.snd.fst then some ((s.fst.fst, (), s.fst.snd.snd.fst, true, ()), s.snd.fst, ())
              else
                if (0 : Int) ≤ s.fst.snd.snd.fst ∧ s.fst.snd.snd.fst < (↑(List.length s.fst.fst) : Int) then
                  some
                    ((s.fst.fst, (), s.fst.snd.snd.fst,
                        (↑(UInt8.toNat (List.getD s.fst.fst (Int.toNat s.fst.snd.snd.fst) (0 : UInt8))) : Int) !=
                          (93 : Int),
                        ()),
                      s.snd.fst, ())
                else none
            else some ((s.fst.fst, (), s.fst.snd.snd.fst, false, ()), s.snd.fst, ()))
            fun (s : (List UInt8 × PUnit × Int × Bool × PUnit) × (Int × Bool × List Bool) × PUnit) =>
            bif s.fst.snd.snd.snd.fst then
              if (0 : Int) ≤ s.fst.snd.snd.fst ∧ s.fst.snd.snd.fst < (↑(List.length s.fst.fst) : Int) then
                if (0 : Int) ≤ s.fst.snd.snd.fst ∧ s.fst.snd.snd.fst < (↑(List.length s.fst.fst) : Int) then
                  Option.bind
                    (bif
                        decide
                          (IntKind.wrap IntKind.i64
                              (IntKind.wrap IntKind.i64 (s.fst.snd.snd.fst + (1 : Int)) + (1 : Int)) <
                            (↑(List.length s.fst.fst) : Int)) then
                      if
                          (0 : Int) ≤ IntKind.wrap IntKind.i64 (s.fst.snd.snd.fst + (1 : Int)) ∧
                            IntKind.wrap IntKind.i64 (s.fst.snd.snd.fst + (1 : Int)) <
                              (↑(List.length s.fst.fst) : Int) then
                        bif
                            (↑(UInt8.toNat
                                    (List.getD s.fst.fst
                                      (Int.toNat (IntKind.wrap IntKind.i64 (s.fst.snd.snd.fst + (1 : Int))))
                                      (0 : UInt8))) :
                                Int) ==
                              (45 : Int) then
                          if
                              (0 : Int) ≤
                                  IntKind.wrap IntKind.i64
                                    (IntKind.wrap IntKind.i64 (s.fst.snd.snd.fst + (1 : Int)) + (1 : Int)) ∧
                                IntKind.wrap IntKind.i64
                                    (IntKind.wrap IntKind.i64 (s.fst.snd.snd.fst + (1 : Int)) + (1 : Int)) <
                                  (↑(List.length s.fst.fst) : Int) then
                            some
                              ((s.fst.fst, (), IntKind.wrap IntKind.i64 (s.fst.snd.snd.fst + (1 : Int)),
                                  IntKind.wrap IntKind.i64
                                    (↑(UInt8.toNat (List.getD s.fst.fst (Int.toNat s.fst.snd.snd.fst) (0 : UInt8))) :
                                      Int),
                                  IntKind.wrap IntKind.i64
                                    (↑(UInt8.toNat (List.getD s.fst.fst (Int.toNat s.fst.snd.snd.fst) (0 : UInt8))) :
                                      Int),
                                  (↑(UInt8.toNat
                                          (List.getD s.fst.fst
                                            (Int.toNat
                                              (IntKind.wrap IntKind.i64
                                                (IntKind.wrap IntKind.i64 (s.fst.snd.snd.fst + (1 : Int)) + (1 : Int))))
                                            (0 : UInt8))) :
                                      Int) !=
                                    (93 : Int),
                                  ()),
                                s.snd.fst, ())
                          else none
                        else
                          some
                            ((s.fst.fst, (), IntKind.wrap IntKind.i64 (s.fst.snd.snd.fst + (1 : Int)),
                                IntKind.wrap IntKind.i64
                                  (↑(UInt8.toNat (List.getD s.fst.fst (Int.toNat s.fst.snd.snd.fst) (0 : UInt8))) :
                                    Int),
                                IntKind.wrap IntKind.i64
                                  (↑(UInt8.toNat (List.getD s.fst.fst (Int.toNat s.fst.snd.snd.fst) (0 : UInt8))) :
                                    Int),
                                false, ()),
                              s.snd.fst, ())
                      else none
                    else
                      some
                        ((s.fst.fst, (), IntKind.wrap IntKind.i64 (s.fst.snd.snd.fst + (1 : Int)),
                            IntKind.wrap IntKind.i64
                              (↑(UInt8.toNat (List.getD s.fst.fst (Int.toNat s.fst.snd.snd.fst) (0 : UInt8))) : Int),
                            IntKind.wrap IntKind.i64
                              (↑(UInt8.toNat (List.getD s.fst.fst (Int.toNat s.fst.snd.snd.fst) (0 : UInt8))) : Int),
                            false, ()),
                          s.snd.fst, ()))
                    fun
                      (s : (List UInt8 × PUnit × Int × Int × Int × Bool × PUnit) × (Int × Bool × List Bool) × PUnit) =>
                    Option.bind
                      (bif s.fst.snd.snd.snd.snd.snd.fst then
                        if
                            (0 : Int) ≤ IntKind.wrap IntKind.i64 (s.fst.snd.snd.fst + (1 : Int)) ∧
                              IntKind.wrap IntKind.i64 (s.fst.snd.snd.fst + (1 : Int)) <
                                (↑(List.length s.fst.fst) : Int) then
                          some
                            ((s.fst.fst, (), IntKind.wrap IntKind.i64 (s.fst.snd.snd.fst + (2 : Int)),
                                s.fst.snd.snd.snd.fst,
                                IntKind.wrap IntKind.i64
                                  (↑(UInt8.toNat
                                        (List.getD s.fst.fst
                                          (Int.toNat (IntKind.wrap IntKind.i64 (s.fst.snd.snd.fst + (1 : Int))))
                                          (0 : UInt8))) :
                                    Int),
                                ()),
                              s.snd.fst, ())
                        else none
                      else
                        some
                          ((s.fst.fst, (), s.fst.snd.snd.fst, s.fst.snd.snd.snd.fst, s.fst.snd.snd.snd.snd.fst, ()),
                            s.snd.fst, ()))
                      fun (s : (List UInt8 × PUnit × Int × Int × Int × PUnit) × (Int × Bool × List Bool) × PUnit) =>
                      loopC
                        (List.length s.fst.fst + Int.toNat s.fst.snd.snd.fst + Int.toNat s.fst.snd.snd.snd.snd.fst +
                            Int.toNat s.fst.snd.snd.snd.fst +
                          (300 : Nat))
                        (fun (s : (List UInt8 × PUnit × Int × Int × Int × PUnit) × (Int × Bool × List Bool) × PUnit)
                            (k_1 :
                              (List UInt8 × PUnit × Int × Int × Int × PUnit) × (Int × Bool × List Bool) × PUnit →
                                Option ((Option (Int × Bool × List Bool) × Int × PUnit) × PUnit)) =>
                          bif decide (s.fst.snd.snd.snd.snd.fst ≤ s.fst.snd.snd.snd.fst) then
                            if
                                (0 : Int) ≤ s.fst.snd.snd.snd.snd.fst ∧
                                  s.fst.snd.snd.snd.snd.fst < (↑(256 : Nat) : Int) ∧
                                    s.fst.snd.snd.snd.snd.fst < (↑(List.length s.snd.fst.snd.snd) : Int) then
                              if Int.toNat s.fst.snd.snd.snd.snd.fst < List.length s.snd.fst.snd.snd then
                                k_1
                                  ((s.fst.fst, (), s.fst.snd.snd.fst, s.fst.snd.snd.snd.fst,
                                      IntKind.wrap IntKind.i64 (s.fst.snd.snd.snd.snd.fst + (1 : Int)), ()),
                                    (s.snd.fst.fst, s.snd.fst.snd.fst,
                                      List.set s.snd.fst.snd.snd (Int.toNat s.fst.snd.snd.snd.snd.fst) true),
                                    ())
                              else none
                            else none
                          else k ((s.fst.fst, (), s.fst.snd.snd.fst, false, ()), s.snd.fst, ()))
                        ((s.fst.fst, (), s.fst.snd.snd.fst, s.fst.snd.snd.snd.snd.fst, s.fst.snd.snd.snd.fst, ()),
                          s.snd.fst, ())
                else none
              else none
            else
              bif decide (s.fst.snd.snd.fst ≥ (↑(List.length s.fst.fst) : Int)) then some ((none, (0 : Int), ()), ())
              else some ((some s.snd.fst, IntKind.wrap IntKind.i64 (s.fst.snd.snd.fst + (1 : Int)), ()), ()))
        ((s.fst.fst, (), s.fst.snd.snd.fst, true, ()), s.snd.fst, ())
-- impl.one
def m_impl_one (a0 : Int) : Option ((Int × (Bool × List Bool)) × Unit) :=
  if (0 : Int) ≤ a0 ∧ a0 < (↑(256 : Nat) : Int) ∧ a0 < (↑(List.length (List.replicate (256 : Nat) false)) : Int) then
    if Int.toNat a0 < List.length (List.replicate (256 : Nat) false) then
      some (((0 : Int), false, List.set (List.replicate (256 : Nat) false) (Int.toNat a0) true), ())
    else none
  else none
-- impl.pieces
def m_impl_pieces (a0 : List UInt8) : Option ((List (Int × (Bool × List Bool)) × Bool × Unit) × Unit) :=
  Option.bind (m_impl_within (↑(List.length a0) : Int) (1 : Int) (60 : Int)) fun (r : Bool × PUnit) =>
    bif !r.fst then some ((nilOf (Int × Bool × List Bool), false, ()), ())
    else
      loopC (List.length a0 + List.length (nilOf (Int × Bool × List Bool)) + (300 : Nat))
        (fun (s : (List UInt8 × PUnit × PUnit) × List (Int × Bool × List Bool) × PUnit)
            (k :
              (List UInt8 × PUnit × PUnit) × List (Int × Bool × List Bool) × PUnit →
                Option ((List (Int × Bool × List Bool) × Bool × PUnit) × PUnit)) =>
          bif !s.fst.fst == nilOf UInt8 then
            Option.bind (m_strings_HasPrefix s.fst.fst [(42 : UInt8), (42 : UInt8)]) fun (r : Bool × PUnit) =>
              joinC
                (bif r.fst then
                  if
                      (List.length s.snd.fst + List.length [((3 : Int), false, List.replicate (256 : Nat) false)]) *
                          (8 : Nat) ≤
                        (140737488355328 : Nat) then
                    some
                      (Sum.inl
                        ((s.fst.fst, (), (2 : Int), ()),
                          s.snd.fst ++ [((3 : Int), false, List.replicate (256 : Nat) false)], ()))
                  else none
                else
                  if (0 : Int) ≤ (0 : Int) ∧ (0 : Int) < (↑(List.length s.fst.fst) : Int) then
                    joinC
                      (bif
                          (↑(UInt8.toNat (List.getD s.fst.fst (Int.toNat (0 : Int)) (0 : UInt8))) : Int) ==
                            (42 : Int) then
                        if
                            (List.length s.snd.fst +
                                  List.length [((2 : Int), false, List.replicate (256 : Nat) false)]) *
                                (8 : Nat) ≤
                              (140737488355328 : Nat) then
                          some
                            (Sum.inl
                              ((s.fst.fst, (), (1 : Int), ()),
                                s.snd.fst ++ [((2 : Int), false, List.replicate (256 : Nat) false)], ()))
                        else none
                      else
                        if (0 : Int) ≤ (0 : Int) ∧ (0 : Int) < (↑(List.length s.fst.fst) : Int) then
                          joinC
                            (bif
                                (↑(UInt8.toNat (List.getD s.fst.fst (Int.toNat (0 : Int)) (0 : UInt8))) : Int) ==
                                  (63 : Int) then
                              if
                                  (List.length s.snd.fst +
                                        List.length [((1 : Int), false, List.replicate (256 : Nat) false)]) *
                                      (8 : Nat) ≤
                                    (140737488355328 : Nat) then
                                some
                                  (Sum.inl
                                    ((s.fst.fst, (), (1 : Int), ()),
                                      s.snd.fst ++ [((1 : Int), false, List.replicate (256 : Nat) false)], ()))
                              else none
                            else
                              if (0 : Int) ≤ (0 : Int) ∧ (0 : Int) < (↑(List.length s.fst.fst) : Int) then
                                joinC
                                  (bif
                                      (↑(UInt8.toNat (List.getD s.fst.fst (Int.toNat (0 : Int)) (0 : UInt8))) : Int) ==
                                        (91 : Int) then
                                    if
                                        (0 : Int) ≤ (1 : Int) ∧
                                          (1 : Int) ≤ (↑(List.length s.fst.fst) : Int) ∧
                                            (↑(List.length s.fst.fst) : Int) ≤ (↑(List.length s.fst.fst) : Int) then
                                      Option.bind
                                        (m_impl_class
                                          (List.drop (Int.toNat (1 : Int))
                                            (List.take (Int.toNat (↑(List.length s.fst.fst) : Int)) s.fst.fst)))
                                        fun (r : (Option (Int × Bool × List Bool) × Int × PUnit) × PUnit) =>
                                        bif r.fst.snd.fst == (0 : Int) then
                                          some
                                            (Sum.inr
                                              (Sum.inr
                                                (Sum.inr (Sum.inr ((nilOf (Int × Bool × List Bool), false, ()), ())))))
                                        else
                                          Option.bind r.fst.1 fun (y : Int × Bool × List Bool) =>
                                            if
                                                (List.length s.snd.fst + List.length [y]) * (8 : Nat) ≤
                                                  (140737488355328 : Nat) then
                                              some
                                                (Sum.inl
                                                  ((s.fst.fst, (), IntKind.wrap IntKind.i64 ((1 : Int) + r.fst.snd.fst),
                                                      ()),
                                                    s.snd.fst ++ [y], ()))
                                            else none
                                    else none
                                  else
                                    if (0 : Int) ≤ (0 : Int) ∧ (0 : Int) < (↑(List.length s.fst.fst) : Int) then
                                      joinC
                                        (bif
                                            (↑(UInt8.toNat (List.getD s.fst.fst (Int.toNat (0 : Int)) (0 : UInt8))) :
                                                Int) ==
                                              (92 : Int) then
                                          bif decide ((↑(List.length s.fst.fst) : Int) < (2 : Int)) then
                                            some
                                              (Sum.inr
                                                (Sum.inr
                                                  (Sum.inr
                                                    (Sum.inr
                                                      (Sum.inr ((nilOf (Int × Bool × List Bool), false, ()), ()))))))
                                          else
                                            if (0 : Int) ≤ (1 : Int) ∧ (1 : Int) < (↑(List.length s.fst.fst) : Int) then
                                              Option.bind
                                                (m_impl_one
                                                  (↑(UInt8.toNat
                                                        (List.getD s.fst.fst (Int.toNat (1 : Int)) (0 : UInt8))) :
                                                    Int))
                                                fun (r : (Int × Bool × List Bool) × PUnit) =>
                                                if
                                                    (List.length s.snd.fst + List.length [r.fst]) * (8 : Nat) ≤
                                                      (140737488355328 : Nat) then
                                                  some
                                                    (Sum.inl ((s.fst.fst, (), (2 : Int), ()), s.snd.fst ++ [r.fst], ()))
                                                else none
                                            else none
                                        else
                                          if (0 : Int) ≤ (0 : Int) ∧ (0 : Int) < (↑(List.length s.fst.fst) : Int) then
                                            Option.bind
                                              (m_impl_one
                                                (↑(UInt8.toNat
                                                      (List.getD s.fst.fst (Int.toNat (0 : Int)) (0 : UInt8))) :
                                                  Int))
                                              fun (r : (Int × Bool × List Bool) × PUnit) =>
                                              if
                                                  (List.length s.snd.fst + List.length [r.fst]) * (8 : Nat) ≤
                                                    (140737488355328 : Nat) then
                                                some
                                                  (Sum.inl ((s.fst.fst, (), (1 : Int), ()), s.snd.fst ++ [r.fst], ()))
                                              else none
                                          else none)
                                        fun
                                          (s :
                                            (List UInt8 × PUnit × Int × PUnit) ×
                                              List (Int × Bool × List Bool) × PUnit) =>
                                        some (Sum.inl ((s.fst.fst, (), s.fst.snd.snd.fst, ()), s.snd.fst, ()))
                                    else none)
                                  fun
                                    (s : (List UInt8 × PUnit × Int × PUnit) × List (Int × Bool × List Bool) × PUnit) =>
                                  some (Sum.inl ((s.fst.fst, (), s.fst.snd.snd.fst, ()), s.snd.fst, ()))
                              else none)
                            fun (s : (List UInt8 × PUnit × Int × PUnit) × List (Int × Bool × List Bool) × PUnit) =>
                            some (Sum.inl ((s.fst.fst, (), s.fst.snd.snd.fst, ()), s.snd.fst, ()))
                        else none)
                      fun (s : (List UInt8 × PUnit × Int × PUnit) × List (Int × Bool × List Bool) × PUnit) =>
                      some (Sum.inl ((s.fst.fst, (), s.fst.snd.snd.fst, ()), s.snd.fst, ()))
                  else none)
                fun (s : (List UInt8 × PUnit × Int × PUnit) × List (Int × Bool × List Bool) × PUnit) =>
                if
                    (0 : Int) ≤ s.fst.snd.snd.fst ∧
                      s.fst.snd.snd.fst ≤ (↑(List.length s.fst.fst) : Int) ∧
                        (↑(List.length s.fst.fst) : Int) ≤ (↑(List.length s.fst.fst) : Int) then
                  k
                    ((List.drop (Int.toNat s.fst.snd.snd.fst)
                          (List.take (Int.toNat (↑(List.length s.fst.fst) : Int)) s.fst.fst),
                        (), ()),
                      s.snd.fst, ())
                else none
          else some ((s.snd.fst, true, ()), ()))
        ((a0, (), ()), nilOf (Int × Bool × List Bool), ())
-- impl.PatternOk
def m_impl_PatternOk (a0 : List UInt8) : Option (Bool × Unit) :=
  Option.bind (m_impl_pieces a0) fun (r : (List (Int × Bool × List Bool) × Bool × Unit) × Unit) => some r.fst.snd
-- strings.ContainsAny
def m_strings_ContainsAny (a0 a1 : List UInt8) : Option (Bool × Unit) := containsM a0 a1
-- impl.Plain
def m_impl_Plain (a0 : List UInt8) : Option (Bool × Unit) :=
  Option.bind
    (Option.bind (m_impl_PatternOk a0) fun (r : Bool × Unit) =>
      bif r.fst then
        Option.bind (m_strings_ContainsAny a0 [(42 : UInt8), (63 : UInt8), (91 : UInt8), (92 : UInt8)])
          fun (r : Bool × Unit) => some ((!r.fst, ()), ())
      else some ((false, ()), ()))
    fun (s : (Bool × Unit) × Unit) => some s.fst
-- laws.FnExactPlain
def m_laws_FnExactPlain (a0 : List UInt8) : Option (Bool × Unit) :=
  bif decide ((↑(List.length a0) : Int) > (1048576 : Int)) then some (true, ())
  else
    Option.bind (m_spec_Plain a0) fun (r : Bool × Unit) =>
      Option.bind (m_impl_Plain a0) fun (r_1 : Bool × Unit) =>
        bif !r_1.fst == r.fst then some (false, ()) else some (true, ())
end Go.AM
