/- What each function computes, in plain Lean. -/
import Derived.Test.YtkjbhlhebjfklaaAmE
set_option linter.unusedVariables false
set_option maxRecDepth 100000
namespace Go.AM
open Go
-- laws.big
def m_laws_big (a0 : List Int) : Option (Bool × Unit) :=
  some (decide ((↑(List.length a0) : Int) > (1048576 : Int)), ())
-- spec.l01New
def m_spec_l01New (a0 : List Int) : Option (Unit × ((List Int × Int × Int × Unit) × Unit)) :=
  Option.bind
    (loopC
      (List.length a0 + Int.toNat (IntKind.wrap IntKind.i64 ((100100 : Int) + (↑(List.length a0) : Int))) +
          Int.toNat (0 : Int) +
        (300 : Nat))
      (fun (s : (List Int × Int × Int × PUnit) × PUnit)
          (k : (List Int × Int × Int × PUnit) × PUnit → Option ((List Int × Int × PUnit) × PUnit)) =>
        Option.bind
          (bif decide (s.fst.snd.snd.fst < (↑(List.length s.fst.fst) : Int)) then
            some ((s.fst.fst, s.fst.snd.fst, s.fst.snd.snd.fst, decide (s.fst.snd.snd.fst < (4000 : Int)), ()), ())
          else some ((s.fst.fst, s.fst.snd.fst, s.fst.snd.snd.fst, false, ()), ()))
          fun (s : (List Int × Int × Int × Bool × PUnit) × PUnit) =>
          bif s.fst.snd.snd.snd.fst then
            if (0 : Int) ≤ s.fst.snd.snd.fst ∧ s.fst.snd.snd.fst < (↑(List.length s.fst.fst) : Int) then
              k
                ((s.fst.fst,
                    bitsOf BinOp.and IntKind.i64
                      (IntKind.wrap IntKind.i64
                        (IntKind.wrap IntKind.i64
                            (IntKind.wrap IntKind.i64 (s.fst.snd.fst * (131 : Int)) +
                              IntKind.wrap IntKind.i64
                                (List.getD s.fst.fst (Int.toNat s.fst.snd.snd.fst) (Int.ofNat (nat_lit 0)))) +
                          (7 : Int)))
                      (1073741823 : Int),
                    IntKind.wrap IntKind.i64 (s.fst.snd.snd.fst + (1 : Int)), ()),
                  ())
            else none
          else some ((s.fst.fst, s.fst.snd.fst, ()), ()))
      ((a0, IntKind.wrap IntKind.i64 ((100100 : Int) + (↑(List.length a0) : Int)), (0 : Int), ()), ()))
    fun (s : (List Int × Int × PUnit) × PUnit) => some ((), (s.fst.fst, (0 : Int), s.fst.snd.fst, ()), ())
-- spec.l01Byte
def m_spec_l01Byte (s0 : (List Int × Int × Int × Unit)) : Option (Int × ((List Int × Int × Int × Unit) × Unit)) :=
  if (0 : Int) ≤ (33 : Int) then
    if (0 : Int) ≤ (45 : Int) then
      Option.bind
        (bif decide (s0.snd.fst < (↑(List.length s0.fst) : Int)) then
          if (0 : Int) ≤ s0.snd.fst ∧ s0.snd.fst < (↑(List.length s0.fst) : Int) then
            some
              ((bitsOf BinOp.and IntKind.i64
                    (IntKind.wrap IntKind.i64
                      (bitsOf BinOp.and IntKind.i64
                          (bitsOf BinOp.xor IntKind.i64
                            (Int.fdiv
                              (IntKind.wrap IntKind.i64
                                (IntKind.wrap IntKind.i64 (s0.snd.snd.fst * (6364136223846793005 : Int)) +
                                  (1442695040888963407 : Int)))
                              ((2 : Int) ^ min (Int.toNat (33 : Int)) (IntKind.bits IntKind.i64)))
                            (Int.fdiv
                              (IntKind.wrap IntKind.i64
                                (IntKind.wrap IntKind.i64 (s0.snd.snd.fst * (6364136223846793005 : Int)) +
                                  (1442695040888963407 : Int)))
                              ((2 : Int) ^ min (Int.toNat (45 : Int)) (IntKind.bits IntKind.i64))))
                          (255 : Int) +
                        IntKind.wrap IntKind.i64 (List.getD s0.fst (Int.toNat s0.snd.fst) (Int.ofNat (nat_lit 0)))))
                    (255 : Int),
                  ()),
                (s0.fst, IntKind.wrap IntKind.i64 (s0.snd.fst + (1 : Int)),
                  IntKind.wrap IntKind.i64
                    (IntKind.wrap IntKind.i64 (s0.snd.snd.fst * (6364136223846793005 : Int)) +
                      (1442695040888963407 : Int)),
                  ()),
                ())
          else none
        else
          some
            ((bitsOf BinOp.and IntKind.i64
                  (bitsOf BinOp.xor IntKind.i64
                    (Int.fdiv
                      (IntKind.wrap IntKind.i64
                        (IntKind.wrap IntKind.i64 (s0.snd.snd.fst * (6364136223846793005 : Int)) +
                          (1442695040888963407 : Int)))
                      ((2 : Int) ^ min (Int.toNat (33 : Int)) (IntKind.bits IntKind.i64)))
                    (Int.fdiv
                      (IntKind.wrap IntKind.i64
                        (IntKind.wrap IntKind.i64 (s0.snd.snd.fst * (6364136223846793005 : Int)) +
                          (1442695040888963407 : Int)))
                      ((2 : Int) ^ min (Int.toNat (45 : Int)) (IntKind.bits IntKind.i64))))
                  (255 : Int),
                ()),
              (s0.fst, s0.snd.fst,
                IntKind.wrap IntKind.i64
                  (IntKind.wrap IntKind.i64 (s0.snd.snd.fst * (6364136223846793005 : Int)) +
                    (1442695040888963407 : Int)),
                ()),
              ()))
        fun (s : (Int × PUnit) × (List Int × Int × Int × PUnit) × PUnit) =>
        some (s.fst.fst, (s.snd.fst.fst, s.snd.fst.snd.fst, s.snd.fst.snd.snd.fst, ()), ())
    else none
  else none
-- spec.l01Below
def m_spec_l01Below (a1 : Int) (s0 : (List Int × Int × Int × Unit)) : Option (Int × ((List Int × Int × Int × Unit) × Unit)) :=
  bif decide (a1 ≤ (0 : Int)) then some ((0 : Int), (s0.fst, s0.snd.fst, s0.snd.snd.fst, ()), ())
  else
    bif decide (a1 ≤ (256 : Int)) then
      Option.bind (m_spec_l01Byte (s0.fst, s0.snd.fst, s0.snd.snd.fst, ()))
        fun (r : Int × (List Int × Int × Int × PUnit) × PUnit) =>
        if a1 ≠ (0 : Int) then
          some (Int.tmod r.fst a1, (r.snd.fst.fst, r.snd.fst.snd.fst, r.snd.fst.snd.snd.fst, ()), ())
        else none
    else
      Option.bind (m_spec_l01Byte (s0.fst, s0.snd.fst, s0.snd.snd.fst, ()))
        fun (r : Int × (List Int × Int × Int × PUnit) × PUnit) =>
        Option.bind (m_spec_l01Byte (r.snd.fst.fst, r.snd.fst.snd.fst, r.snd.fst.snd.snd.fst, ()))
          fun (r_1 : Int × (List Int × Int × Int × PUnit) × PUnit) =>
          Option.bind (m_spec_l01Byte (r_1.snd.fst.fst, r_1.snd.fst.snd.fst, r_1.snd.fst.snd.snd.fst, ()))
            fun (r_2 : Int × (List Int × Int × Int × PUnit) × PUnit) =>
            Option.bind (m_spec_l01Byte (r_2.snd.fst.fst, r_2.snd.fst.snd.fst, r_2.snd.fst.snd.snd.fst, ()))
              fun (r_3 : Int × (List Int × Int × Int × PUnit) × PUnit) =>
              if a1 ≠ (0 : Int) then
                some
                  (Int.tmod
                      (IntKind.wrap IntKind.i64
                        (IntKind.wrap IntKind.i64
                            (IntKind.wrap IntKind.i64
                                (IntKind.wrap IntKind.i64 (r.fst * (16777216 : Int)) +
                                  IntKind.wrap IntKind.i64 (r_1.fst * (65536 : Int))) +
                              IntKind.wrap IntKind.i64 (r_2.fst * (256 : Int))) +
                          r_3.fst))
                      a1,
                    (r_3.snd.fst.fst, r_3.snd.fst.snd.fst, r_3.snd.fst.snd.snd.fst, ()), ())
              else none
-- spec.l01Pick
def m_spec_l01Pick (a1 : List (List UInt8)) (s0 : (List Int × Int × Int × Unit)) : Option (List UInt8 × ((List Int × Int × Int × Unit) × Unit)) :=
  Option.bind (m_spec_l01Below (↑(List.length a1) : Int) (s0.fst, s0.snd.fst, s0.snd.snd.fst, ()))
    fun (r : Int × (List Int × Int × Int × PUnit) × PUnit) =>
    if (0 : Int) ≤ r.fst ∧ r.fst < (↑(List.length a1) : Int) then
      some
        (List.getD a1 (Int.toNat r.fst) (nilOf UInt8), (r.snd.fst.fst, r.snd.fst.snd.fst, r.snd.fst.snd.snd.fst, ()),
          ())
    else none
-- spec.l08Pattern
def m_spec_l08Pattern (s0 : (List Int × Int × Int × Unit)) : Option (List UInt8 × ((List Int × Int × Int × Unit) × Unit)) :=
  Option.bind (m_spec_l01Below (5 : Int) (s0.fst, s0.snd.fst, s0.snd.snd.fst, ()))
    fun (r : Int × (List Int × Int × Int × PUnit) × PUnit) =>
    Option.bind
      (loopC
        (List.length (nilOf UInt8) + Int.toNat (IntKind.wrap IntKind.i64 ((1 : Int) + r.fst)) + Int.toNat (0 : Int) +
                List.length r.snd.fst.fst +
              Int.toNat r.snd.fst.snd.fst +
            Int.toNat r.snd.fst.snd.snd.fst +
          (300 : Nat))
        (fun (s : (PUnit × List UInt8 × Int × Int × PUnit) × (List Int × Int × Int × PUnit) × PUnit)
            (k :
              (PUnit × List UInt8 × Int × Int × PUnit) × (List Int × Int × Int × PUnit) × PUnit →
                Option ((List UInt8 × PUnit) × (List Int × Int × Int × PUnit) × PUnit)) =>
          bif decide (s.fst.snd.snd.snd.fst < s.fst.snd.snd.fst) then
            Option.bind
              (m_spec_l01Pick
                [[(42 : UInt8)], [(42 : UInt8), (42 : UInt8)], [(63 : UInt8)], [(97 : UInt8)], [(98 : UInt8)],
                  [(47 : UInt8)], [(120 : UInt8)], [(46 : UInt8), (116 : UInt8), (120 : UInt8), (116 : UInt8)],
                  [(91 : UInt8), (97 : UInt8), (45 : UInt8), (99 : UInt8), (93 : UInt8)],
                  [(91 : UInt8), (33 : UInt8), (97 : UInt8), (93 : UInt8)],
                  [(91 : UInt8), (93 : UInt8), (120 : UInt8), (93 : UInt8)],
                  [(100 : UInt8), (111 : UInt8), (99 : UInt8), (115 : UInt8)], [(92 : UInt8), (42 : UInt8)],
                  [(105 : UInt8), (109 : UInt8), (103 : UInt8), (47 : UInt8)],
                  [(91 : UInt8), (122 : UInt8), (45 : UInt8), (97 : UInt8), (93 : UInt8)], [(121 : UInt8)],
                  [(46 : UInt8), (111 : UInt8)], [(91 : UInt8), (33 : UInt8), (93 : UInt8), (45 : UInt8), (93 : UInt8)]]
                (s.snd.fst.fst, s.snd.fst.snd.fst, s.snd.fst.snd.snd.fst, ()))
              fun (r : List UInt8 × (List Int × Int × Int × PUnit) × PUnit) =>
              if List.length s.fst.snd.fst + List.length r.fst < (2 : Nat) ^ (63 : Nat) then
                k
                  (((), s.fst.snd.fst ++ r.fst, s.fst.snd.snd.fst,
                      IntKind.wrap IntKind.i64 (s.fst.snd.snd.snd.fst + (1 : Int)), ()),
                    (r.snd.fst.fst, r.snd.fst.snd.fst, r.snd.fst.snd.snd.fst, ()), ())
              else none
          else some ((s.fst.snd.fst, ()), (s.snd.fst.fst, s.snd.fst.snd.fst, s.snd.fst.snd.snd.fst, ()), ()))
        (((), nilOf UInt8, IntKind.wrap IntKind.i64 ((1 : Int) + r.fst), (0 : Int), ()),
          (r.snd.fst.fst, r.snd.fst.snd.fst, r.snd.fst.snd.snd.fst, ()), ()))
      fun (s : (List UInt8 × PUnit) × (List Int × Int × Int × PUnit) × PUnit) =>
      some (s.fst.fst, (s.snd.fst.fst, s.snd.fst.snd.fst, s.snd.fst.snd.snd.fst, ()), ())
-- spec.l01Text
def m_spec_l01Text (a1 : Int) (s0 : (List Int × Int × Int × Unit)) : Option (List UInt8 × ((List Int × Int × Int × Unit) × Unit)) :=
  Option.bind
    (loopC ((2 : Nat) ^ (100 : Nat))
      (fun (s : (PUnit × Int × PUnit × PUnit) × (List Int × Int × Int × PUnit) × List Int × PUnit)
          (k :
            (PUnit × Int × PUnit × PUnit) × (List Int × Int × Int × PUnit) × List Int × PUnit →
              Option ((Int × PUnit × PUnit) × (List Int × Int × Int × PUnit) × List Int × PUnit)) =>
        bif decide ((↑(List.length s.snd.snd.fst) : Int) < s.fst.snd.fst) then
          Option.bind (m_spec_l01Below (5 : Int) (s.snd.fst.fst, s.snd.fst.snd.fst, s.snd.fst.snd.snd.fst, ()))
            fun (r : Int × (List Int × Int × Int × PUnit) × PUnit) =>
            Option.bind
              (bif r.fst == (0 : Int) then
                Option.bind (m_spec_l01Byte (r.snd.fst.fst, r.snd.fst.snd.fst, r.snd.fst.snd.snd.fst, ()))
                  fun (r : Int × (List Int × Int × Int × PUnit) × PUnit) =>
                  if
                      (List.length s.snd.snd.fst + List.length [IntKind.wrap IntKind.u8 r.fst]) * (1 : Nat) ≤
                        (140737488355328 : Nat) then
                    some
                      (((), s.fst.snd.fst, (), ()), (r.snd.fst.fst, r.snd.fst.snd.fst, r.snd.fst.snd.snd.fst, ()),
                        s.snd.snd.fst ++ [IntKind.wrap IntKind.u8 r.fst], ())
                  else none
              else
                Option.bind
                  (bif r.fst == (1 : Int) then
                    Option.bind
                      (m_spec_l01Below (9 : Int) (r.snd.fst.fst, r.snd.fst.snd.fst, r.snd.fst.snd.snd.fst, ()))
                      fun (r : Int × (List Int × Int × Int × PUnit) × PUnit) =>
                      Option.bind
                        (m_spec_l01Below (4 : Int) (r.snd.fst.fst, r.snd.fst.snd.fst, r.snd.fst.snd.snd.fst, ()))
                        fun (r_1 : Int × (List Int × Int × Int × PUnit) × PUnit) =>
                        Option.bind
                          (loopC ((2 : Nat) ^ (100 : Nat))
                            (fun
                                (s :
                                  (PUnit × Int × PUnit × Int × Int × Int × PUnit) ×
                                    (List Int × Int × Int × PUnit) × List Int × PUnit)
                                (k :
                                  (PUnit × Int × PUnit × Int × Int × Int × PUnit) ×
                                      (List Int × Int × Int × PUnit) × List Int × PUnit →
                                    Option
                                      ((PUnit × Int × PUnit × PUnit) ×
                                        (List Int × Int × Int × PUnit) × List Int × PUnit)) =>
                              bif decide (s.fst.snd.snd.snd.snd.snd.fst < s.fst.snd.snd.snd.fst) then
                                if
                                    (List.length s.snd.snd.fst + List.length [s.fst.snd.snd.snd.snd.fst]) * (1 : Nat) ≤
                                      (140737488355328 : Nat) then
                                  k
                                    (((), s.fst.snd.fst, (), s.fst.snd.snd.snd.fst, s.fst.snd.snd.snd.snd.fst,
                                        IntKind.wrap IntKind.i64 (s.fst.snd.snd.snd.snd.snd.fst + (1 : Int)), ()),
                                      (s.snd.fst.fst, s.snd.fst.snd.fst, s.snd.fst.snd.snd.fst, ()),
                                      s.snd.snd.fst ++ [s.fst.snd.snd.snd.snd.fst], ())
                                else none
                              else
                                some
                                  (((), s.fst.snd.fst, (), ()),
                                    (s.snd.fst.fst, s.snd.fst.snd.fst, s.snd.fst.snd.snd.fst, ()), s.snd.snd.fst, ()))
                            (((), s.fst.snd.fst, (), r.fst,
                                IntKind.wrap IntKind.u8 (IntKind.wrap IntKind.i64 ((97 : Int) + r_1.fst)), (0 : Int),
                                ()),
                              (r_1.snd.fst.fst, r_1.snd.fst.snd.fst, r_1.snd.fst.snd.snd.fst, ()), s.snd.snd.fst, ()))
                          fun (s : (PUnit × Int × PUnit × PUnit) × (List Int × Int × Int × PUnit) × List Int × PUnit) =>
                          some
                            (((), s.fst.snd.fst, (), ()), (s.snd.fst.fst, s.snd.fst.snd.fst, s.snd.fst.snd.snd.fst, ()),
                              s.snd.snd.fst, ())
                  else
                    Option.bind
                      (bif r.fst == (2 : Int) then
                        Option.bind
                          (bif decide ((↑(List.length s.snd.snd.fst) : Int) > (0 : Int)) then
                            Option.bind
                              (m_spec_l01Below (↑(List.length s.snd.snd.fst) : Int)
                                (r.snd.fst.fst, r.snd.fst.snd.fst, r.snd.fst.snd.snd.fst, ()))
                              fun (r : Int × (List Int × Int × Int × PUnit) × PUnit) =>
                              Option.bind
                                (m_spec_l01Below (20 : Int)
                                  (r.snd.fst.fst, r.snd.fst.snd.fst, r.snd.fst.snd.snd.fst, ()))
                                fun (r_1 : Int × (List Int × Int × Int × PUnit) × PUnit) =>
                                Option.bind
                                  (loopC ((2 : Nat) ^ (100 : Nat))
                                    (fun
                                        (s :
                                          (PUnit × Int × PUnit × Int × Int × Int × PUnit) ×
                                            (List Int × Int × Int × PUnit) × List Int × PUnit)
                                        (k :
                                          (PUnit × Int × PUnit × Int × Int × Int × PUnit) ×
                                              (List Int × Int × Int × PUnit) × List Int × PUnit →
                                            Option
                                              ((PUnit × Int × PUnit × PUnit) ×
                                                (List Int × Int × Int × PUnit) × List Int × PUnit)) =>
                                      Option.bind
                                        (bif decide (s.fst.snd.snd.snd.snd.snd.fst < s.fst.snd.snd.snd.snd.fst) then
                                          some
                                            (((), s.fst.snd.fst, (), s.fst.snd.snd.snd.fst, s.fst.snd.snd.snd.snd.fst,
                                                s.fst.snd.snd.snd.snd.snd.fst,
                                                decide
                                                  (IntKind.wrap IntKind.i64
                                                      (s.fst.snd.snd.snd.fst + s.fst.snd.snd.snd.snd.snd.fst) <
                                                    (↑(List.length s.snd.snd.fst) : Int)),
                                                ()),
                                              (s.snd.fst.fst, s.snd.fst.snd.fst, s.snd.fst.snd.snd.fst, ()),
                                              s.snd.snd.fst, ())
                                        else
                                          some
                                            (((), s.fst.snd.fst, (), s.fst.snd.snd.snd.fst, s.fst.snd.snd.snd.snd.fst,
                                                s.fst.snd.snd.snd.snd.snd.fst, false, ()),
                                              (s.snd.fst.fst, s.snd.fst.snd.fst, s.snd.fst.snd.snd.fst, ()),
                                              s.snd.snd.fst, ()))
                                        fun
                                          (s :
                                            (PUnit × Int × PUnit × Int × Int × Int × Bool × PUnit) ×
                                              (List Int × Int × Int × PUnit) × List Int × PUnit) =>
                                        bif s.fst.snd.snd.snd.snd.snd.snd.fst then
                                          if
                                              (0 : Int) ≤
                                                  IntKind.wrap IntKind.i64
                                                    (s.fst.snd.snd.snd.fst + s.fst.snd.snd.snd.snd.snd.fst) ∧
                                                IntKind.wrap IntKind.i64
                                                    (s.fst.snd.snd.snd.fst + s.fst.snd.snd.snd.snd.snd.fst) <
                                                  (↑(List.length s.snd.snd.fst) : Int) then
                                            if
                                                Int.toNat
                                                    (IntKind.wrap IntKind.i64
                                                      (s.fst.snd.snd.snd.fst + s.fst.snd.snd.snd.snd.snd.fst)) <
                                                  List.length s.snd.snd.fst then
                                              if
                                                  (List.length s.snd.snd.fst +
                                                        List.length
                                                          [List.getD s.snd.snd.fst
                                                              (Int.toNat
                                                                (IntKind.wrap IntKind.i64
                                                                  (s.fst.snd.snd.snd.fst +
                                                                    s.fst.snd.snd.snd.snd.snd.fst)))
                                                              (Int.ofNat (nat_lit 0))]) *
                                                      (1 : Nat) ≤
                                                    (140737488355328 : Nat) then
                                                k
                                                  (((), s.fst.snd.fst, (), s.fst.snd.snd.snd.fst,
                                                      s.fst.snd.snd.snd.snd.fst,
                                                      IntKind.wrap IntKind.i64
                                                        (s.fst.snd.snd.snd.snd.snd.fst + (1 : Int)),
                                                      ()),
                                                    (s.snd.fst.fst, s.snd.fst.snd.fst, s.snd.fst.snd.snd.fst, ()),
                                                    s.snd.snd.fst ++
                                                      [List.getD s.snd.snd.fst
                                                          (Int.toNat
                                                            (IntKind.wrap IntKind.i64
                                                              (s.fst.snd.snd.snd.fst + s.fst.snd.snd.snd.snd.snd.fst)))
                                                          (Int.ofNat (nat_lit 0))],
                                                    ())
                                              else none
                                            else none
                                          else none
                                        else
                                          some
                                            (((), s.fst.snd.fst, (), ()),
                                              (s.snd.fst.fst, s.snd.fst.snd.fst, s.snd.fst.snd.snd.fst, ()),
                                              s.snd.snd.fst, ()))
                                    (((), s.fst.snd.fst, (), r.fst, r_1.fst, (0 : Int), ()),
                                      (r_1.snd.fst.fst, r_1.snd.fst.snd.fst, r_1.snd.fst.snd.snd.fst, ()),
                                      s.snd.snd.fst, ()))
                                  fun
                                    (s :
                                      (PUnit × Int × PUnit × PUnit) ×
                                        (List Int × Int × Int × PUnit) × List Int × PUnit) =>
                                  some
                                    (((), s.fst.snd.fst, (), ()),
                                      (s.snd.fst.fst, s.snd.fst.snd.fst, s.snd.fst.snd.snd.fst, ()), s.snd.snd.fst, ())
                          else
                            some
                              (((), s.fst.snd.fst, (), ()),
                                (r.snd.fst.fst, r.snd.fst.snd.fst, r.snd.fst.snd.snd.fst, ()), s.snd.snd.fst, ()))
                          fun (s : (PUnit × Int × PUnit × PUnit) × (List Int × Int × Int × PUnit) × List Int × PUnit) =>
                          some
                            (((), s.fst.snd.fst, (), ()), (s.snd.fst.fst, s.snd.fst.snd.fst, s.snd.fst.snd.snd.fst, ()),
                              s.snd.snd.fst, ())
                      else
                        Option.bind
                          (m_spec_l01Below (26 : Int) (r.snd.fst.fst, r.snd.fst.snd.fst, r.snd.fst.snd.snd.fst, ()))
                          fun (r : Int × (List Int × Int × Int × PUnit) × PUnit) =>
                          if
                              (List.length s.snd.snd.fst +
                                    List.length
                                      [IntKind.wrap IntKind.u8 (IntKind.wrap IntKind.i64 ((97 : Int) + r.fst))]) *
                                  (1 : Nat) ≤
                                (140737488355328 : Nat) then
                            some
                              (((), s.fst.snd.fst, (), ()),
                                (r.snd.fst.fst, r.snd.fst.snd.fst, r.snd.fst.snd.snd.fst, ()),
                                s.snd.snd.fst ++
                                  [IntKind.wrap IntKind.u8 (IntKind.wrap IntKind.i64 ((97 : Int) + r.fst))],
                                ())
                          else none)
                      fun (s : (PUnit × Int × PUnit × PUnit) × (List Int × Int × Int × PUnit) × List Int × PUnit) =>
                      some
                        (((), s.fst.snd.fst, (), ()), (s.snd.fst.fst, s.snd.fst.snd.fst, s.snd.fst.snd.snd.fst, ()),
                          s.snd.snd.fst, ()))
                  fun (s : (PUnit × Int × PUnit × PUnit) × (List Int × Int × Int × PUnit) × List Int × PUnit) =>
                  some
                    (((), s.fst.snd.fst, (), ()), (s.snd.fst.fst, s.snd.fst.snd.fst, s.snd.fst.snd.snd.fst, ()),
                      s.snd.snd.fst, ()))
              fun (s : (PUnit × Int × PUnit × PUnit) × (List Int × Int × Int × PUnit) × List Int × PUnit) =>
              k
                (((), s.fst.snd.fst, (), ()), (s.snd.fst.fst, s.snd.fst.snd.fst, s.snd.fst.snd.snd.fst, ()),
                  s.snd.snd.fst, ())
        else
          some
            ((s.fst.snd.fst, (), ()), (s.snd.fst.fst, s.snd.fst.snd.fst, s.snd.fst.snd.snd.fst, ()), s.snd.snd.fst, ()))
      (((), a1, (), ()), (s0.fst, s0.snd.fst, s0.snd.snd.fst, ()), nilOf Int, ()))
    fun (s : (Int × PUnit × PUnit) × (List Int × Int × Int × PUnit) × List Int × PUnit) =>
    if (0 : Int) ≤ (0 : Int) ∧ (0 : Int) ≤ s.fst.fst ∧ s.fst.fst ≤ (↑(List.length s.snd.snd.fst) : Int) then
      some
        (List.map (fun (n : Int) => UInt8.ofNat (Int.toNat n))
            (List.drop (Int.toNat (0 : Int)) (List.take (Int.toNat s.fst.fst) s.snd.snd.fst)),
          (s.snd.fst.fst, s.snd.fst.snd.fst, s.snd.fst.snd.snd.fst, ()), ())
    else none
-- spec.l08Any
def m_spec_l08Any (s0 : (List Int × Int × Int × Unit)) : Option (List UInt8 × ((List Int × Int × Int × Unit) × Unit)) :=
  Option.bind (m_spec_l08Pattern (s0.fst, s0.snd.fst, s0.snd.snd.fst, ()))
    fun (r : List UInt8 × (List Int × Int × Int × PUnit) × PUnit) =>
    Option.bind (m_spec_l01Below (14 : Int) (r.snd.fst.fst, r.snd.fst.snd.fst, r.snd.fst.snd.snd.fst, ()))
      fun (r_1 : Int × (List Int × Int × Int × PUnit) × PUnit) =>
      Option.bind
        (bif r_1.fst == (0 : Int) then
          Option.bind
            (m_spec_l01Pick
              [nilOf UInt8, [(91 : UInt8)], [(91 : UInt8), (93 : UInt8)], [(91 : UInt8), (33 : UInt8), (93 : UInt8)],
                [(92 : UInt8)], [(97 : UInt8), (92 : UInt8)], [(42 : UInt8), (42 : UInt8), (42 : UInt8)],
                [(42 : UInt8), (42 : UInt8), (42 : UInt8), (42 : UInt8)],
                [(91 : UInt8), (97 : UInt8), (45 : UInt8), (93 : UInt8)],
                [(91 : UInt8), (45 : UInt8), (45 : UInt8), (97 : UInt8), (93 : UInt8)], [(91 : UInt8), (33 : UInt8)],
                [(91 : UInt8), (97 : UInt8), (45 : UInt8), (99 : UInt8)]]
              (r_1.snd.fst.fst, r_1.snd.fst.snd.fst, r_1.snd.fst.snd.snd.fst, ()))
            fun (r : List UInt8 × (List Int × Int × Int × PUnit) × PUnit) =>
            some ((r.fst, ()), (r.snd.fst.fst, r.snd.fst.snd.fst, r.snd.fst.snd.snd.fst, ()), ())
        else
          Option.bind
            (bif r_1.fst == (1 : Int) then
              Option.bind
                (m_spec_l01Text (55 : Int) (r_1.snd.fst.fst, r_1.snd.fst.snd.fst, r_1.snd.fst.snd.snd.fst, ()))
                fun (r_2 : List UInt8 × (List Int × Int × Int × PUnit) × PUnit) =>
                if List.length r.fst + List.length r_2.fst < (2 : Nat) ^ (63 : Nat) then
                  some ((r.fst ++ r_2.fst, ()), (r_2.snd.fst.fst, r_2.snd.fst.snd.fst, r_2.snd.fst.snd.snd.fst, ()), ())
                else none
            else some ((r.fst, ()), (r_1.snd.fst.fst, r_1.snd.fst.snd.fst, r_1.snd.fst.snd.snd.fst, ()), ()))
            fun (s : (List UInt8 × PUnit) × (List Int × Int × Int × PUnit) × PUnit) =>
            some ((s.fst.fst, ()), (s.snd.fst.fst, s.snd.fst.snd.fst, s.snd.fst.snd.snd.fst, ()), ()))
        fun (s : (List UInt8 × PUnit) × (List Int × Int × Int × PUnit) × PUnit) =>
        some (s.fst.fst, (s.snd.fst.fst, s.snd.fst.snd.fst, s.snd.fst.snd.snd.fst, ()), ())
-- spec.l01Once
def m_spec_l01Once (a1 : Int) (s0 : (List Int × Int × Int × Unit)) : Option (Bool × ((List Int × Int × Int × Unit) × Unit)) :=
  Option.bind (m_spec_l01Below a1 (s0.fst, s0.snd.fst, s0.snd.snd.fst, ()))
    fun (r : Int × (List Int × Int × Int × PUnit) × PUnit) =>
    some (r.fst == (0 : Int), (r.snd.fst.fst, r.snd.fst.snd.fst, r.snd.fst.snd.snd.fst, ()), ())
-- spec.l02Name
def m_spec_l02Name (s0 : (List Int × Int × Int × Unit)) : Option (List UInt8 × ((List Int × Int × Int × Unit) × Unit)) :=
  Option.bind
    (m_spec_l01Pick
      [[(97 : UInt8)], [(98 : UInt8)], [(99 : UInt8)], [(100 : UInt8), (111 : UInt8), (99 : UInt8), (115 : UInt8)],
        [(105 : UInt8), (109 : UInt8), (103 : UInt8)],
        [(120 : UInt8), (46 : UInt8), (116 : UInt8), (120 : UInt8), (116 : UInt8)],
        [(121 : UInt8), (46 : UInt8), (116 : UInt8), (120 : UInt8), (116 : UInt8)],
        [(122 : UInt8), (46 : UInt8), (111 : UInt8)],
        [(110 : UInt8), (111 : UInt8), (116 : UInt8), (101 : UInt8), (95 : UInt8), (49 : UInt8)], [(66 : UInt8)],
        [(111 : UInt8), (108 : UInt8), (100 : UInt8)],
        [(107 : UInt8), (101 : UInt8), (101 : UInt8), (112 : UInt8), (46 : UInt8), (109 : UInt8), (101 : UInt8)],
        [(97 : UInt8), (45 : UInt8), (98 : UInt8)], [(108 : UInt8), (105 : UInt8), (98 : UInt8)]]
      (s0.fst, s0.snd.fst, s0.snd.snd.fst, ()))
    fun (r : List UInt8 × (List Int × Int × Int × PUnit) × PUnit) =>
    some (r.fst, (r.snd.fst.fst, r.snd.fst.snd.fst, r.snd.fst.snd.snd.fst, ()), ())
-- spec.l02Path
def m_spec_l02Path (s0 : (List Int × Int × Int × Unit)) : Option (List UInt8 × ((List Int × Int × Int × Unit) × Unit)) :=
  Option.bind (m_spec_l02Name (s0.fst, s0.snd.fst, s0.snd.snd.fst, ()))
    fun (r : List UInt8 × (List Int × Int × Int × PUnit) × PUnit) =>
    Option.bind (m_spec_l01Below (4 : Int) (r.snd.fst.fst, r.snd.fst.snd.fst, r.snd.fst.snd.snd.fst, ()))
      fun (r_1 : Int × (List Int × Int × Int × PUnit) × PUnit) =>
      Option.bind
        (loopC
          (List.length r.fst + Int.toNat r_1.fst + Int.toNat (0 : Int) + List.length r_1.snd.fst.fst +
                Int.toNat r_1.snd.fst.snd.fst +
              Int.toNat r_1.snd.fst.snd.snd.fst +
            (300 : Nat))
          (fun (s : (PUnit × List UInt8 × Int × Int × PUnit) × (List Int × Int × Int × PUnit) × PUnit)
              (k :
                (PUnit × List UInt8 × Int × Int × PUnit) × (List Int × Int × Int × PUnit) × PUnit →
                  Option ((List UInt8 × PUnit) × (List Int × Int × Int × PUnit) × PUnit)) =>
            bif decide (s.fst.snd.snd.snd.fst < s.fst.snd.snd.fst) then
              if List.length s.fst.snd.fst + List.length [(47 : UInt8)] < (2 : Nat) ^ (63 : Nat) then
                Option.bind (m_spec_l02Name (s.snd.fst.fst, s.snd.fst.snd.fst, s.snd.fst.snd.snd.fst, ()))
                  fun (r : List UInt8 × (List Int × Int × Int × PUnit) × PUnit) =>
                  if List.length (s.fst.snd.fst ++ [(47 : UInt8)]) + List.length r.fst < (2 : Nat) ^ (63 : Nat) then
                    k
                      (((), s.fst.snd.fst ++ [(47 : UInt8)] ++ r.fst, s.fst.snd.snd.fst,
                          IntKind.wrap IntKind.i64 (s.fst.snd.snd.snd.fst + (1 : Int)), ()),
                        (r.snd.fst.fst, r.snd.fst.snd.fst, r.snd.fst.snd.snd.fst, ()), ())
                  else none
              else none
            else some ((s.fst.snd.fst, ()), (s.snd.fst.fst, s.snd.fst.snd.fst, s.snd.fst.snd.snd.fst, ()), ()))
          (((), r.fst, r_1.fst, (0 : Int), ()), (r_1.snd.fst.fst, r_1.snd.fst.snd.fst, r_1.snd.fst.snd.snd.fst, ()),
            ()))
        fun (s : (List UInt8 × PUnit) × (List Int × Int × Int × PUnit) × PUnit) =>
        some (s.fst.fst, (s.snd.fst.fst, s.snd.fst.snd.fst, s.snd.fst.snd.snd.fst, ()), ())
-- spec.l08Meant
def m_spec_l08Meant (s0 : (List Int × Int × Int × Unit)) : Option (List UInt8 × ((List Int × Int × Int × Unit) × Unit)) :=
  Option.bind (m_spec_l01Once (4 : Int) (s0.fst, s0.snd.fst, s0.snd.snd.fst, ()))
    fun (r : Bool × (List Int × Int × Int × PUnit) × PUnit) =>
    bif r.fst then
      Option.bind
        (m_spec_l01Pick
          [nilOf UInt8, [(97 : UInt8)], [(42 : UInt8)], [(93 : UInt8)], [(45 : UInt8)],
            [(97 : UInt8), (47 : UInt8), (98 : UInt8)], [(97 : UInt8), (97 : UInt8), (98 : UInt8)], [(47 : UInt8)],
            [(97 : UInt8), (120 : UInt8), (46 : UInt8), (116 : UInt8), (120 : UInt8), (116 : UInt8)]]
          (r.snd.fst.fst, r.snd.fst.snd.fst, r.snd.fst.snd.snd.fst, ()))
        fun (r : List UInt8 × (List Int × Int × Int × PUnit) × PUnit) =>
        some (r.fst, (r.snd.fst.fst, r.snd.fst.snd.fst, r.snd.fst.snd.snd.fst, ()), ())
    else
      Option.bind (m_spec_l02Path (r.snd.fst.fst, r.snd.fst.snd.fst, r.snd.fst.snd.snd.fst, ()))
        fun (r : List UInt8 × (List Int × Int × Int × PUnit) × PUnit) =>
        some (r.fst, (r.snd.fst.fst, r.snd.fst.snd.fst, r.snd.fst.snd.snd.fst, ()), ())
-- spec.DrawMatch
def m_spec_DrawMatch (a0 : List Int) : Option ((List UInt8 × List UInt8 × Unit) × Unit) :=
  Option.bind (m_spec_l01New a0) fun (r : PUnit × (List Int × Int × Int × PUnit) × PUnit) =>
    Option.bind (m_spec_l08Any (r.snd.fst.fst, r.snd.fst.snd.fst, r.snd.fst.snd.snd.fst, ()))
      fun (r : List UInt8 × (List Int × Int × Int × PUnit) × PUnit) =>
      Option.bind (m_spec_l08Meant (r.snd.fst.fst, r.snd.fst.snd.fst, r.snd.fst.snd.snd.fst, ()))
        fun (r_1 : List UInt8 × (List Int × Int × Int × PUnit) × PUnit) => some ((r.fst, r_1.fst, ()), ())
-- internal/bytealg.IndexByteString
def m_bytealg_IndexByteString (a0 : List UInt8) (a1 : Int) : Option (Int × Unit) := some (Go.Lib.indexByte a0 a1.toNat.toUInt8, ())
-- internal/stringslite.IndexByte
def m_stringslite_IndexByte (a0 : List UInt8) (a1 : Int) : Option (Int × Unit) :=
  Option.bind (m_bytealg_IndexByteString a0 a1) fun (r : Int × Unit) => some r
-- strings.IndexByte
def m_strings_IndexByte (a0 : List UInt8) (a1 : Int) : Option (Int × Unit) :=
  Option.bind (m_stringslite_IndexByte a0 a1) fun (r : Int × Unit) => some r
-- (*strings.Builder).copyCheck
def m_strings_Builder_copyCheck (s0 : Unit) (s1 : List Int) : Option (Unit × Unit × List Int × Unit) := some ((), s0, s1, ())
-- (*strings.Builder).WriteByte
def m_strings_Builder_WriteByte (a1 : Int) (s0 : Unit) (s1 : List Int) : Option (Unit × (Unit × List Int × Unit)) :=
  Option.bind (m_strings_Builder_copyCheck () s1) fun (r : Unit × Unit × List Int × Unit) =>
    if (List.length r.snd.snd.fst + List.length [a1]) * (1 : Nat) ≤ (140737488355328 : Nat) then
      some ((), (), r.snd.snd.fst ++ [a1], ())
    else none
-- (*strings.Builder).String
def m_strings_Builder_String (s0 : Unit) (s1 : List Int) : Option (List UInt8 × Unit × List Int × Unit) := if s1.length ≤ 140737488355328 then some (strOf s1, (), [], ()) else none
-- impl.Quote
def m_impl_Quote (a0 : List UInt8) : Option (List UInt8 × Unit) :=
  Option.bind
    (loopC
      (List.length a0 + Int.toNat (↑(List.length a0) : Int) + Int.toNat (0 : Int) + List.length (nilOf Int) +
        (300 : Nat))
      (fun (s : (List UInt8 × Unit × Int × Int × Unit) × Unit × List Int × Unit)
          (k :
            (List UInt8 × Unit × Int × Int × Unit) × Unit × List Int × Unit →
              Option ((Unit × Unit) × Unit × List Int × Unit)) =>
        bif decide (s.fst.snd.snd.snd.fst < s.fst.snd.snd.fst) then
          if (0 : Int) ≤ s.fst.snd.snd.snd.fst ∧ s.fst.snd.snd.snd.fst < (↑(List.length s.fst.fst) : Int) then
            Option.bind
              (m_strings_IndexByte [(42 : UInt8), (63 : UInt8), (91 : UInt8), (92 : UInt8)]
                (↑(UInt8.toNat (List.getD s.fst.fst (Int.toNat s.fst.snd.snd.snd.fst) (0 : UInt8))) : Int))
              fun (r : Int × Unit) =>
              Option.bind
                (bif decide (r.fst ≥ (0 : Int)) then
                  Option.bind (m_strings_Builder_WriteByte (92 : Int) () s.snd.snd.fst)
                    fun (r : Unit × Unit × List Int × Unit) =>
                    some ((s.fst.fst, (), s.fst.snd.snd.snd.fst, s.fst.snd.snd), (), r.snd.snd)
                else some ((s.fst.fst, (), s.fst.snd.snd.snd.fst, s.fst.snd.snd), (), s.snd.snd))
                fun (s : (List UInt8 × Unit × Int × Int × Int × Unit) × Unit × List Int × Unit) =>
                if (0 : Int) ≤ s.fst.snd.snd.fst ∧ s.fst.snd.snd.fst < (↑(List.length s.fst.fst) : Int) then
                  Option.bind
                    (m_strings_Builder_WriteByte
                      (↑(UInt8.toNat (List.getD s.fst.fst (Int.toNat s.fst.snd.snd.fst) (0 : UInt8))) : Int) ()
                      s.snd.snd.fst)
                    fun (r : Unit × Unit × List Int × Unit) =>
                    k
                      ((s.fst.fst, (), s.fst.snd.snd.snd.fst,
                          IntKind.wrap IntKind.i64 (s.fst.snd.snd.snd.snd.fst + (1 : Int)), ()),
                        (), r.snd.snd)
                else none
          else none
        else some (((), ()), (), s.snd.snd))
      ((a0, (), (↑(List.length a0) : Int), (0 : Int), ()), (), nilOf Int, ()))
    fun (s : (Unit × Unit) × Unit × List Int × Unit) =>
    Option.bind (m_strings_Builder_String () s.snd.snd.fst) fun (r : List UInt8 × Unit × List Int × Unit) =>
      some (r.fst, ())
-- impl.within
def m_impl_within (a0 : Int) (a1 : Int) (a2 : Int) : Option (Bool × Unit) :=
  Option.bind (bif decide (a0 ≥ a1) then some ((decide (a0 ≤ a2), ()), ()) else some ((false, ()), ()))
    fun (s : (Bool × PUnit) × PUnit) => some (s.fst.fst, ())
-- internal/stringslite.HasPrefix
def m_stringslite_HasPrefix (a0 : List UInt8) (a1 : List UInt8) : Option (Bool × Unit) :=
  Option.bind
    (bif decide ((↑(List.length a0) : Int) ≥ (↑(List.length a1) : Int)) then
      if
          (0 : Int) ≤ (0 : Int) ∧
            (0 : Int) ≤ (↑(List.length a1) : Int) ∧ (↑(List.length a1) : Int) ≤ (↑(List.length a0) : Int) then
        some ((List.drop (Int.toNat (0 : Int)) (List.take (Int.toNat (↑(List.length a1) : Int)) a0) == a1, ()), ())
      else none
    else some ((false, ()), ()))
    fun (s : (Bool × PUnit) × PUnit) => some (s.fst.fst, ())
-- strings.HasPrefix
def m_strings_HasPrefix (a0 : List UInt8) (a1 : List UInt8) : Option (Bool × Unit) :=
  Option.bind (m_stringslite_HasPrefix a0 a1) fun (r : Bool × PUnit) => some (r.fst, ())
-- impl.class
def m_impl_class (a0 : List UInt8) : Option ((Option ((Int × (Bool × List Bool))) × Int × Unit) × Unit) :=
  Option.bind (m_strings_HasPrefix a0 [(33 : UInt8)]) fun (r : Bool × PUnit) =>
    Option.bind
      (bif r.fst then
        some
          ((a0, (), IntKind.wrap IntKind.i64 ((0 : Int) + (1 : Int)), ()),
            ((4 : Int), true, List.replicate (256 : Nat) false), ())
      else some ((a0, (), (0 : Int), ()), ((4 : Int), false, List.replicate (256 : Nat) false), ()))
      fun (s : (List UInt8 × PUnit × Int × PUnit) × (Int × Bool × List Bool) × PUnit) =>
      loopC (List.length s.fst.fst + Int.toNat s.fst.snd.snd.fst + (300 : Nat))
        (fun (s : (List UInt8 × PUnit × Int × Bool × PUnit) × (Int × Bool × List Bool) × PUnit)
            (k :
              (List UInt8 × PUnit × Int × Bool × PUnit) × (Int × Bool × List Bool) × PUnit →
                Option ((Option (Int × Bool × List Bool) × Int × PUnit) × PUnit)) =>
          Option.bind
            (bif decide (s.fst.snd.snd.fst < (↑(List.length s.fst.fst) : Int)) then
              bif s.fst.snd.snd.snd.fst then some ((s.fst.fst, (), s.fst.snd.snd.fst, true, ()), s.snd.fst, ())
              else
                if (0 : Int) ≤ s.fst.snd.snd.fst ∧ s.fst.snd.snd.fst < (↑(List.length s.fst.fst) : Int) then
                  some
                    ((s.fst.fst, (), s.fst.snd.snd.fst,
                        (↑(UInt8.toNat (List.getD s.fst.fst (Int.toNat s.fst.snd.snd.fst) (0 : UInt8))) : Int) !=
                          (93 : Int),
                        ()),
                      s.snd.fst, ())
                else none
            else some ((s.fst.fst, (), s.fst.snd.snd.fst, false, ()), s.snd.fst, ()))
            fun (s : (List UInt8 × PUnit × Int × Bool × PUnit) × (Int × Bool × List Bool) × PUnit) =>
            bif s.fst.snd.snd.snd.fst then
              if (0 : Int) ≤ s.fst.snd.snd.fst ∧ s.fst.snd.snd.fst < (↑(List.length s.fst.fst) : Int) then
                if (0 : Int) ≤ s.fst.snd.snd.fst ∧ s.fst.snd.snd.fst < (↑(List.length s.fst.fst) : Int) then
                  Option.bind
                    (bif
                        decide
                          (IntKind.wrap IntKind.i64
                              (IntKind.wrap IntKind.i64 (s.fst.snd.snd.fst + (1 : Int)) + (1 : Int)) <
                            (↑(List.length s.fst.fst) : Int)) then
                      if
                          (0 : Int) ≤ IntKind.wrap IntKind.i64 (s.fst.snd.snd.fst + (1 : Int)) ∧
                            IntKind.wrap IntKind.i64 (s.fst.snd.snd.fst + (1 : Int)) <
                              (↑(List.length s.fst.fst) : Int) then
                        bif
                            (↑(UInt8.toNat
                                    (List.getD s.fst.fst
                                      (Int.toNat (IntKind.wrap IntKind.i64 (s.fst.snd.snd.fst + (1 : Int))))
                                      (0 : UInt8))) :
                                Int) ==
                              (45 : Int) then
                          if
                              (0 : Int) ≤
                                  IntKind.wrap IntKind.i64
                                    (IntKind.wrap IntKind.i64 (s.fst.snd.snd.fst + (1 : Int)) + (1 : Int)) ∧
                                IntKind.wrap IntKind.i64
                                    (IntKind.wrap IntKind.i64 (s.fst.snd.snd.fst + (1 : Int)) + (1 : Int)) <
                                  (↑(List.length s.fst.fst) : Int) then
                            some
                              ((s.fst.fst, (), IntKind.wrap IntKind.i64 (s.fst.snd.snd.fst + (1 : Int)),
                                  IntKind.wrap IntKind.i64
                                    (↑(UInt8.toNat (List.getD s.fst.fst (Int.toNat s.fst.snd.snd.fst) (0 : UInt8))) :
                                      Int),
                                  IntKind.wrap IntKind.i64
                                    (↑(UInt8.toNat (List.getD s.fst.fst (Int.toNat s.fst.snd.snd.fst) (0 : UInt8))) :
                                      Int),
                                  (↑(UInt8.toNat
                                          (List.getD s.fst.fst
                                            (Int.toNat
                                              (IntKind.wrap IntKind.i64
                                                (IntKind.wrap IntKind.i64 (s.fst.snd.snd.fst + (1 : Int)) + (1 : Int))))
                                            (0 : UInt8))) :
                                      Int) !=
                                    (93 : Int),
                                  ()),
                                s.snd.fst, ())
                          else none
                        else
                          some
                            ((s.fst.fst, (), IntKind.wrap IntKind.i64 (s.fst.snd.snd.fst + (1 : Int)),
                                IntKind.wrap IntKind.i64
                                  (↑(UInt8.toNat (List.getD s.fst.fst (Int.toNat s.fst.snd.snd.fst) (0 : UInt8))) :
                                    Int),
                                IntKind.wrap IntKind.i64
                                  (↑(UInt8.toNat (List.getD s.fst.fst (Int.toNat s.fst.snd.snd.fst) (0 : UInt8))) :
                                    Int),
                                false, ()),
                              s.snd.fst, ())
                      else none
                    else
                      some
                        ((s.fst.fst, (), IntKind.wrap IntKind.i64 (s.fst.snd.snd.fst + (1 : Int)),
                            IntKind.wrap IntKind.i64
                              (↑(UInt8.toNat (List.getD s.fst.fst (Int.toNat s.fst.snd.snd.fst) (0 : UInt8))) : Int),
                            IntKind.wrap IntKind.i64
                              (↑(UInt8.toNat (List.getD s.fst.fst (Int.toNat s.fst.snd.snd.fst) (0 : UInt8))) : Int),
                            false, ()),
                          s.snd.fst, ()))
                    fun
                      (s : (List UInt8 × PUnit × Int × Int × Int × Bool × PUnit) × (Int × Bool × List Bool) × PUnit) =>
                    Option.bind
                      (bif s.fst.snd.snd.snd.snd.snd.fst then
                        if
                            (0 : Int) ≤ IntKind.wrap IntKind.i64 (s.fst.snd.snd.fst + (1 : Int)) ∧
                              IntKind.wrap IntKind.i64 (s.fst.snd.snd.fst + (1 : Int)) <
                                (↑(List.length s.fst.fst) : Int) then
                          some
                            ((s.fst.fst, (), IntKind.wrap IntKind.i64 (s.fst.snd.snd.fst + (2 : Int)),
                                s.fst.snd.snd.snd.fst,
                                IntKind.wrap IntKind.i64
                                  (↑(UInt8.toNat
                                        (List.getD s.fst.fst
                                          (Int.toNat (IntKind.wrap IntKind.i64 (s.fst.snd.snd.fst + (1 : Int))))
                                          (0 : UInt8))) :
                                    Int),
                                ()),
                              s.snd.fst, ())
                        else none
                      else
                        some
                          ((s.fst.fst, (), s.fst.snd.snd.fst, s.fst.snd.snd.snd.fst, s.fst.snd.snd.snd.snd.fst, ()),
                            s.snd.fst, ()))
                      fun (s : (List UInt8 × PUnit × Int × Int × Int × PUnit) × (Int × Bool × List Bool) × PUnit) =>
                      loopC
                        (List.length s.fst.fst + Int.toNat s.fst.snd.snd.fst + Int.toNat s.fst.snd.snd.snd.snd.fst +
                            Int.toNat s.fst.snd.snd.snd.fst +
                          (300 : Nat))
                        (fun (s : (List UInt8 × PUnit × Int × Int × Int × PUnit) × (Int × Bool × List Bool) × PUnit)
                            (k_1 :
                              (List UInt8 × PUnit × Int × Int × Int × PUnit) × (Int × Bool × List Bool) × PUnit →
                                Option ((Option (Int × Bool × List Bool) × Int × PUnit) × PUnit)) =>
                          bif decide (s.fst.snd.snd.snd.snd.fst ≤ s.fst.snd.snd.snd.fst) then
                            if
                                (0 : Int) ≤ s.fst.snd.snd.snd.snd.fst ∧
                                  s.fst.snd.snd.snd.snd.fst < (↑(256 : Nat) : Int) ∧
                                    s.fst.snd.snd.snd.snd.fst < (↑(List.length s.snd.fst.snd.snd) : Int) then
                              if Int.toNat s.fst.snd.snd.snd.snd.fst < List.length s.snd.fst.snd.snd then
                                k_1
                                  ((s.fst.fst, (), s.fst.snd.snd.fst, s.fst.snd.snd.snd.fst,
                                      IntKind.wrap IntKind.i64 (s.fst.snd.snd.snd.snd.fst + (1 : Int)), ()),
                                    (s.snd.fst.fst, s.snd.fst.snd.fst,
                                      List.set s.snd.fst.snd.snd (Int.toNat s.fst.snd.snd.snd.snd.fst) true),
                                    ())
                              else none
                            else none
                          else k ((s.fst.fst, (), s.fst.snd.snd.fst, false, ()), s.snd.fst, ()))
                        ((s.fst.fst, (), s.fst.snd.snd.fst, s.fst.snd.snd.snd.snd.fst, s.fst.snd.snd.snd.fst, ()),
                          s.snd.fst, ())
                else none
              else none
            else
              bif decide (s.fst.snd.snd.fst ≥ (↑(List.length s.fst.fst) : Int)) then some ((none, (0 : Int), ()), ())
              else some ((some s.snd.fst, IntKind.wrap IntKind.i64 (s.fst.snd.snd.fst + (1 : Int)), ()), ()))
        ((s.fst.fst, (), s.fst.snd.snd.fst, true, ()), s.snd.fst, ())
-- impl.one
def m_impl_one (a0 : Int) : Option ((Int × (Bool × List Bool)) × Unit) :=
  if (0 : Int) ≤ a0 ∧ a0 < (↑(256 : Nat) : Int) ∧ a0 < (↑(List.length (List.replicate (256 : Nat) false)) : Int) then
    if Int.toNat a0 < List.length (List.replicate (256 : Nat) false) then
      some (((0 : Int), false, List.set (List.replicate (256 : Nat) false) (Int.toNat a0) true), ())
    else none
  else none
-- impl.pieces
def m_impl_pieces (a0 : List UInt8) : Option ((List (Int × (Bool × List Bool)) × Bool × Unit) × Unit) :=
  Option.bind (m_impl_within (↑(List.length a0) : Int) (1 : Int) (60 : Int)) fun (r : Bool × PUnit) =>
    bif !r.fst then some ((nilOf (Int × Bool × List Bool), false, ()), ())
    else
      loopC (List.length a0 + List.length (nilOf (Int × Bool × List Bool)) + (300 : Nat))
        (fun (s : (List UInt8 × PUnit × PUnit) × List (Int × Bool × List Bool) × PUnit)
            (k :
              (List UInt8 × PUnit × PUnit) × List (Int × Bool × List Bool) × PUnit →
                Option ((List (Int × Bool × List Bool) × Bool × PUnit) × PUnit)) =>
          bif !s.fst.fst == nilOf UInt8 then
            Option.bind (m_strings_HasPrefix s.fst.fst [(42 : UInt8), (42 : UInt8)]) fun (r : Bool × PUnit) =>
              joinC
                (bif r.fst then
                  if
                      (List.length s.snd.fst + List.length [((3 : Int), false, List.replicate (256 : Nat) false)]) *
                          (8 : Nat) ≤
                        (140737488355328 : Nat) then
                    some
                      (Sum.inl
                        ((s.fst.fst, (), (2 : Int), ()),
                          s.snd.fst ++ [((3 : Int), false, List.replicate (256 : Nat) false)], ()))
                  else none
                else
                  if (0 : Int) ≤ (0 : Int) ∧ (0 : Int) < (↑(List.length s.fst.fst) : Int) then
                    joinC
                      (bif
                          (↑(UInt8.toNat (List.getD s.fst.fst (Int.toNat (0 : Int)) (0 : UInt8))) : Int) ==
                            (42 : Int) then
                        if
                            (List.length s.snd.fst +
                                  List.length [((2 : Int), false, List.replicate (256 : Nat) false)]) *
                                (8 : Nat) ≤
                              (140737488355328 : Nat) then
                          some
                            (Sum.inl
                              ((s.fst.fst, (), (1 : Int), ()),
                                s.snd.fst ++ [((2 : Int), false, List.replicate (256 : Nat) false)], ()))
                        else none
                      else
                        if (0 : Int) ≤ (0 : Int) ∧ (0 : Int) < (↑(List.length s.fst.fst) : Int) then
                          joinC
                            (bif
                                (↑(UInt8.toNat (List.getD s.fst.fst (Int.toNat (0 : Int)) (0 : UInt8))) : Int) ==
                                  (63 : Int) then
                              if
                                  (List.length s.snd.fst +
                                        List.length [((1 : Int), false, List.replicate (256 : Nat) false)]) *
                                      (8 : Nat) ≤
                                    (140737488355328 : Nat) then
                                some
                                  (Sum.inl
                                    ((s.fst.fst, (), (1 : Int), ()),
                                      s.snd.fst ++ [((1 : Int), false, List.replicate (256 : Nat) false)], ()))
                              else none
                            else
                              if (0 : Int) ≤ (0 : Int) ∧ (0 : Int) < (↑(List.length s.fst.fst) : Int) then
                                joinC
                                  (bif
                                      (↑(UInt8.toNat (List.getD s.fst.fst (Int.toNat (0 : Int)) (0 : UInt8))) : Int) ==
                                        (91 : Int) then
                                    if
                                        (0 : Int) ≤ (1 : Int) ∧
                                          (1 : Int) ≤ (↑(List.length s.fst.fst) : Int) ∧
                                            (↑(List.length s.fst.fst) : Int) ≤ (↑(List.length s.fst.fst) : Int) then
                                      Option.bind
                                        (m_impl_class
                                          (List.drop (Int.toNat (1 : Int))
                                            (List.take (Int.toNat (↑(List.length s.fst.fst) : Int)) s.fst.fst)))
                                        fun (r : (Option (Int × Bool × List Bool) × Int × PUnit) × PUnit) =>
                                        bif r.fst.snd.fst == (0 : Int) then
                                          some
                                            (Sum.inr
                                              (Sum.inr
                                                (Sum.inr (Sum.inr ((nilOf (Int × Bool × List Bool), false, ()), ())))))
                                        else
                                          Option.bind r.fst.1 fun (y : Int × Bool × List Bool) =>
                                            if
                                                (List.length s.snd.fst + List.length [y]) * (8 : Nat) ≤
                                                  (140737488355328 : Nat) then
                                              some
                                                (Sum.inl
                                                  ((s.fst.fst, (), IntKind.wrap IntKind.i64 ((1 : Int) + r.fst.snd.fst),
                                                      ()),
                                                    s.snd.fst ++ [y], ()))
                                            else none
                                    else none
                                  else
                                    if (0 : Int) ≤ (0 : Int) ∧ (0 : Int) < (↑(List.length s.fst.fst) : Int) then
                                      joinC
                                        (bif
                                            (↑(UInt8.toNat (List.getD s.fst.fst (Int.toNat (0 : Int)) (0 : UInt8))) :
                                                Int) ==
                                              (92 : Int) then
                                          bif decide ((↑(List.length s.fst.fst) : Int) < (2 : Int)) then
                                            some
                                              (Sum.inr
                                                (Sum.inr
                                                  (Sum.inr
                                                    (Sum.inr
                                                      (Sum.inr ((nilOf (Int × Bool × List Bool), false, ()), ()))))))
                                          else
                                            if (0 : Int) ≤ (1 : Int) ∧ (1 : Int) < (↑(List.length s.fst.fst) : Int) then
                                              Option.bind
                                                (m_impl_one
                                                  (↑(UInt8.toNat
                                                        (List.getD s.fst.fst (Int.toNat (1 : Int)) (0 : UInt8))) :
                                                    Int))
                                                fun (r : (Int × Bool × List Bool) × PUnit) =>
                                                if
                                                    (List.length s.snd.fst + List.length [r.fst]) * (8 : Nat) ≤
                                                      (140737488355328 : Nat) then
                                                  some
                                                    (Sum.inl ((s.fst.fst, (), (2 : Int), ()), s.snd.fst ++ [r.fst], ()))
                                                else none
                                            else none
                                        else
                                          if (0 : Int) ≤ (0 : Int) ∧ (0 : Int) < (↑(List.length s.fst.fst) : Int) then
                                            Option.bind
                                              (m_impl_one
                                                (↑(UInt8.toNat
                                                      (List.getD s.fst.fst (Int.toNat (0 : Int)) (0 : UInt8))) :
                                                  Int))
                                              fun (r : (Int × Bool × List Bool) × PUnit) =>
                                              if
                                                  (List.length s.snd.fst + List.length [r.fst]) * (8 : Nat) ≤
                                                    (140737488355328 : Nat) then
                                                some
                                                  (Sum.inl ((s.fst.fst, (), (1 : Int), ()), s.snd.fst ++ [r.fst], ()))
                                              else none
                                          else none)
                                        fun
                                          (s :
                                            (List UInt8 × PUnit × Int × PUnit) ×
                                              List (Int × Bool × List Bool) × PUnit) =>
                                        some (Sum.inl ((s.fst.fst, (), s.fst.snd.snd.fst, ()), s.snd.fst, ()))
                                    else none)
                                  fun
                                    (s : (List UInt8 × PUnit × Int × PUnit) × List (Int × Bool × List Bool) × PUnit) =>
                                  some (Sum.inl ((s.fst.fst, (), s.fst.snd.snd.fst, ()), s.snd.fst, ()))
                              else none)
                            fun (s : (List UInt8 × PUnit × Int × PUnit) × List (Int × Bool × List Bool) × PUnit) =>
                            some (Sum.inl ((s.fst.fst, (), s.fst.snd.snd.fst, ()), s.snd.fst, ()))
                        else none)
                      fun (s : (List UInt8 × PUnit × Int × PUnit) × List (Int × Bool × List Bool) × PUnit) =>
                      some (Sum.inl ((s.fst.fst, (), s.fst.snd.snd.fst, ()), s.snd.fst, ()))
                  else none)
                fun (s : (List UInt8 × PUnit × Int × PUnit) × List (Int × Bool × List Bool) × PUnit) =>
                if
                    (0 : Int) ≤ s.fst.snd.snd.fst ∧
                      s.fst.snd.snd.fst ≤ (↑(List.length s.fst.fst) : Int) ∧
                        (↑(List.length s.fst.fst) : Int) ≤ (↑(List.length s.fst.fst) : Int) then
                  k
                    ((List.drop (Int.toNat s.fst.snd.snd.fst)
                          (List.take (Int.toNat (↑(List.length s.fst.fst) : Int)) s.fst.fst),
                        (), ()),
                      s.snd.fst, ())
                else none
          else some ((s.snd.fst, true, ()), ()))
        ((a0, (), ()), nilOf (Int × Bool × List Bool), ())
-- impl.PatternOk
def m_impl_PatternOk (a0 : List UInt8) : Option (Bool × Unit) :=
  Option.bind (m_impl_pieces a0) fun (r : (List (Int × Bool × List Bool) × Bool × Unit) × Unit) => some r.fst.snd
-- (*impl.piece).isMany
def m_impl_piece_isMany (a0 : (Int × (Bool × List Bool))) : Option (Bool × Unit) :=
  Option.bind (bif a0.fst == (2 : Int) then some ((true, ()), ()) else some ((a0.fst == (3 : Int), ()), ()))
    fun (s : (Bool × PUnit) × PUnit) => some (s.fst.fst, ())
-- (*impl.piece).takes
def m_impl_piece_takes (a0 : (Int × (Bool × List Bool))) (a1 : Int) : Option (Bool × Unit) :=
  bif a0.fst == (0 : Int) then
    if (0 : Int) ≤ a1 ∧ a1 < (↑(256 : Nat) : Int) ∧ a1 < (↑(List.length a0.snd.snd) : Int) then
      some (List.getD a0.snd.snd (Int.toNat a1) false, ())
    else none
  else
    bif a0.fst == (3 : Int) then some (true, ())
    else
      bif a0.fst == (4 : Int) then
        Option.bind
          (bif a1 != (47 : Int) then
            if (0 : Int) ≤ a1 ∧ a1 < (↑(256 : Nat) : Int) ∧ a1 < (↑(List.length a0.snd.snd) : Int) then
              some ((!List.getD a0.snd.snd (Int.toNat a1) false == a0.snd.fst, ()), ())
            else none
          else some ((false, ()), ()))
          fun (s : (Bool × PUnit) × PUnit) => some (s.fst.fst, ())
      else some (a1 != (47 : Int), ())
-- impl.match
def m_impl_match (a0 : List (Int × (Bool × List Bool))) (a1 : List UInt8) : Option (Bool × Unit) :=
  if
      (0 : Int) ≤ IntKind.wrap IntKind.i64 ((↑(List.length a1) : Int) + (1 : Int)) ∧
        IntKind.wrap IntKind.i64 ((↑(List.length a1) : Int) + (1 : Int)) ≤
            IntKind.wrap IntKind.i64 ((↑(List.length a1) : Int) + (1 : Int)) ∧
          (↑(1 : Nat) : Int) * IntKind.wrap IntKind.i64 ((↑(List.length a1) : Int) + (1 : Int)) ≤
              (140737488355328 : Int) ∧
            IntKind.wrap IntKind.i64 ((↑(List.length a1) : Int) + (1 : Int)) < (2 : Int) ^ (62 : Nat) then
    if
        (0 : Int) ≤ (0 : Int) ∧
          (0 : Int) <
            (↑(List.length
                  (List.replicate (Int.toNat (IntKind.wrap IntKind.i64 ((↑(List.length a1) : Int) + (1 : Int))))
                    false)) :
              Int) then
      if
          Int.toNat (0 : Int) <
            List.length
              (List.replicate (Int.toNat (IntKind.wrap IntKind.i64 ((↑(List.length a1) : Int) + (1 : Int)))) false) then
        Option.bind
          (loopC
            (List.length a1 + List.length a0 + Int.toNat (↑(List.length a0) : Int) + Int.toNat (0 : Int) +
                List.length
                  (List.set
                    (List.replicate (Int.toNat (IntKind.wrap IntKind.i64 ((↑(List.length a1) : Int) + (1 : Int))))
                      false)
                    (Int.toNat (0 : Int)) true) +
              (300 : Nat))
            (fun (s : (List UInt8 × PUnit × List (Int × Bool × List Bool) × Int × Int × PUnit) × List Bool × PUnit)
                (k :
                  (List UInt8 × PUnit × List (Int × Bool × List Bool) × Int × Int × PUnit) × List Bool × PUnit →
                    Option ((List UInt8 × PUnit × PUnit) × List Bool × PUnit)) =>
              bif decide (s.fst.snd.snd.snd.snd.fst < s.fst.snd.snd.snd.fst) then
                if
                    (0 : Int) ≤ s.fst.snd.snd.snd.snd.fst ∧
                      s.fst.snd.snd.snd.snd.fst < (↑(List.length s.fst.snd.snd.fst) : Int) then
                  if
                      (0 : Int) ≤ IntKind.wrap IntKind.i64 ((↑(List.length s.fst.fst) : Int) + (1 : Int)) ∧
                        IntKind.wrap IntKind.i64 ((↑(List.length s.fst.fst) : Int) + (1 : Int)) ≤
                            IntKind.wrap IntKind.i64 ((↑(List.length s.fst.fst) : Int) + (1 : Int)) ∧
                          (↑(1 : Nat) : Int) * IntKind.wrap IntKind.i64 ((↑(List.length s.fst.fst) : Int) + (1 : Int)) ≤
                              (140737488355328 : Int) ∧
                            IntKind.wrap IntKind.i64 ((↑(List.length s.fst.fst) : Int) + (1 : Int)) <
                              (2 : Int) ^ (62 : Nat) then
                    Option.bind
                      (loopC
                        (List.length s.fst.fst + List.length s.fst.snd.snd.fst + Int.toNat s.fst.snd.snd.snd.fst +
                                    Int.toNat s.fst.snd.snd.snd.snd.fst +
                                  Int.toNat
                                    (↑(List.length
                                          (List.replicate
                                            (Int.toNat
                                              (IntKind.wrap IntKind.i64 ((↑(List.length s.fst.fst) : Int) + (1 : Int))))
                                            false)) :
                                      Int) +
                                Int.toNat (0 : Int) +
                              List.length s.snd.fst +
                            List.length
                              (List.replicate
                                (Int.toNat (IntKind.wrap IntKind.i64 ((↑(List.length s.fst.fst) : Int) + (1 : Int))))
                                false) +
                          (300 : Nat))
                        (fun
                            (s :
                              (List UInt8 ×
                                  PUnit ×
                                    (Int × Bool × List Bool) ×
                                      PUnit × List (Int × Bool × List Bool) × Int × Int × Int × Int × PUnit) ×
                                List Bool × List Bool × PUnit)
                            (k :
                              (List UInt8 ×
                                    PUnit ×
                                      (Int × Bool × List Bool) ×
                                        PUnit × List (Int × Bool × List Bool) × Int × Int × Int × Int × PUnit) ×
                                  List Bool × List Bool × PUnit →
                                Option
                                  ((List UInt8 × PUnit × List (Int × Bool × List Bool) × Int × Int × PUnit) ×
                                    List Bool × PUnit)) =>
                          bif
                              decide
                                (s.fst.snd.snd.snd.snd.snd.snd.snd.snd.fst < s.fst.snd.snd.snd.snd.snd.snd.snd.fst) then
                            Option.bind (m_impl_piece_isMany s.fst.snd.snd.fst) fun (r : Bool × PUnit) =>
                              Option.bind
                                (bif r.fst then
                                  Option.bind
                                    (if
                                        (0 : Int) ≤ s.fst.snd.snd.snd.snd.snd.snd.snd.snd.fst ∧
                                          s.fst.snd.snd.snd.snd.snd.snd.snd.snd.fst <
                                            (↑(List.length s.snd.fst) : Int) then
                                      if
                                          Int.toNat s.fst.snd.snd.snd.snd.snd.snd.snd.snd.fst <
                                            List.length s.snd.fst then
                                        bif
                                            List.getD s.snd.fst (Int.toNat s.fst.snd.snd.snd.snd.snd.snd.snd.snd.fst)
                                              false then
                                          if
                                              (0 : Int) ≤ s.fst.snd.snd.snd.snd.snd.snd.snd.snd.fst ∧
                                                s.fst.snd.snd.snd.snd.snd.snd.snd.snd.fst <
                                                  (↑(List.length s.snd.snd.fst) : Int) then
                                            if
                                                Int.toNat s.fst.snd.snd.snd.snd.snd.snd.snd.snd.fst <
                                                  List.length s.snd.snd.fst then
                                              some
                                                ((s.fst.fst, (), s.fst.snd.snd.fst, (), s.fst.snd.snd.snd.snd.fst,
                                                    s.fst.snd.snd.snd.snd.snd.fst, s.fst.snd.snd.snd.snd.snd.snd.fst,
                                                    s.fst.snd.snd.snd.snd.snd.snd.snd.fst,
                                                    s.fst.snd.snd.snd.snd.snd.snd.snd.snd.fst, ()),
                                                  s.snd.fst,
                                                  List.set s.snd.snd.fst
                                                    (Int.toNat s.fst.snd.snd.snd.snd.snd.snd.snd.snd.fst) true,
                                                  ())
                                            else none
                                          else none
                                        else
                                          bif decide (s.fst.snd.snd.snd.snd.snd.snd.snd.snd.fst > (0 : Int)) then
                                            if
                                                (0 : Int) ≤
                                                    IntKind.wrap IntKind.i64
                                                      (s.fst.snd.snd.snd.snd.snd.snd.snd.snd.fst - (1 : Int)) ∧
                                                  IntKind.wrap IntKind.i64
                                                      (s.fst.snd.snd.snd.snd.snd.snd.snd.snd.fst - (1 : Int)) <
                                                    (↑(List.length s.snd.snd.fst) : Int) then
                                              if
                                                  Int.toNat
                                                      (IntKind.wrap IntKind.i64
                                                        (s.fst.snd.snd.snd.snd.snd.snd.snd.snd.fst - (1 : Int))) <
                                                    List.length s.snd.snd.fst then
                                                bif
                                                    List.getD s.snd.snd.fst
                                                      (Int.toNat
                                                        (IntKind.wrap IntKind.i64
                                                          (s.fst.snd.snd.snd.snd.snd.snd.snd.snd.fst - (1 : Int))))
                                                      false then
                                                  if
                                                      (0 : Int) ≤
                                                          IntKind.wrap IntKind.i64
                                                            (s.fst.snd.snd.snd.snd.snd.snd.snd.snd.fst - (1 : Int)) ∧
                                                        IntKind.wrap IntKind.i64
                                                            (s.fst.snd.snd.snd.snd.snd.snd.snd.snd.fst - (1 : Int)) <
                                                          (↑(List.length s.fst.fst) : Int) then
                                                    Option.bind
                                                      (m_impl_piece_takes s.fst.snd.snd.fst
                                                        (↑(UInt8.toNat
                                                              (List.getD s.fst.fst
                                                                (Int.toNat
                                                                  (IntKind.wrap IntKind.i64
                                                                    (s.fst.snd.snd.snd.snd.snd.snd.snd.snd.fst -
                                                                      (1 : Int))))
                                                                (0 : UInt8))) :
                                                          Int))
                                                      fun (r : Bool × PUnit) =>
                                                      if
                                                          (0 : Int) ≤ s.fst.snd.snd.snd.snd.snd.snd.snd.snd.fst ∧
                                                            s.fst.snd.snd.snd.snd.snd.snd.snd.snd.fst <
                                                              (↑(List.length s.snd.snd.fst) : Int) then
                                                        if
                                                            Int.toNat s.fst.snd.snd.snd.snd.snd.snd.snd.snd.fst <
                                                              List.length s.snd.snd.fst then
                                                          some
                                                            ((s.fst.fst, (), s.fst.snd.snd.fst, (),
                                                                s.fst.snd.snd.snd.snd.fst,
                                                                s.fst.snd.snd.snd.snd.snd.fst,
                                                                s.fst.snd.snd.snd.snd.snd.snd.fst,
                                                                s.fst.snd.snd.snd.snd.snd.snd.snd.fst,
                                                                s.fst.snd.snd.snd.snd.snd.snd.snd.snd.fst, ()),
                                                              s.snd.fst,
                                                              List.set s.snd.snd.fst
                                                                (Int.toNat s.fst.snd.snd.snd.snd.snd.snd.snd.snd.fst)
                                                                r.fst,
                                                              ())
                                                        else none
                                                      else none
                                                  else none
                                                else
                                                  if
                                                      (0 : Int) ≤ s.fst.snd.snd.snd.snd.snd.snd.snd.snd.fst ∧
                                                        s.fst.snd.snd.snd.snd.snd.snd.snd.snd.fst <
                                                          (↑(List.length s.snd.snd.fst) : Int) then
                                                    if
                                                        Int.toNat s.fst.snd.snd.snd.snd.snd.snd.snd.snd.fst <
                                                          List.length s.snd.snd.fst then
                                                      some
                                                        ((s.fst.fst, (), s.fst.snd.snd.fst, (),
                                                            s.fst.snd.snd.snd.snd.fst, s.fst.snd.snd.snd.snd.snd.fst,
                                                            s.fst.snd.snd.snd.snd.snd.snd.fst,
                                                            s.fst.snd.snd.snd.snd.snd.snd.snd.fst,
                                                            s.fst.snd.snd.snd.snd.snd.snd.snd.snd.fst, ()),
                                                          s.snd.fst,
                                                          List.set s.snd.snd.fst
                                                            (Int.toNat s.fst.snd.snd.snd.snd.snd.snd.snd.snd.fst) false,
                                                          ())
                                                    else none
                                                  else none
                                              else none
                                            else none
                                          else
                                            if
                                                (0 : Int) ≤ s.fst.snd.snd.snd.snd.snd.snd.snd.snd.fst ∧
                                                  s.fst.snd.snd.snd.snd.snd.snd.snd.snd.fst <
                                                    (↑(List.length s.snd.snd.fst) : Int) then
                                              if
                                                  Int.toNat s.fst.snd.snd.snd.snd.snd.snd.snd.snd.fst <
                                                    List.length s.snd.snd.fst then
                                                some
                                                  ((s.fst.fst, (), s.fst.snd.snd.fst, (), s.fst.snd.snd.snd.snd.fst,
                                                      s.fst.snd.snd.snd.snd.snd.fst, s.fst.snd.snd.snd.snd.snd.snd.fst,
                                                      s.fst.snd.snd.snd.snd.snd.snd.snd.fst,
                                                      s.fst.snd.snd.snd.snd.snd.snd.snd.snd.fst, ()),
                                                    s.snd.fst,
                                                    List.set s.snd.snd.fst
                                                      (Int.toNat s.fst.snd.snd.snd.snd.snd.snd.snd.snd.fst) false,
                                                    ())
                                              else none
                                            else none
                                      else none
                                    else none)
                                    fun
                                      (s :
                                        (List UInt8 ×
                                            PUnit ×
                                              (Int × Bool × List Bool) ×
                                                PUnit × List (Int × Bool × List Bool) × Int × Int × Int × Int × PUnit) ×
                                          List Bool × List Bool × PUnit) =>
                                    some
                                      ((s.fst.fst, (), s.fst.snd.snd.fst, (), s.fst.snd.snd.snd.snd.fst,
                                          s.fst.snd.snd.snd.snd.snd.fst, s.fst.snd.snd.snd.snd.snd.snd.fst,
                                          s.fst.snd.snd.snd.snd.snd.snd.snd.fst,
                                          s.fst.snd.snd.snd.snd.snd.snd.snd.snd.fst, ()),
                                        s.snd.fst, s.snd.snd.fst, ())
                                else
                                  Option.bind
                                    (bif decide (s.fst.snd.snd.snd.snd.snd.snd.snd.snd.fst > (0 : Int)) then
                                      Option.bind
                                        (if
                                            (0 : Int) ≤
                                                IntKind.wrap IntKind.i64
                                                  (s.fst.snd.snd.snd.snd.snd.snd.snd.snd.fst - (1 : Int)) ∧
                                              IntKind.wrap IntKind.i64
                                                  (s.fst.snd.snd.snd.snd.snd.snd.snd.snd.fst - (1 : Int)) <
                                                (↑(List.length s.snd.fst) : Int) then
                                          if
                                              Int.toNat
                                                  (IntKind.wrap IntKind.i64
                                                    (s.fst.snd.snd.snd.snd.snd.snd.snd.snd.fst - (1 : Int))) <
                                                List.length s.snd.fst then
                                            bif
                                                List.getD s.snd.fst
                                                  (Int.toNat
                                                    (IntKind.wrap IntKind.i64
                                                      (s.fst.snd.snd.snd.snd.snd.snd.snd.snd.fst - (1 : Int))))
                                                  false then
                                              if
                                                  (0 : Int) ≤
                                                      IntKind.wrap IntKind.i64
                                                        (s.fst.snd.snd.snd.snd.snd.snd.snd.snd.fst - (1 : Int)) ∧
                                                    IntKind.wrap IntKind.i64
                                                        (s.fst.snd.snd.snd.snd.snd.snd.snd.snd.fst - (1 : Int)) <
                                                      (↑(List.length s.fst.fst) : Int) then
                                                Option.bind
                                                  (m_impl_piece_takes s.fst.snd.snd.fst
                                                    (↑(UInt8.toNat
                                                          (List.getD s.fst.fst
                                                            (Int.toNat
                                                              (IntKind.wrap IntKind.i64
                                                                (s.fst.snd.snd.snd.snd.snd.snd.snd.snd.fst -
                                                                  (1 : Int))))
                                                            (0 : UInt8))) :
                                                      Int))
                                                  fun (r : Bool × PUnit) =>
                                                  if
                                                      (0 : Int) ≤ s.fst.snd.snd.snd.snd.snd.snd.snd.snd.fst ∧
                                                        s.fst.snd.snd.snd.snd.snd.snd.snd.snd.fst <
                                                          (↑(List.length s.snd.snd.fst) : Int) then
                                                    if
                                                        Int.toNat s.fst.snd.snd.snd.snd.snd.snd.snd.snd.fst <
                                                          List.length s.snd.snd.fst then
                                                      some
                                                        ((s.fst.fst, (), s.fst.snd.snd.fst, (),
                                                            s.fst.snd.snd.snd.snd.fst, s.fst.snd.snd.snd.snd.snd.fst,
                                                            s.fst.snd.snd.snd.snd.snd.snd.fst,
                                                            s.fst.snd.snd.snd.snd.snd.snd.snd.fst,
                                                            s.fst.snd.snd.snd.snd.snd.snd.snd.snd.fst, ()),
                                                          s.snd.fst,
                                                          List.set s.snd.snd.fst
                                                            (Int.toNat s.fst.snd.snd.snd.snd.snd.snd.snd.snd.fst) r.fst,
                                                          ())
                                                    else none
                                                  else none
                                              else none
                                            else
                                              if
                                                  (0 : Int) ≤ s.fst.snd.snd.snd.snd.snd.snd.snd.snd.fst ∧
                                                    s.fst.snd.snd.snd.snd.snd.snd.snd.snd.fst <
                                                      (↑(List.length s.snd.snd.fst) : Int) then
                                                if
                                                    Int.toNat s.fst.snd.snd.snd.snd.snd.snd.snd.snd.fst <
                                                      List.length s.snd.snd.fst then
                                                  some
                                                    ((s.fst.fst, (), s.fst.snd.snd.fst, (), s.fst.snd.snd.snd.snd.fst,
                                                        s.fst.snd.snd.snd.snd.snd.fst,
                                                        s.fst.snd.snd.snd.snd.snd.snd.fst,
                                                        s.fst.snd.snd.snd.snd.snd.snd.snd.fst,
                                                        s.fst.snd.snd.snd.snd.snd.snd.snd.snd.fst, ()),
                                                      s.snd.fst,
                                                      List.set s.snd.snd.fst
                                                        (Int.toNat s.fst.snd.snd.snd.snd.snd.snd.snd.snd.fst) false,
                                                      ())
                                                else none
                                              else none
                                          else none
                                        else none)
                                        fun
                                          (s :
                                            (List UInt8 ×
                                                PUnit ×
                                                  (Int × Bool × List Bool) ×
                                                    PUnit ×
                                                      List (Int × Bool × List Bool) × Int × Int × Int × Int × PUnit) ×
                                              List Bool × List Bool × PUnit) =>
                                        some
                                          ((s.fst.fst, (), s.fst.snd.snd.fst, (), s.fst.snd.snd.snd.snd.fst,
                                              s.fst.snd.snd.snd.snd.snd.fst, s.fst.snd.snd.snd.snd.snd.snd.fst,
                                              s.fst.snd.snd.snd.snd.snd.snd.snd.fst,
                                              s.fst.snd.snd.snd.snd.snd.snd.snd.snd.fst, ()),
                                            s.snd.fst, s.snd.snd.fst, ())
                                    else
                                      some
                                        ((s.fst.fst, (), s.fst.snd.snd.fst, (), s.fst.snd.snd.snd.snd.fst,
                                            s.fst.snd.snd.snd.snd.snd.fst, s.fst.snd.snd.snd.snd.snd.snd.fst,
                                            s.fst.snd.snd.snd.snd.snd.snd.snd.fst,
                                            s.fst.snd.snd.snd.snd.snd.snd.snd.snd.fst, ()),
                                          s.snd.fst, s.snd.snd.fst, ()))
                                    fun
                                      (s :
                                        (List UInt8 ×
                                            PUnit ×
                                              (Int × Bool × List Bool) ×
                                                PUnit × List (Int × Bool × List Bool) × Int × Int × Int × Int × PUnit) ×
                                          List Bool × List Bool × PUnit) =>
                                    some
                                      ((s.fst.fst, (), s.fst.snd.snd.fst, (), s.fst.snd.snd.snd.snd.fst,
                                          s.fst.snd.snd.snd.snd.snd.fst, s.fst.snd.snd.snd.snd.snd.snd.fst,
                                          s.fst.snd.snd.snd.snd.snd.snd.snd.fst,
                                          s.fst.snd.snd.snd.snd.snd.snd.snd.snd.fst, ()),
                                        s.snd.fst, s.snd.snd.fst, ()))
                                fun
                                  (s :
                                    (List UInt8 ×
                                        PUnit ×
                                          (Int × Bool × List Bool) ×
                                            PUnit × List (Int × Bool × List Bool) × Int × Int × Int × Int × PUnit) ×
                                      List Bool × List Bool × PUnit) =>
                                k
                                  ((s.fst.fst, (), s.fst.snd.snd.fst, (), s.fst.snd.snd.snd.snd.fst,
                                      s.fst.snd.snd.snd.snd.snd.fst, s.fst.snd.snd.snd.snd.snd.snd.fst,
                                      s.fst.snd.snd.snd.snd.snd.snd.snd.fst,
                                      IntKind.wrap IntKind.i64 (s.fst.snd.snd.snd.snd.snd.snd.snd.snd.fst + (1 : Int)),
                                      ()),
                                    s.snd.fst, s.snd.snd.fst, ())
                          else
                            some
                              ((s.fst.fst, (), s.fst.snd.snd.snd.snd.fst, s.fst.snd.snd.snd.snd.snd.fst,
                                  s.fst.snd.snd.snd.snd.snd.snd.fst, ()),
                                s.snd.snd.fst, ()))
                        ((s.fst.fst, (),
                            List.getD s.fst.snd.snd.fst (Int.toNat s.fst.snd.snd.snd.snd.fst)
                              (Int.ofNat (nat_lit 0), false, false :: List.replicate (nat_lit 255) false),
                            (), s.fst.snd.snd.fst, s.fst.snd.snd.snd.fst, s.fst.snd.snd.snd.snd.fst,
                            (↑(List.length
                                  (List.replicate
                                    (Int.toNat
                                      (IntKind.wrap IntKind.i64 ((↑(List.length s.fst.fst) : Int) + (1 : Int))))
                                    false)) :
                              Int),
                            (0 : Int), ()),
                          s.snd.fst,
                          List.replicate
                            (Int.toNat (IntKind.wrap IntKind.i64 ((↑(List.length s.fst.fst) : Int) + (1 : Int)))) false,
                          ()))
                      fun
                        (s :
                          (List UInt8 × PUnit × List (Int × Bool × List Bool) × Int × Int × PUnit) ×
                            List Bool × PUnit) =>
                      k
                        ((s.fst.fst, (), s.fst.snd.snd.fst, s.fst.snd.snd.snd.fst,
                            IntKind.wrap IntKind.i64 (s.fst.snd.snd.snd.snd.fst + (1 : Int)), ()),
                          s.snd.fst, ())
                  else none
                else none
              else some ((s.fst.fst, (), ()), s.snd.fst, ()))
            ((a1, (), a0, (↑(List.length a0) : Int), (0 : Int), ()),
              List.set
                (List.replicate (Int.toNat (IntKind.wrap IntKind.i64 ((↑(List.length a1) : Int) + (1 : Int)))) false)
                (Int.toNat (0 : Int)) true,
              ()))
          fun (s : (List UInt8 × PUnit × PUnit) × List Bool × PUnit) =>
          if
              (0 : Int) ≤ (↑(List.length s.fst.fst) : Int) ∧
                (↑(List.length s.fst.fst) : Int) < (↑(List.length s.snd.fst) : Int) then
            if Int.toNat (↑(List.length s.fst.fst) : Int) < List.length s.snd.fst then
              some (List.getD s.snd.fst (Int.toNat (↑(List.length s.fst.fst) : Int)) false, ())
            else none
          else none
      else none
    else none
  else none
-- impl.Match
def m_impl_Match (a0 : List UInt8) (a1 : List UInt8) : Option (Bool × Unit) :=
  Option.bind (m_impl_pieces a0) fun (r : (List (Int × Bool × List Bool) × Bool × PUnit) × PUnit) =>
    Option.bind
      (bif r.fst.snd.fst then
        bif decide ((↑(List.length a1) : Int) ≤ (200 : Int)) then
          Option.bind (m_impl_match r.fst.fst a1) fun (r : Bool × PUnit) => some ((r.fst, ()), ())
        else some ((false, ()), ())
      else some ((false, ()), ()))
      fun (s : (Bool × PUnit) × PUnit) => some (s.fst.fst, ())
-- strings.ContainsAny
def m_strings_ContainsAny (a0 a1 : List UInt8) : Option (Bool × Unit) := containsM a0 a1
-- impl.Plain
def m_impl_Plain (a0 : List UInt8) : Option (Bool × Unit) :=
  Option.bind
    (Option.bind (m_impl_PatternOk a0) fun (r : Bool × Unit) =>
      bif r.fst then
        Option.bind (m_strings_ContainsAny a0 [(42 : UInt8), (63 : UInt8), (91 : UInt8), (92 : UInt8)])
          fun (r : Bool × Unit) => some ((!r.fst, ()), ())
      else some ((false, ()), ()))
    fun (s : (Bool × Unit) × Unit) => some s.fst
-- laws.FnQuote
def m_laws_FnQuote (a0 : List Int) : Option (Bool × Unit) :=
  Option.bind (m_laws_big a0) fun (r : Bool × Unit) =>
    bif r.fst then some (true, ())
    else
      Option.bind (m_spec_DrawMatch a0) fun (r : (List UInt8 × List UInt8 × Unit) × Unit) =>
        Option.bind (m_impl_Quote r.fst.snd.fst) fun (r_1 : List UInt8 × Unit) =>
          Option.bind
            (bif decide ((↑(List.length r.fst.snd.fst) : Int) > (0 : Int)) then
              some ((r.fst.fst, r.fst.snd.fst, r_1.fst, decide ((↑(List.length r_1.fst) : Int) ≤ (60 : Int)), ()), ())
            else some ((r.fst.fst, r.fst.snd.fst, r_1.fst, false, ()), ()))
            fun (s : (List UInt8 × List UInt8 × List UInt8 × Bool × Unit) × Unit) =>
            joinC
              (bif s.fst.snd.snd.snd.fst then
                Option.bind
                  (Option.bind (m_impl_PatternOk s.fst.snd.snd.fst) fun (r : Bool × Unit) =>
                    bif !r.fst then some ((s.fst.fst, s.fst.snd.fst, true, ()), ())
                    else
                      Option.bind (m_impl_Match s.fst.snd.snd.fst s.fst.snd.fst) fun (r : Bool × Unit) =>
                        bif !r.fst then some ((s.fst.fst, s.fst.snd.fst, true, ()), ())
                        else
                          if List.length s.fst.snd.fst + List.length [(120 : UInt8)] < (2 : Nat) ^ (63 : Nat) then
                            Option.bind (m_impl_Match s.fst.snd.snd.fst (s.fst.snd.fst ++ [(120 : UInt8)]))
                              fun (r : Bool × Unit) =>
                              bif r.fst then some ((s.fst.fst, s.fst.snd.fst, true, ()), ())
                              else
                                if
                                    (0 : Int) ≤ (1 : Int) ∧
                                      (1 : Int) ≤ (↑(List.length s.fst.snd.fst) : Int) ∧
                                        (↑(List.length s.fst.snd.fst) : Int) ≤ (↑(List.length s.fst.snd.fst) : Int) then
                                  Option.bind
                                    (m_impl_Match s.fst.snd.snd.fst
                                      (List.drop (Int.toNat (1 : Int))
                                        (List.take (Int.toNat (↑(List.length s.fst.snd.fst) : Int)) s.fst.snd.fst)))
                                    fun (r : Bool × Unit) => some ((s.fst.fst, s.fst.snd.fst, r), ())
                                else none
                          else none)
                  fun (s : (List UInt8 × List UInt8 × Bool × Unit) × Unit) =>
                  bif s.fst.snd.snd.fst then some (Sum.inr (false, ()))
                  else some (Sum.inl ((s.fst.fst, s.fst.snd.fst, ()), ()))
              else some (Sum.inl ((s.fst.fst, s.fst.snd.fst, ()), ())))
              fun (s : (List UInt8 × List UInt8 × Unit) × Unit) =>
              Option.bind
                (loopC (List.length s.fst.fst + List.length s.fst.snd.fst + Int.toNat (0 : Int) + (300 : Nat))
                  (fun (s : (List UInt8 × List UInt8 × Bool × Int × Unit) × Unit)
                      (k :
                        (List UInt8 × List UInt8 × Bool × Int × Unit) × Unit →
                          Option ((List UInt8 × List UInt8 × Bool × Unit) × Unit)) =>
                    bif decide (s.fst.snd.snd.snd.fst < (↑(List.length s.fst.snd.fst) : Int)) then
                      if
                          (0 : Int) ≤ s.fst.snd.snd.snd.fst ∧
                            s.fst.snd.snd.snd.fst < (↑(List.length s.fst.snd.fst) : Int) then
                        Option.bind
                          (bif
                              (↑(UInt8.toNat (List.getD s.fst.snd.fst (Int.toNat s.fst.snd.snd.snd.fst) (0 : UInt8))) :
                                  Int) ==
                                (47 : Int) then
                            some ((s.fst.fst, s.fst.snd.fst, true, s.fst.snd.snd.snd), ())
                          else some s)
                          fun (s : (List UInt8 × List UInt8 × Bool × Int × Unit) × Unit) =>
                          k
                            ((s.fst.fst, s.fst.snd.fst, s.fst.snd.snd.fst,
                                IntKind.wrap IntKind.i64 (s.fst.snd.snd.snd.fst + (1 : Int)), ()),
                              ())
                      else none
                    else some ((s.fst.fst, s.fst.snd.fst, s.fst.snd.snd.fst, ()), ()))
                  ((s.fst.fst, s.fst.snd.fst, false, (0 : Int), ()), ()))
                fun (s : (List UInt8 × List UInt8 × Bool × Unit) × Unit) =>
                Option.bind
                  (Option.bind (m_impl_Match [(42 : UInt8), (42 : UInt8)] s.fst.snd.fst) fun (r : Bool × Unit) =>
                    bif !r.fst then some ((s.fst.fst, s.fst.snd.fst, true, ()), ())
                    else
                      Option.bind (m_impl_Match [(42 : UInt8)] s.fst.snd.fst) fun (r : Bool × Unit) =>
                        some ((s.fst.fst, s.fst.snd.fst, r.fst == s.fst.snd.snd.fst, ()), ()))
                  fun (s : (List UInt8 × List UInt8 × Bool × Unit) × Unit) =>
                  bif s.fst.snd.snd.fst then some (false, ())
                  else
                    Option.bind
                      (Option.bind (m_impl_Plain s.fst.fst) fun (r : Bool × Unit) =>
                        bif !r.fst then some ((true, ()), ())
                        else
                          Option.bind (m_impl_Match s.fst.fst s.fst.snd.fst) fun (r : Bool × Unit) =>
                            some ((r.fst == (s.fst.fst == s.fst.snd.fst), ()), ()))
                      fun (s : (Bool × Unit) × Unit) => some s.fst
end Go.AM
