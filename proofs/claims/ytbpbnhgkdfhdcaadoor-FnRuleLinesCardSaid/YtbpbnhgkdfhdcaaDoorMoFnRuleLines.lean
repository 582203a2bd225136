/- What each function computes, in plain Lean. -/
import Derived.Test.YtbpbnhgkdfhdcaaDoorAmE
set_option linter.unusedVariables false
set_option maxRecDepth 100000
namespace Go.AM
open Go
-- laws.big
def m_laws_big (a0 : List Int) : Option (Bool × Unit) :=
  some (decide ((↑(List.length a0) : Int) > (1048576 : Int)), ())
-- spec.l01New
def m_spec_l01New (a0 : List Int) : Option (Unit × ((List Int × Int × Int × Unit) × Unit)) :=
  Option.bind
    (loopC
      (List.length a0 + Int.toNat (IntKind.wrap IntKind.i64 ((100100 : Int) + (↑(List.length a0) : Int))) +
          Int.toNat (0 : Int) +
        (300 : Nat))
      (fun (s : (List Int × Int × Int × PUnit) × PUnit)
          (k : (List Int × Int × Int × PUnit) × PUnit → Option ((List Int × Int × PUnit) × PUnit)) =>
        Option.bind
          (bif decide (s.fst.snd.snd.fst < (↑(List.length s.fst.fst) : Int)) then
            some ((s.fst.fst, s.fst.snd.fst, s.fst.snd.snd.fst, decide (s.fst.snd.snd.fst < (4000 : Int)), ()), ())
          else some ((s.fst.fst, s.fst.snd.fst, s.fst.snd.snd.fst, false, ()), ()))
          fun (s : (List Int × Int × Int × Bool × PUnit) × PUnit) =>
          bif s.fst.snd.snd.snd.fst then
            if (0 : Int) ≤ s.fst.snd.snd.fst ∧ s.fst.snd.snd.fst < (↑(List.length s.fst.fst) : Int) then
              k
                ((s.fst.fst,
                    bitsOf BinOp.and IntKind.i64
                      (IntKind.wrap IntKind.i64
                        (IntKind.wrap IntKind.i64
                            (IntKind.wrap IntKind.i64 (s.fst.snd.fst * (131 : Int)) +
                              IntKind.wrap IntKind.i64
                                (List.getD s.fst.fst (Int.toNat s.fst.snd.snd.fst) (Int.ofNat (nat_lit 0)))) +
                          (7 : Int)))
                      (1073741823 : Int),
                    IntKind.wrap IntKind.i64 (s.fst.snd.snd.fst + (1 : Int)), ()),
                  ())
            else none
          else some ((s.fst.fst, s.fst.snd.fst, ()), ()))
      ((a0, IntKind.wrap IntKind.i64 ((100100 : Int) + (↑(List.length a0) : Int)), (0 : Int), ()), ()))
    fun (s : (List Int × Int × PUnit) × PUnit) => some ((), (s.fst.fst, (0 : Int), s.fst.snd.fst, ()), ())
-- spec.l01Byte
def m_spec_l01Byte (s0 : (List Int × Int × Int × Unit)) : Option (Int × ((List Int × Int × Int × Unit) × Unit)) :=
  if (0 : Int) ≤ (33 : Int) then
    if (0 : Int) ≤ (45 : Int) then
      Option.bind
        (bif decide (s0.snd.fst < (↑(List.length s0.fst) : Int)) then
          if (0 : Int) ≤ s0.snd.fst ∧ s0.snd.fst < (↑(List.length s0.fst) : Int) then
            some
              ((bitsOf BinOp.and IntKind.i64
                    (IntKind.wrap IntKind.i64
                      (bitsOf BinOp.and IntKind.i64
                          (bitsOf BinOp.xor IntKind.i64
                            (Int.fdiv
                              (IntKind.wrap IntKind.i64
                                (IntKind.wrap IntKind.i64 (s0.snd.snd.fst * (6364136223846793005 : Int)) +
                                  (1442695040888963407 : Int)))
                              ((2 : Int) ^ min (Int.toNat (33 : Int)) (IntKind.bits IntKind.i64)))
                            (Int.fdiv
                              (IntKind.wrap IntKind.i64
                                (IntKind.wrap IntKind.i64 (s0.snd.snd.fst * (6364136223846793005 : Int)) +
                                  (1442695040888963407 : Int)))
                              ((2 : Int) ^ min (Int.toNat (45 : Int)) (IntKind.bits IntKind.i64))))
                          (255 : Int) +
                        IntKind.wrap IntKind.i64 (List.getD s0.fst (Int.toNat s0.snd.fst) (Int.ofNat (nat_lit 0)))))
                    (255 : Int),
                  ()),
                (s0.fst, IntKind.wrap IntKind.i64 (s0.snd.fst + (1 : Int)),
                  IntKind.wrap IntKind.i64
                    (IntKind.wrap IntKind.i64 (s0.snd.snd.fst * (6364136223846793005 : Int)) +
                      (1442695040888963407 : Int)),
                  ()),
                ())
          else none
        else
          some
            ((bitsOf BinOp.and IntKind.i64
                  (bitsOf BinOp.xor IntKind.i64
                    (Int.fdiv
                      (IntKind.wrap IntKind.i64
                        (IntKind.wrap IntKind.i64 (s0.snd.snd.fst * (6364136223846793005 : Int)) +
                          (1442695040888963407 : Int)))
                      ((2 : Int) ^ min (Int.toNat (33 : Int)) (IntKind.bits IntKind.i64)))
                    (Int.fdiv
                      (IntKind.wrap IntKind.i64
                        (IntKind.wrap IntKind.i64 (s0.snd.snd.fst * (6364136223846793005 : Int)) +
                          (1442695040888963407 : Int)))
                      ((2 : Int) ^ min (Int.toNat (45 : Int)) (IntKind.bits IntKind.i64))))
                  (255 : Int),
                ()),
              (s0.fst, s0.snd.fst,
                IntKind.wrap IntKind.i64
                  (IntKind.wrap IntKind.i64 (s0.snd.snd.fst * (6364136223846793005 : Int)) +
                    (1442695040888963407 : Int)),
                ()),
              ()))
        fun (s : (Int × PUnit) × (List Int × Int × Int × PUnit) × PUnit) =>
        some (s.fst.fst, (s.snd.fst.fst, s.snd.fst.snd.fst, s.snd.fst.snd.snd.fst, ()), ())
    else none
  else none
-- spec.l01Below
def m_spec_l01Below (a1 : Int) (s0 : (List Int × Int × Int × Unit)) : Option (Int × ((List Int × Int × Int × Unit) × Unit)) :=
  bif decide (a1 ≤ (0 : Int)) then some ((0 : Int), (s0.fst, s0.snd.fst, s0.snd.snd.fst, ()), ())
  else
    bif decide (a1 ≤ (256 : Int)) then
      Option.bind (m_spec_l01Byte (s0.fst, s0.snd.fst, s0.snd.snd.fst, ()))
        fun (r : Int × (List Int × Int × Int × PUnit) × PUnit) =>
        if a1 ≠ (0 : Int) then
          some (Int.tmod r.fst a1, (r.snd.fst.fst, r.snd.fst.snd.fst, r.snd.fst.snd.snd.fst, ()), ())
        else none
    else
      Option.bind (m_spec_l01Byte (s0.fst, s0.snd.fst, s0.snd.snd.fst, ()))
        fun (r : Int × (List Int × Int × Int × PUnit) × PUnit) =>
        Option.bind (m_spec_l01Byte (r.snd.fst.fst, r.snd.fst.snd.fst, r.snd.fst.snd.snd.fst, ()))
          fun (r_1 : Int × (List Int × Int × Int × PUnit) × PUnit) =>
          Option.bind (m_spec_l01Byte (r_1.snd.fst.fst, r_1.snd.fst.snd.fst, r_1.snd.fst.snd.snd.fst, ()))
            fun (r_2 : Int × (List Int × Int × Int × PUnit) × PUnit) =>
            Option.bind (m_spec_l01Byte (r_2.snd.fst.fst, r_2.snd.fst.snd.fst, r_2.snd.fst.snd.snd.fst, ()))
              fun (r_3 : Int × (List Int × Int × Int × PUnit) × PUnit) =>
              if a1 ≠ (0 : Int) then
                some
                  (Int.tmod
                      (IntKind.wrap IntKind.i64
                        (IntKind.wrap IntKind.i64
                            (IntKind.wrap IntKind.i64
                                (IntKind.wrap IntKind.i64 (r.fst * (16777216 : Int)) +
                                  IntKind.wrap IntKind.i64 (r_1.fst * (65536 : Int))) +
                              IntKind.wrap IntKind.i64 (r_2.fst * (256 : Int))) +
                          r_3.fst))
                      a1,
                    (r_3.snd.fst.fst, r_3.snd.fst.snd.fst, r_3.snd.fst.snd.snd.fst, ()), ())
              else none
-- spec.l01PickInt
def m_spec_l01PickInt (a1 : List Int) (s0 : (List Int × Int × Int × Unit)) : Option (Int × ((List Int × Int × Int × Unit) × Unit)) :=
  Option.bind (m_spec_l01Below (↑(List.length a1) : Int) s0) fun (r : Int × (List Int × Int × Int × Unit) × Unit) =>
    if (0 : Int) ≤ r.fst ∧ r.fst < (↑(List.length a1) : Int) then
      some (List.getD a1 (Int.toNat r.fst) (Int.ofNat (nat_lit 0)), r.snd)
    else none
-- spec.l01Once
def m_spec_l01Once (a1 : Int) (s0 : (List Int × Int × Int × Unit)) : Option (Bool × ((List Int × Int × Int × Unit) × Unit)) :=
  Option.bind (m_spec_l01Below a1 (s0.fst, s0.snd.fst, s0.snd.snd.fst, ()))
    fun (r : Int × (List Int × Int × Int × PUnit) × PUnit) =>
    some (r.fst == (0 : Int), (r.snd.fst.fst, r.snd.fst.snd.fst, r.snd.fst.snd.snd.fst, ()), ())
-- spec.l01Pick
def m_spec_l01Pick (a1 : List (List UInt8)) (s0 : (List Int × Int × Int × Unit)) : Option (List UInt8 × ((List Int × Int × Int × Unit) × Unit)) :=
  Option.bind (m_spec_l01Below (↑(List.length a1) : Int) (s0.fst, s0.snd.fst, s0.snd.snd.fst, ()))
    fun (r : Int × (List Int × Int × Int × PUnit) × PUnit) =>
    if (0 : Int) ≤ r.fst ∧ r.fst < (↑(List.length a1) : Int) then
      some
        (List.getD a1 (Int.toNat r.fst) (nilOf UInt8), (r.snd.fst.fst, r.snd.fst.snd.fst, r.snd.fst.snd.snd.fst, ()),
          ())
    else none
-- spec.l09Rule
def m_spec_l09Rule (s0 : (List Int × Int × Int × Unit)) : Option ((Int × (Bool × (Bool × List UInt8))) × ((List Int × Int × Int × Unit) × Unit)) :=
  Option.bind
    (m_spec_l01PickInt [(0 : Int), (0 : Int), (0 : Int), (1 : Int), (1 : Int), (2 : Int), (2 : Int), (3 : Int)] s0)
    fun (r : Int × (List Int × Int × Int × Unit) × Unit) =>
    Option.bind (m_spec_l01Once (3 : Int) r.snd.fst) fun (r_1 : Bool × (List Int × Int × Int × Unit) × Unit) =>
      Option.bind (m_spec_l01Once (4 : Int) r_1.snd.fst) fun (r_2 : Bool × (List Int × Int × Int × Unit) × Unit) =>
        Option.bind
          (m_spec_l01Pick
            [[(42 : UInt8), (46 : UInt8), (116 : UInt8), (120 : UInt8), (116 : UInt8)],
              [(42 : UInt8), (46 : UInt8), (111 : UInt8)], [(100 : UInt8), (111 : UInt8), (99 : UInt8), (115 : UInt8)],
              [(105 : UInt8), (109 : UInt8), (103 : UInt8)], [(97 : UInt8)], [(98 : UInt8), (47 : UInt8), (99 : UInt8)],
              [(42 : UInt8), (42 : UInt8), (47 : UInt8), (120 : UInt8), (46 : UInt8), (116 : UInt8), (120 : UInt8),
                (116 : UInt8)],
              [(111 : UInt8), (108 : UInt8), (100 : UInt8)],
              [(107 : UInt8), (101 : UInt8), (101 : UInt8), (112 : UInt8), (46 : UInt8), (42 : UInt8)], [(63 : UInt8)],
              [(108 : UInt8), (105 : UInt8), (98 : UInt8), (47 : UInt8), (42 : UInt8), (42 : UInt8)],
              [(91 : UInt8), (97 : UInt8), (45 : UInt8), (99 : UInt8), (93 : UInt8)], [(42 : UInt8)],
              [(122 : UInt8), (46 : UInt8), (111 : UInt8)],
              [(121 : UInt8), (46 : UInt8), (116 : UInt8), (120 : UInt8), (116 : UInt8)]]
            r_2.snd.fst)
          fun (r_3 : List UInt8 × (List Int × Int × Int × Unit) × Unit) =>
          some ((r.fst, r_1.fst, r_2.fst, r_3.fst), r_3.snd)
-- spec.l09Any
def m_spec_l09Any (s0 : (List Int × Int × Int × Unit)) : Option ((Int × (Bool × (Bool × List UInt8))) × ((List Int × Int × Int × Unit) × Unit)) :=
  Option.bind (m_spec_l09Rule s0) fun (r : (Int × Bool × Bool × List UInt8) × (List Int × Int × Int × Unit) × Unit) =>
    Option.bind (m_spec_l01Below (14 : Int) r.snd.fst) fun (r_1 : Int × (List Int × Int × Int × Unit) × Unit) =>
      Option.bind
        (bif r_1.fst == (0 : Int) then
          Option.bind (m_spec_l01PickInt [(-1 : Int), (4 : Int), (5 : Int)] r_1.snd.fst)
            fun (r_2 : Int × (List Int × Int × Int × Unit) × Unit) =>
            some
              (((), (), ()), r_2.snd.fst, ((0 : Int), false, false, nilOf UInt8, ()),
                (r_2.fst, r.fst.snd.fst, r.fst.snd.snd.fst, r.fst.snd.snd.snd, ()), ())
        else
          Option.bind
            (bif r_1.fst == (1 : Int) then
              Option.bind
                (m_spec_l01Pick
                  [nilOf UInt8, [(47 : UInt8), (97 : UInt8)], [(97 : UInt8), (47 : UInt8)],
                    [(97 : UInt8), (32 : UInt8), (98 : UInt8)], [(91 : UInt8)], [(92 : UInt8)]]
                  r_1.snd.fst)
                fun (r_2 : List UInt8 × (List Int × Int × Int × Unit) × Unit) =>
                some
                  (((), (), ()), r_2.snd.fst, ((0 : Int), false, false, nilOf UInt8, ()),
                    (r.fst.fst, r.fst.snd.fst, r.fst.snd.snd.fst, r_2.fst, ()), ())
            else
              Option.bind
                (bif r_1.fst == (2 : Int) then
                  some
                    (((), (), ()), r_1.snd.fst, ((0 : Int), false, false, nilOf UInt8, ()),
                      ((4 : Int), false, false, nilOf UInt8, ()), ())
                else
                  some
                    (((), (), ()), r_1.snd.fst, ((0 : Int), false, false, nilOf UInt8, ()),
                      (r.fst.fst, r.fst.snd.fst, r.fst.snd.snd.fst, r.fst.snd.snd.snd, ()), ()))
                fun
                  (s :
                    (Unit × Unit × Unit) ×
                      (List Int × Int × Int × Unit) ×
                        (Int × Bool × Bool × List UInt8 × Unit) × (Int × Bool × Bool × List UInt8 × Unit) × Unit) =>
                some (((), (), ()), s.snd))
            fun
              (s :
                (Unit × Unit × Unit) ×
                  (List Int × Int × Int × Unit) ×
                    (Int × Bool × Bool × List UInt8 × Unit) × (Int × Bool × Bool × List UInt8 × Unit) × Unit) =>
            some (((), (), ()), s.snd))
        fun
          (s :
            (Unit × Unit × Unit) ×
              (List Int × Int × Int × Unit) ×
                (Int × Bool × Bool × List UInt8 × Unit) × (Int × Bool × Bool × List UInt8 × Unit) × Unit) =>
        some
          ((s.snd.snd.snd.fst.fst, s.snd.snd.snd.fst.snd.fst, s.snd.snd.snd.fst.snd.snd.fst,
              s.snd.snd.snd.fst.snd.snd.snd.fst),
            s.snd.fst, ())
-- spec.DrawShowRule
def m_spec_DrawShowRule (a0 : List Int) : Option ((Int × (Bool × (Bool × List UInt8))) × Unit) :=
  Option.bind (m_spec_l01New a0) fun (r : Unit × (List Int × Int × Int × Unit) × Unit) =>
    Option.bind (m_spec_l09Any r.snd.fst)
      fun (r : (Int × Bool × Bool × List UInt8) × (List Int × Int × Int × Unit) × Unit) => some (r.fst, ())
-- impl.within
def m_impl_within (a0 : Int) (a1 : Int) (a2 : Int) : Option (Bool × Unit) :=
  Option.bind (bif decide (a0 ≥ a1) then some ((decide (a0 ≤ a2), ()), ()) else some ((false, ()), ()))
    fun (s : (Bool × PUnit) × PUnit) => some (s.fst.fst, ())
-- internal/stringslite.HasPrefix
def m_stringslite_HasPrefix (a0 : List UInt8) (a1 : List UInt8) : Option (Bool × Unit) :=
  Option.bind
    (bif decide ((↑(List.length a0) : Int) ≥ (↑(List.length a1) : Int)) then
      if
          (0 : Int) ≤ (0 : Int) ∧
            (0 : Int) ≤ (↑(List.length a1) : Int) ∧ (↑(List.length a1) : Int) ≤ (↑(List.length a0) : Int) then
        some ((List.drop (Int.toNat (0 : Int)) (List.take (Int.toNat (↑(List.length a1) : Int)) a0) == a1, ()), ())
      else none
    else some ((false, ()), ()))
    fun (s : (Bool × PUnit) × PUnit) => some (s.fst.fst, ())
-- strings.HasPrefix
def m_strings_HasPrefix (a0 : List UInt8) (a1 : List UInt8) : Option (Bool × Unit) :=
  Option.bind (m_stringslite_HasPrefix a0 a1) fun (r : Bool × PUnit) => some (r.fst, ())
-- impl.class
def m_impl_class (a0 : List UInt8) : Option ((Option ((Int × (Bool × List Bool))) × Int × Unit) × Unit) :=
  Option.bind (m_strings_HasPrefix a0 [(33 : UInt8)]) fun (r : Bool × PUnit) =>
    Option.bind
      (bif r.fst then
        some
          ((a0, (), IntKind.wrap IntKind.i64 ((0 : Int) + (1 : Int)), ()),
            ((4 : Int), true, List.replicate (256 : Nat) false), ())
      else some ((a0, (), (0 : Int), ()), ((4 : Int), false, List.replicate (256 : Nat) false), ()))
      fun (s : (List UInt8 × PUnit × Int × PUnit) × (Int × Bool × List Bool) × PUnit) =>
      loopC (List.length s.fst.fst + Int.toNat s.fst.snd.snd.fst + (300 : Nat))
        (fun (s : (List UInt8 × PUnit × Int × Bool × PUnit) × (Int × Bool × List Bool) × PUnit)
            (k :
              (List UInt8 × PUnit × Int × Bool × PUnit) × (Int × Bool × List Bool) × PUnit →
                Option ((Option (Int × Bool × List Bool) × Int × PUnit) × PUnit)) =>
          Option.bind
            (bif decide (s.fst.snd.snd.fst < (↑(List.length s.fst.fst) : Int)) then
              bif s.fst.snd.snd.snd.fst then some ((s.fst.fst, (), s.fst.snd.snd.fst, true, ()), s.snd.fst, ())
              else
                if (0 : Int) ≤ s.fst.snd.snd.fst ∧ s.fst.snd.snd.fst < (↑(List.length s.fst.fst) : Int) then
                  some
                    ((s.fst.fst, (), s.fst.snd.snd.fst,
                        (↑(UInt8.toNat (List.getD s.fst.fst (Int.toNat s.fst.snd.snd.fst) (0 : UInt8))) : Int) !=
                          (93 : Int),
                        ()),
                      s.snd.fst, ())
                else none
            else some ((s.fst.fst, (), s.fst.snd.snd.fst, false, ()), s.snd.fst, ()))
            fun (s : (List UInt8 × PUnit × Int × Bool × PUnit) × (Int × Bool × List Bool) × PUnit) =>
            bif s.fst.snd.snd.snd.fst then
              if (0 : Int) ≤ s.fst.snd.snd.fst ∧ s.fst.snd.snd.fst < (↑(List.length s.fst.fst) : Int) then
                if (0 : Int) ≤ s.fst.snd.snd.fst ∧ s.fst.snd.snd.fst < (↑(List.length s.fst.fst) : Int) then
                  Option.bind
                    (bif
                        decide
                          (IntKind.wrap IntKind.i64
                              (IntKind.wrap IntKind.i64 (s.fst.snd.snd.fst + (1 : Int)) + (1 : Int)) <
                            (↑(List.length s.fst.fst) : Int)) then
                      if
                          (0 : Int) ≤ IntKind.wrap IntKind.i64 (s.fst.snd.snd.fst + (1 : Int)) ∧
                            IntKind.wrap IntKind.i64 (s.fst.snd.snd.fst + (1 : Int)) <
                              (↑(List.length s.fst.fst) : Int) then
                        bif
                            (↑(UInt8.toNat
                                    (List.getD s.fst.fst
                                      (Int.toNat (IntKind.wrap IntKind.i64 (s.fst.snd.snd.fst + (1 : Int))))
                                      (0 : UInt8))) :
                                Int) ==
                              (45 : Int) then
                          if
                              (0 : Int) ≤
                                  IntKind.wrap IntKind.i64
                                    (IntKind.wrap IntKind.i64 (s.fst.snd.snd.fst + (1 : Int)) + (1 : Int)) ∧
                                IntKind.wrap IntKind.i64
                                    (IntKind.wrap IntKind.i64 (s.fst.snd.snd.fst + (1 : Int)) + (1 : Int)) <
                                  (↑(List.length s.fst.fst) : Int) then
                            some
                              ((s.fst.fst, (), IntKind.wrap IntKind.i64 (s.fst.snd.snd.fst + (1 : Int)),
                                  IntKind.wrap IntKind.i64
                                    (↑(UInt8.toNat (List.getD s.fst.fst (Int.toNat s.fst.snd.snd.fst) (0 : UInt8))) :
                                      Int),
                                  IntKind.wrap IntKind.i64
                                    (↑(UInt8.toNat (List.getD s.fst.fst (Int.toNat s.fst.snd.snd.fst) (0 : UInt8))) :
                                      Int),
                                  (↑(UInt8.toNat
                                          (List.getD s.fst.fst
                                            (Int.toNat
                                              (IntKind.wrap IntKind.i64
                                                (IntKind.wrap IntKind.i64 (s.fst.snd.snd.fst + (1 : Int)) + (1 : Int))))
                                            (0 : UInt8))) :
                                      Int) !=
                                    (93 : Int),
                                  ()),
                                s.snd.fst, ())
                          else none
                        else
                          some
                            ((s.fst.fst, (), IntKind.wrap IntKind.i64 (s.fst.snd.snd.fst + (1 : Int)),
                                IntKind.wrap IntKind.i64
                                  (↑(UInt8.toNat (List.getD s.fst.fst (Int.toNat s.fst.snd.snd.fst) (0 : UInt8))) :
                                    Int),
                                IntKind.wrap IntKind.i64
                                  (↑(UInt8.toNat (List.getD s.fst.fst (Int.toNat s.fst.snd.snd.fst) (0 : UInt8))) :
                                    Int),
                                false, ()),
                              s.snd.fst, ())
                      else none
                    else
                      some
                        ((s.fst.fst, (), IntKind.wrap IntKind.i64 (s.fst.snd.snd.fst + (1 : Int)),
                            IntKind.wrap IntKind.i64
                              (↑(UInt8.toNat (List.getD s.fst.fst (Int.toNat s.fst.snd.snd.fst) (0 : UInt8))) : Int),
                            IntKind.wrap IntKind.i64
                              (↑(UInt8.toNat (List.getD s.fst.fst (Int.toNat s.fst.snd.snd.fst) (0 : UInt8))) : Int),
                            false, ()),
                          s.snd.fst, ()))
                    fun
                      (s : (List UInt8 × PUnit × Int × Int × Int × Bool × PUnit) × (Int × Bool × List Bool) × PUnit) =>
                    Option.bind
                      (bif s.fst.snd.snd.snd.snd.snd.fst then
                        if
                            (0 : Int) ≤ IntKind.wrap IntKind.i64 (s.fst.snd.snd.fst + (1 : Int)) ∧
                              IntKind.wrap IntKind.i64 (s.fst.snd.snd.fst + (1 : Int)) <
                                (↑(List.length s.fst.fst) : Int) then
                          some
                            ((s.fst.fst, (), IntKind.wrap IntKind.i64 (s.fst.snd.snd.fst + (2 : Int)),
                                s.fst.snd.snd.snd.fst,
                                IntKind.wrap IntKind.i64
                                  (↑(UInt8.toNat
                                        (List.getD s.fst.fst
                                          (Int.toNat (IntKind.wrap IntKind.i64 (s.fst.snd.snd.fst + (1 : Int))))
                                          (0 : UInt8))) :
                                    Int),
                                ()),
                              s.snd.fst, ())
                        else none
                      else
                        some
                          ((s.fst.fst, (), s.fst.snd.snd.fst, s.fst.snd.snd.snd.fst, s.fst.snd.snd.snd.snd.fst, ()),
                            s.snd.fst, ()))
                      fun (s : (List UInt8 × PUnit × Int × Int × Int × PUnit) × (Int × Bool × List Bool) × PUnit) =>
                      loopC
                        (List.length s.fst.fst + Int.toNat s.fst.snd.snd.fst + Int.toNat s.fst.snd.snd.snd.snd.fst +
                            Int.toNat s.fst.snd.snd.snd.fst +
                          (300 : Nat))
                        (fun (s : (List UInt8 × PUnit × Int × Int × Int × PUnit) × (Int × Bool × List Bool) × PUnit)
                            (k_1 :
                              (List UInt8 × PUnit × Int × Int × Int × PUnit) × (Int × Bool × List Bool) × PUnit →
                                Option ((Option (Int × Bool × List Bool) × Int × PUnit) × PUnit)) =>
                          bif decide (s.fst.snd.snd.snd.snd.fst ≤ s.fst.snd.snd.snd.fst) then
                            if
                                (0 : Int) ≤ s.fst.snd.snd.snd.snd.fst ∧
                                  s.fst.snd.snd.snd.snd.fst < (↑(256 : Nat) : Int) ∧
                                    s.fst.snd.snd.snd.snd.fst < (↑(List.length s.snd.fst.snd.snd) : Int) then
                              if Int.toNat s.fst.snd.snd.snd.snd.fst < List.length s.snd.fst.snd.snd then
                                k_1
                                  ((s.fst.fst, (), s.fst.snd.snd.fst, s.fst.snd.snd.snd.fst,
                                      IntKind.wrap IntKind.i64 (s.fst.snd.snd.snd.snd.fst + (1 : Int)), ()),
                                    (s.snd.fst.fst, s.snd.fst.snd.fst,
                                      List.set s.snd.fst.snd.snd (Int.toNat s.fst.snd.snd.snd.snd.fst) true),
                                    ())
                              else none
                            else none
                          else k ((s.fst.fst, (), s.fst.snd.snd.fst, false, ()), s.snd.fst, ()))
                        ((s.fst.fst, (), s.fst.snd.snd.fst, s.fst.snd.snd.snd.snd.fst, s.fst.snd.snd.snd.fst, ()),
                          s.snd.fst, ())
                else none
              else none
            else
              bif decide (s.fst.snd.snd.fst ≥ (↑(List.length s.fst.fst) : Int)) then some ((none, (0 : Int), ()), ())
              else some ((some s.snd.fst, IntKind.wrap IntKind.i64 (s.fst.snd.snd.fst + (1 : Int)), ()), ()))
        ((s.fst.fst, (), s.fst.snd.snd.fst, true, ()), s.snd.fst, ())
-- impl.one
def m_impl_one (a0 : Int) : Option ((Int × (Bool × List Bool)) × Unit) :=
  if (0 : Int) ≤ a0 ∧ a0 < (↑(256 : Nat) : Int) ∧ a0 < (↑(List.length (List.replicate (256 : Nat) false)) : Int) then
    if Int.toNat a0 < List.length (List.replicate (256 : Nat) false) then
      some (((0 : Int), false, List.set (List.replicate (256 : Nat) false) (Int.toNat a0) true), ())
    else none
  else none
-- impl.pieces
def m_impl_pieces (a0 : List UInt8) : Option ((List (Int × (Bool × List Bool)) × Bool × Unit) × Unit) :=
  Option.bind (m_impl_within (↑(List.length a0) : Int) (1 : Int) (60 : Int)) fun (r : Bool × PUnit) =>
    bif !r.fst then some ((nilOf (Int × Bool × List Bool), false, ()), ())
    else
      loopC (List.length a0 + List.length (nilOf (Int × Bool × List Bool)) + (300 : Nat))
        (fun (s : (List UInt8 × PUnit × PUnit) × List (Int × Bool × List Bool) × PUnit)
            (k :
              (List UInt8 × PUnit × PUnit) × List (Int × Bool × List Bool) × PUnit →
                Option ((List (Int × Bool × List Bool) × Bool × PUnit) × PUnit)) =>
          bif !s.fst.fst == nilOf UInt8 then
            Option.bind (m_strings_HasPrefix s.fst.fst [(42 : UInt8), (42 : UInt8)]) fun (r : Bool × PUnit) =>
              joinC
                (bif r.fst then
                  if
                      (List.length s.snd.fst + List.length [((3 : Int), false, List.replicate (256 : Nat) false)]) *
                          (8 : Nat) ≤
                        (140737488355328 : Nat) then
                    some
                      (Sum.inl
                        ((s.fst.fst, (), (2 : Int), ()),
                          s.snd.fst ++ [((3 : Int), false, List.replicate (256 : Nat) false)], ()))
                  else none
                else
                  if (0 : Int) ≤ (0 : Int) ∧ (0 : Int) < (↑(List.length s.fst.fst) : Int) then
                    joinC
                      (bif
                          (↑(UInt8.toNat (List.getD s.fst.fst (Int.toNat (0 : Int)) (0 : UInt8))) : Int) ==
                            (42 : Int) then
                        if
                            (List.length s.snd.fst +
                                  List.length [((2 : Int), false, List.replicate (256 : Nat) false)]) *
                                (8 : Nat) ≤
                              (140737488355328 : Nat) then
                          some
                            (Sum.inl
                              ((s.fst.fst, (), (1 : Int), ()),
                                s.snd.fst ++ [((2 : Int), false, List.replicate (256 : Nat) false)], ()))
                        else none
                      else
                        if (0 : Int) ≤ (0 : Int) ∧ (0 : Int) < (↑(List.length s.fst.fst) : Int) then
                          joinC
                            (bif
                                (↑(UInt8.toNat (List.getD s.fst.fst (Int.toNat (0 : Int)) (0 : UInt8))) : Int) ==
                                  (63 : Int) then
                              if
                                  (List.length s.snd.fst +
                                        List.length [((1 : Int), false, List.replicate (256 : Nat) false)]) *
                                      (8 : Nat) ≤
                                    (140737488355328 : Nat) then
                                some
                                  (Sum.inl
                                    ((s.fst.fst, (), (1 : Int), ()),
                                      s.snd.fst ++ [((1 : Int), false, List.replicate (256 : Nat) false)], ()))
                              else none
                            else
                              if (0 : Int) ≤ (0 : Int) ∧ (0 : Int) < (↑(List.length s.fst.fst) : Int) then
                                joinC
                                  (bif
                                      (↑(UInt8.toNat (List.getD s.fst.fst (Int.toNat (0 : Int)) (0 : UInt8))) : Int) ==
                                        (91 : Int) then
                                    if
                                        (0 : Int) ≤ (1 : Int) ∧
                                          (1 : Int) ≤ (↑(List.length s.fst.fst) : Int) ∧
                                            (↑(List.length s.fst.fst) : Int) ≤ (↑(List.length s.fst.fst) : Int) then
                                      Option.bind
                                        (m_impl_class
                                          (List.drop (Int.toNat (1 : Int))
                                            (List.take (Int.toNat (↑(List.length s.fst.fst) : Int)) s.fst.fst)))
                                        fun (r : (Option (Int × Bool × List Bool) × Int × PUnit) × PUnit) =>
                                        bif r.fst.snd.fst == (0 : Int) then
                                          some
                                            (Sum.inr
                                              (Sum.inr
                                                (Sum.inr (Sum.inr ((nilOf (Int × Bool × List Bool), false, ()), ())))))
                                        else
                                          Option.bind r.fst.1 fun (y : Int × Bool × List Bool) =>
                                            if
                                                (List.length s.snd.fst + List.length [y]) * (8 : Nat) ≤
                                                  (140737488355328 : Nat) then
                                              some
                                                (Sum.inl
                                                  ((s.fst.fst, (), IntKind.wrap IntKind.i64 ((1 : Int) + r.fst.snd.fst),
                                                      ()),
                                                    s.snd.fst ++ [y], ()))
                                            else none
                                    else none
                                  else
                                    if (0 : Int) ≤ (0 : Int) ∧ (0 : Int) < (↑(List.length s.fst.fst) : Int) then
                                      joinC
                                        (bif
                                            (↑(UInt8.toNat (List.getD s.fst.fst (Int.toNat (0 : Int)) (0 : UInt8))) :
                                                Int) ==
                                              (92 : Int) then
                                          bif decide ((↑(List.length s.fst.fst) : Int) < (2 : Int)) then
                                            some
                                              (Sum.inr
                                                (Sum.inr
                                                  (Sum.inr
                                                    (Sum.inr
                                                      (Sum.inr ((nilOf (Int × Bool × List Bool), false, ()), ()))))))
                                          else
                                            if (0 : Int) ≤ (1 : Int) ∧ (1 : Int) < (↑(List.length s.fst.fst) : Int) then
                                              Option.bind
                                                (m_impl_one
                                                  (↑(UInt8.toNat
                                                        (List.getD s.fst.fst (Int.toNat (1 : Int)) (0 : UInt8))) :
                                                    Int))
                                                fun (r : (Int × Bool × List Bool) × PUnit) =>
                                                if
                                                    (List.length s.snd.fst + List.length [r.fst]) * (8 : Nat) ≤
                                                      (140737488355328 : Nat) then
                                                  some
                                                    (Sum.inl ((s.fst.fst, (), (2 : Int), ()), s.snd.fst ++ [r.fst], ()))
                                                else none
                                            else none
                                        else
                                          if (0 : Int) ≤ (0 : Int) ∧ (0 : Int) < (↑(List.length s.fst.fst) : Int) then
                                            Option.bind
                                              (m_impl_one
                                                (↑(UInt8.toNat
                                                      (List.getD s.fst.fst (Int.toNat (0 : Int)) (0 : UInt8))) :
                                                  Int))
                                              fun (r : (Int × Bool × List Bool) × PUnit) =>
                                              if
                                                  (List.length s.snd.fst + List.length [r.fst]) * (8 : Nat) ≤
                                                    (140737488355328 : Nat) then
                                                some
                                                  (Sum.inl ((s.fst.fst, (), (1 : Int), ()), s.snd.fst ++ [r.fst], ()))
                                              else none
                                          else none)
                                        fun
                                          (s :
                                            (List UInt8 × PUnit × Int × PUnit) ×
                                              List (Int × Bool × List Bool) × PUnit) =>
                                        some (Sum.inl ((s.fst.fst, (), s.fst.snd.snd.fst, ()), s.snd.fst, ()))
                                    else none)
                                  fun
                                    (s : (List UInt8 × PUnit × Int × PUnit) × List (Int × Bool × List Bool) × PUnit) =>
                                  some (Sum.inl ((s.fst.fst, (), s.fst.snd.snd.fst, ()), s.snd.fst, ()))
                              else none)
                            fun (s : (List UInt8 × PUnit × Int × PUnit) × List (Int × Bool × List Bool) × PUnit) =>
                            some (Sum.inl ((s.fst.fst, (), s.fst.snd.snd.fst, ()), s.snd.fst, ()))
                        else none)
                      fun (s : (List UInt8 × PUnit × Int × PUnit) × List (Int × Bool × List Bool) × PUnit) =>
                      some (Sum.inl ((s.fst.fst, (), s.fst.snd.snd.fst, ()), s.snd.fst, ()))
                  else none)
                fun (s : (List UInt8 × PUnit × Int × PUnit) × List (Int × Bool × List Bool) × PUnit) =>
                if
                    (0 : Int) ≤ s.fst.snd.snd.fst ∧
                      s.fst.snd.snd.fst ≤ (↑(List.length s.fst.fst) : Int) ∧
                        (↑(List.length s.fst.fst) : Int) ≤ (↑(List.length s.fst.fst) : Int) then
                  k
                    ((List.drop (Int.toNat s.fst.snd.snd.fst)
                          (List.take (Int.toNat (↑(List.length s.fst.fst) : Int)) s.fst.fst),
                        (), ()),
                      s.snd.fst, ())
                else none
          else some ((s.snd.fst, true, ()), ()))
        ((a0, (), ()), nilOf (Int × Bool × List Bool), ())
-- impl.PatternOk
def m_impl_PatternOk (a0 : List UInt8) : Option (Bool × Unit) :=
  Option.bind (m_impl_pieces a0) fun (r : (List (Int × Bool × List Bool) × Bool × Unit) × Unit) => some r.fst.snd
-- internal/bytealg.IndexByteString
def m_bytealg_IndexByteString (a0 : List UInt8) (a1 : Int) : Option (Int × Unit) := some (Go.Lib.indexByte a0 a1.toNat.toUInt8, ())
-- internal/stringslite.IndexByte
def m_stringslite_IndexByte (a0 : List UInt8) (a1 : Int) : Option (Int × Unit) :=
  Option.bind (m_bytealg_IndexByteString a0 a1) fun (r : Int × Unit) => some r
-- internal/stringslite.Index
def m_stringslite_Index (a0 : List UInt8) : Option (Int × Unit) :=
  bif [(32 : UInt8)] == a0 then some ((0 : Int), ())
  else
    if (0 : Int) ≤ (0 : Int) ∧ (0 : Int) < (↑(List.length [(32 : UInt8)]) : Int) then
      Option.bind
        (m_stringslite_IndexByte a0 (↑(UInt8.toNat (List.getD [(32 : UInt8)] (Int.toNat (0 : Int)) (0 : UInt8))) : Int))
        fun (r : Int × Unit) => some r
    else none
-- strings.Index
def m_strings_Index (a0 : List UInt8) : Option (Int × Unit) := Option.bind (m_stringslite_Index a0) fun (r : Int × Unit) => some r
-- strings.Contains
def m_strings_Contains (a0 : List UInt8) : Option (Bool × Unit) :=
  Option.bind (m_strings_Index a0) fun (r : Int × Unit) => some (decide (r.fst ≥ (0 : Int)), ())
-- internal/stringslite.HasSuffix
def m_stringslite_HasSuffix (a0 : List UInt8) (a1 : List UInt8) : Option (Bool × Unit) :=
  Option.bind
    (bif decide ((↑(List.length a0) : Int) ≥ (↑(List.length a1) : Int)) then
      if
          (0 : Int) ≤ IntKind.wrap IntKind.i64 ((↑(List.length a0) : Int) - (↑(List.length a1) : Int)) ∧
            IntKind.wrap IntKind.i64 ((↑(List.length a0) : Int) - (↑(List.length a1) : Int)) ≤
                (↑(List.length a0) : Int) ∧
              (↑(List.length a0) : Int) ≤ (↑(List.length a0) : Int) then
        some
          ((List.drop (Int.toNat (IntKind.wrap IntKind.i64 ((↑(List.length a0) : Int) - (↑(List.length a1) : Int))))
                  (List.take (Int.toNat (↑(List.length a0) : Int)) a0) ==
                a1,
              ()),
            ())
      else none
    else some ((false, ()), ()))
    fun (s : (Bool × Unit) × Unit) => some s.fst
-- strings.HasSuffix
def m_strings_HasSuffix (a0 : List UInt8) (a1 : List UInt8) : Option (Bool × Unit) :=
  Option.bind (m_stringslite_HasSuffix a0 a1) fun (r : Bool × Unit) => some r
-- impl.RuleOk
def m_impl_RuleOk (a0 : (Int × (Bool × (Bool × List UInt8)))) : Option (Bool × Unit) :=
  bif a0.fst == (4 : Int) then
    some
      (a0.fst == (4 : Int) &&
          (a0.snd.fst == false && (a0.snd.snd.fst == false && (a0.snd.snd.snd == nilOf UInt8 && true))),
        ())
  else
    Option.bind
      (Option.bind (m_impl_within a0.fst (0 : Int) (3 : Int)) fun (r : Bool × Unit) =>
        bif r.fst then
          Option.bind (m_impl_PatternOk a0.snd.snd.snd) fun (r : Bool × Unit) =>
            bif r.fst then
              Option.bind (m_strings_Contains a0.snd.snd.snd) fun (r : Bool × Unit) =>
                bif !r.fst then
                  Option.bind (m_strings_HasPrefix a0.snd.snd.snd [(47 : UInt8)]) fun (r : Bool × Unit) =>
                    bif !r.fst then
                      Option.bind (m_strings_HasSuffix a0.snd.snd.snd [(47 : UInt8)]) fun (r : Bool × Unit) =>
                        some ((!r.fst, ()), ())
                    else some ((false, ()), ())
                else some ((false, ()), ())
            else some ((false, ()), ())
        else some ((false, ()), ()))
      fun (s : (Bool × Unit) × Unit) => some s.fst
-- impl.slash
def m_impl_slash (a0 : Bool) : Option (List UInt8 × Unit) := bif a0 then some ([(47 : UInt8)], ()) else some (nilOf UInt8, ())
-- impl.ShowRule
def m_impl_ShowRule (a0 : (Int × (Bool × (Bool × List UInt8)))) : Option (List UInt8 × Unit) :=
  Option.bind (m_impl_RuleOk a0) fun (r : Bool × Unit) =>
    bif !r.fst then some (nilOf UInt8, ())
    else
      bif a0.fst == (4 : Int) then some ([(33 : UInt8)], ())
      else
        if
            (0 : Int) ≤ a0.fst ∧
              a0.fst ≤ IntKind.wrap IntKind.i64 (a0.fst + (1 : Int)) ∧
                IntKind.wrap IntKind.i64 (a0.fst + (1 : Int)) ≤
                  (↑(List.length [(45 : UInt8), (43 : UInt8), (80 : UInt8), (82 : UInt8), (33 : UInt8)]) : Int) then
          if
              List.length
                    (List.drop (Int.toNat a0.fst)
                      (List.take (Int.toNat (IntKind.wrap IntKind.i64 (a0.fst + (1 : Int))))
                        [(45 : UInt8), (43 : UInt8), (80 : UInt8), (82 : UInt8), (33 : UInt8)])) +
                  List.length [(32 : UInt8)] <
                (2 : Nat) ^ (63 : Nat) then
            Option.bind (m_impl_slash a0.snd.fst) fun (r : List UInt8 × Unit) =>
              if
                  List.length
                        (List.drop (Int.toNat a0.fst)
                            (List.take (Int.toNat (IntKind.wrap IntKind.i64 (a0.fst + (1 : Int))))
                              [(45 : UInt8), (43 : UInt8), (80 : UInt8), (82 : UInt8), (33 : UInt8)]) ++
                          [(32 : UInt8)]) +
                      List.length r.fst <
                    (2 : Nat) ^ (63 : Nat) then
                if
                    List.length
                          (List.drop (Int.toNat a0.fst)
                                (List.take (Int.toNat (IntKind.wrap IntKind.i64 (a0.fst + (1 : Int))))
                                  [(45 : UInt8), (43 : UInt8), (80 : UInt8), (82 : UInt8), (33 : UInt8)]) ++
                              [(32 : UInt8)] ++
                            r.fst) +
                        List.length a0.snd.snd.snd <
                      (2 : Nat) ^ (63 : Nat) then
                  Option.bind (m_impl_slash a0.snd.snd.fst) fun (r_1 : List UInt8 × Unit) =>
                    if
                        List.length
                              (List.drop (Int.toNat a0.fst)
                                      (List.take (Int.toNat (IntKind.wrap IntKind.i64 (a0.fst + (1 : Int))))
                                        [(45 : UInt8), (43 : UInt8), (80 : UInt8), (82 : UInt8), (33 : UInt8)]) ++
                                    [(32 : UInt8)] ++
                                  r.fst ++
                                a0.snd.snd.snd) +
                            List.length r_1.fst <
                          (2 : Nat) ^ (63 : Nat) then
                      some
                        (List.drop (Int.toNat a0.fst)
                                    (List.take (Int.toNat (IntKind.wrap IntKind.i64 (a0.fst + (1 : Int))))
                                      [(45 : UInt8), (43 : UInt8), (80 : UInt8), (82 : UInt8), (33 : UInt8)]) ++
                                  [(32 : UInt8)] ++
                                r.fst ++
                              a0.snd.snd.snd ++
                            r_1.fst,
                          ())
                    else none
                else none
              else none
          else none
        else none
-- spec.l01In
def m_spec_l01In (a0 : Int) (a1 : Int) (a2 : Int) : Option (Bool × Unit) :=
  Option.bind (bif decide (a0 ≥ a1) then some ((decide (a0 ≤ a2), ()), ()) else some ((false, ()), ()))
    fun (s : (Bool × PUnit) × PUnit) => some (s.fst.fst, ())
-- spec.l08Class
def m_spec_l08Class (a0 : List UInt8) : Option (((Int × (Int × (Bool × List Bool))) × Int × Unit) × Unit) :=
  loopC
    (List.length a0 + Int.toNat (0 : Int) + Int.toNat (0 : Int) + Int.toNat (0 : Int) + Int.toNat (2 : Int) +
          Int.toNat (0 : Int) +
        List.length (nilOf Bool) +
      (300 : Nat))
    (fun
        (s :
          (List UInt8 × PUnit × PUnit × Int × PUnit) ×
            (Int × Int × Bool × PUnit × PUnit) × (Int × Int × Bool × PUnit × PUnit) × List Bool × PUnit)
        (k :
          (List UInt8 × PUnit × PUnit × Int × PUnit) ×
              (Int × Int × Bool × PUnit × PUnit) × (Int × Int × Bool × PUnit × PUnit) × List Bool × PUnit →
            Option (((Int × Int × Bool × List Bool) × Int × PUnit) × PUnit)) =>
      bif decide (s.fst.snd.snd.snd.fst < (256 : Int)) then
        if (List.length s.snd.snd.snd.fst + List.length [false]) * (1 : Nat) ≤ (140737488355328 : Nat) then
          k
            ((s.fst.fst, (), (), IntKind.wrap IntKind.i64 (s.fst.snd.snd.snd.fst + (1 : Int)), ()),
              (s.snd.fst.fst, s.snd.fst.snd.fst, s.snd.fst.snd.snd.fst, (), ()),
              (s.snd.snd.fst.fst, s.snd.snd.fst.snd.fst, s.snd.snd.fst.snd.snd.fst, (), ()),
              s.snd.snd.snd.fst ++ [false], ())
        else none
      else
        Option.bind
          (bif decide ((0 : Int) < (↑(List.length s.fst.fst) : Int)) then
            if (0 : Int) ≤ (0 : Int) ∧ (0 : Int) < (↑(List.length s.fst.fst) : Int) then
              some
                ((s.fst.fst, (), (), (0 : Int),
                    (↑(UInt8.toNat (List.getD s.fst.fst (Int.toNat (0 : Int)) (0 : UInt8))) : Int) == (33 : Int), ()),
                  (s.snd.fst.fst, s.snd.fst.snd.fst, s.snd.fst.snd.snd.fst, (), ()),
                  (s.snd.snd.fst.fst, s.snd.snd.fst.snd.fst, s.snd.snd.fst.snd.snd.fst, (), ()), s.snd.snd.snd.fst, ())
            else none
          else
            some
              ((s.fst.fst, (), (), (0 : Int), false, ()),
                (s.snd.fst.fst, s.snd.fst.snd.fst, s.snd.fst.snd.snd.fst, (), ()),
                (s.snd.snd.fst.fst, s.snd.snd.fst.snd.fst, s.snd.snd.fst.snd.snd.fst, (), ()), s.snd.snd.snd.fst, ()))
          fun
            (s :
              (List UInt8 × PUnit × PUnit × Int × Bool × PUnit) ×
                (Int × Int × Bool × PUnit × PUnit) × (Int × Int × Bool × PUnit × PUnit) × List Bool × PUnit) =>
          Option.bind
            (bif s.fst.snd.snd.snd.snd.fst then
              some
                ((s.fst.fst, (), (), IntKind.wrap IntKind.i64 (s.fst.snd.snd.snd.fst + (1 : Int)), ()),
                  (s.snd.fst.fst, s.snd.fst.snd.fst, s.snd.fst.snd.snd.fst, (), ()),
                  (s.snd.snd.fst.fst, s.snd.snd.fst.snd.fst, true, (), ()), s.snd.snd.snd.fst, ())
            else
              some
                ((s.fst.fst, (), (), s.fst.snd.snd.snd.fst, ()),
                  (s.snd.fst.fst, s.snd.fst.snd.fst, s.snd.fst.snd.snd.fst, (), ()),
                  (s.snd.snd.fst.fst, s.snd.snd.fst.snd.fst, s.snd.snd.fst.snd.snd.fst, (), ()), s.snd.snd.snd.fst, ()))
            fun
              (s :
                (List UInt8 × PUnit × PUnit × Int × PUnit) ×
                  (Int × Int × Bool × PUnit × PUnit) × (Int × Int × Bool × PUnit × PUnit) × List Bool × PUnit) =>
            loopC
              (List.length s.fst.fst + Int.toNat s.fst.snd.snd.snd.fst + Int.toNat s.snd.fst.fst +
                        Int.toNat s.snd.fst.snd.fst +
                      Int.toNat s.snd.snd.fst.fst +
                    Int.toNat s.snd.snd.fst.snd.fst +
                  List.length s.snd.snd.snd.fst +
                (300 : Nat))
              (fun
                  (s :
                    (List UInt8 × PUnit × PUnit × Int × Bool × PUnit) ×
                      (Int × Int × Bool × PUnit × PUnit) × (Int × Int × Bool × PUnit × PUnit) × List Bool × PUnit)
                  (k :
                    (List UInt8 × PUnit × PUnit × Int × Bool × PUnit) ×
                        (Int × Int × Bool × PUnit × PUnit) × (Int × Int × Bool × PUnit × PUnit) × List Bool × PUnit →
                      Option (((Int × Int × Bool × List Bool) × Int × PUnit) × PUnit)) =>
                Option.bind
                  (bif decide (s.fst.snd.snd.snd.fst < (↑(List.length s.fst.fst) : Int)) then
                    bif s.fst.snd.snd.snd.snd.fst then
                      some
                        ((s.fst.fst, (), (), s.fst.snd.snd.snd.fst, true, ()),
                          (s.snd.fst.fst, s.snd.fst.snd.fst, s.snd.fst.snd.snd.fst, (), ()),
                          (s.snd.snd.fst.fst, s.snd.snd.fst.snd.fst, s.snd.snd.fst.snd.snd.fst, (), ()),
                          s.snd.snd.snd.fst, ())
                    else
                      if
                          (0 : Int) ≤ s.fst.snd.snd.snd.fst ∧
                            s.fst.snd.snd.snd.fst < (↑(List.length s.fst.fst) : Int) then
                        some
                          ((s.fst.fst, (), (), s.fst.snd.snd.snd.fst,
                              (↑(UInt8.toNat (List.getD s.fst.fst (Int.toNat s.fst.snd.snd.snd.fst) (0 : UInt8))) :
                                  Int) !=
                                (93 : Int),
                              ()),
                            (s.snd.fst.fst, s.snd.fst.snd.fst, s.snd.fst.snd.snd.fst, (), ()),
                            (s.snd.snd.fst.fst, s.snd.snd.fst.snd.fst, s.snd.snd.fst.snd.snd.fst, (), ()),
                            s.snd.snd.snd.fst, ())
                      else none
                  else
                    some
                      ((s.fst.fst, (), (), s.fst.snd.snd.snd.fst, false, ()),
                        (s.snd.fst.fst, s.snd.fst.snd.fst, s.snd.fst.snd.snd.fst, (), ()),
                        (s.snd.snd.fst.fst, s.snd.snd.fst.snd.fst, s.snd.snd.fst.snd.snd.fst, (), ()),
                        s.snd.snd.snd.fst, ()))
                  fun
                    (s :
                      (List UInt8 × PUnit × PUnit × Int × Bool × PUnit) ×
                        (Int × Int × Bool × PUnit × PUnit) × (Int × Int × Bool × PUnit × PUnit) × List Bool × PUnit) =>
                  bif s.fst.snd.snd.snd.snd.fst then
                    Option.bind
                      (bif
                          decide
                            (IntKind.wrap IntKind.i64 (s.fst.snd.snd.snd.fst + (2 : Int)) <
                              (↑(List.length s.fst.fst) : Int)) then
                        if
                            (0 : Int) ≤ IntKind.wrap IntKind.i64 (s.fst.snd.snd.snd.fst + (1 : Int)) ∧
                              IntKind.wrap IntKind.i64 (s.fst.snd.snd.snd.fst + (1 : Int)) <
                                (↑(List.length s.fst.fst) : Int) then
                          bif
                              (↑(UInt8.toNat
                                      (List.getD s.fst.fst
                                        (Int.toNat (IntKind.wrap IntKind.i64 (s.fst.snd.snd.snd.fst + (1 : Int))))
                                        (0 : UInt8))) :
                                  Int) ==
                                (45 : Int) then
                            if
                                (0 : Int) ≤ IntKind.wrap IntKind.i64 (s.fst.snd.snd.snd.fst + (2 : Int)) ∧
                                  IntKind.wrap IntKind.i64 (s.fst.snd.snd.snd.fst + (2 : Int)) <
                                    (↑(List.length s.fst.fst) : Int) then
                              some
                                ((s.fst.fst, (), (), s.fst.snd.snd.snd.fst, false,
                                    (↑(UInt8.toNat
                                            (List.getD s.fst.fst
                                              (Int.toNat (IntKind.wrap IntKind.i64 (s.fst.snd.snd.snd.fst + (2 : Int))))
                                              (0 : UInt8))) :
                                        Int) !=
                                      (93 : Int),
                                    ()),
                                  (s.snd.fst.fst, s.snd.fst.snd.fst, s.snd.fst.snd.snd.fst, (), ()),
                                  (s.snd.snd.fst.fst, s.snd.snd.fst.snd.fst, s.snd.snd.fst.snd.snd.fst, (), ()),
                                  s.snd.snd.snd.fst, ())
                            else none
                          else
                            some
                              ((s.fst.fst, (), (), s.fst.snd.snd.snd.fst, false, false, ()),
                                (s.snd.fst.fst, s.snd.fst.snd.fst, s.snd.fst.snd.snd.fst, (), ()),
                                (s.snd.snd.fst.fst, s.snd.snd.fst.snd.fst, s.snd.snd.fst.snd.snd.fst, (), ()),
                                s.snd.snd.snd.fst, ())
                        else none
                      else
                        some
                          ((s.fst.fst, (), (), s.fst.snd.snd.snd.fst, false, false, ()),
                            (s.snd.fst.fst, s.snd.fst.snd.fst, s.snd.fst.snd.snd.fst, (), ()),
                            (s.snd.snd.fst.fst, s.snd.snd.fst.snd.fst, s.snd.snd.fst.snd.snd.fst, (), ()),
                            s.snd.snd.snd.fst, ()))
                      fun
                        (s :
                          (List UInt8 × PUnit × PUnit × Int × Bool × Bool × PUnit) ×
                            (Int × Int × Bool × PUnit × PUnit) ×
                              (Int × Int × Bool × PUnit × PUnit) × List Bool × PUnit) =>
                      Option.bind
                        (bif s.fst.snd.snd.snd.snd.snd.fst then
                          if
                              (0 : Int) ≤ s.fst.snd.snd.snd.fst ∧
                                s.fst.snd.snd.snd.fst < (↑(List.length s.fst.fst) : Int) then
                            loopC
                              (List.length s.fst.fst + Int.toNat s.fst.snd.snd.snd.fst +
                                            Int.toNat
                                              (IntKind.wrap IntKind.i64
                                                (↑(UInt8.toNat
                                                      (List.getD s.fst.fst (Int.toNat s.fst.snd.snd.snd.fst)
                                                        (0 : UInt8))) :
                                                  Int)) +
                                          Int.toNat s.snd.fst.fst +
                                        Int.toNat s.snd.fst.snd.fst +
                                      Int.toNat s.snd.snd.fst.fst +
                                    Int.toNat s.snd.snd.fst.snd.fst +
                                  List.length s.snd.snd.snd.fst +
                                (300 : Nat))
                              (fun
                                  (s :
                                    (List UInt8 × PUnit × PUnit × Int × Bool × Int × PUnit) ×
                                      (Int × Int × Bool × PUnit × PUnit) ×
                                        (Int × Int × Bool × PUnit × PUnit) × List Bool × PUnit)
                                  (k :
                                    (List UInt8 × PUnit × PUnit × Int × Bool × Int × PUnit) ×
                                        (Int × Int × Bool × PUnit × PUnit) ×
                                          (Int × Int × Bool × PUnit × PUnit) × List Bool × PUnit →
                                      Option
                                        ((List UInt8 × PUnit × PUnit × Int × Bool × PUnit) ×
                                          (Int × Int × Bool × PUnit × PUnit) ×
                                            (Int × Int × Bool × PUnit × PUnit) × List Bool × PUnit)) =>
                                if
                                    (0 : Int) ≤ IntKind.wrap IntKind.i64 (s.fst.snd.snd.snd.fst + (2 : Int)) ∧
                                      IntKind.wrap IntKind.i64 (s.fst.snd.snd.snd.fst + (2 : Int)) <
                                        (↑(List.length s.fst.fst) : Int) then
                                  bif
                                      decide
                                        (s.fst.snd.snd.snd.snd.snd.fst ≤
                                          IntKind.wrap IntKind.i64
                                            (↑(UInt8.toNat
                                                  (List.getD s.fst.fst
                                                    (Int.toNat
                                                      (IntKind.wrap IntKind.i64 (s.fst.snd.snd.snd.fst + (2 : Int))))
                                                    (0 : UInt8))) :
                                              Int)) then
                                    if
                                        (0 : Int) ≤ s.fst.snd.snd.snd.snd.snd.fst ∧
                                          s.fst.snd.snd.snd.snd.snd.fst < (↑(List.length s.snd.snd.snd.fst) : Int) then
                                      if Int.toNat s.fst.snd.snd.snd.snd.snd.fst < List.length s.snd.snd.snd.fst then
                                        k
                                          ((s.fst.fst, (), (), s.fst.snd.snd.snd.fst, s.fst.snd.snd.snd.snd.fst,
                                              IntKind.wrap IntKind.i64 (s.fst.snd.snd.snd.snd.snd.fst + (1 : Int)), ()),
                                            (s.snd.fst.fst, s.snd.fst.snd.fst, s.snd.fst.snd.snd.fst, (), ()),
                                            (s.snd.snd.fst.fst, s.snd.snd.fst.snd.fst, s.snd.snd.fst.snd.snd.fst, (),
                                              ()),
                                            List.set s.snd.snd.snd.fst (Int.toNat s.fst.snd.snd.snd.snd.snd.fst) true,
                                            ())
                                      else none
                                    else none
                                  else
                                    some
                                      ((s.fst.fst, (), (), IntKind.wrap IntKind.i64 (s.fst.snd.snd.snd.fst + (3 : Int)),
                                          s.fst.snd.snd.snd.snd.fst, ()),
                                        (s.snd.fst.fst, s.snd.fst.snd.fst, s.snd.fst.snd.snd.fst, (), ()),
                                        (s.snd.snd.fst.fst, s.snd.snd.fst.snd.fst, s.snd.snd.fst.snd.snd.fst, (), ()),
                                        s.snd.snd.snd.fst, ())
                                else none)
                              ((s.fst.fst, (), (), s.fst.snd.snd.snd.fst, s.fst.snd.snd.snd.snd.fst,
                                  IntKind.wrap IntKind.i64
                                    (↑(UInt8.toNat
                                          (List.getD s.fst.fst (Int.toNat s.fst.snd.snd.snd.fst) (0 : UInt8))) :
                                      Int),
                                  ()),
                                (s.snd.fst.fst, s.snd.fst.snd.fst, s.snd.fst.snd.snd.fst, (), ()),
                                (s.snd.snd.fst.fst, s.snd.snd.fst.snd.fst, s.snd.snd.fst.snd.snd.fst, (), ()),
                                s.snd.snd.snd.fst, ())
                          else none
                        else
                          if
                              (0 : Int) ≤ s.fst.snd.snd.snd.fst ∧
                                s.fst.snd.snd.snd.fst < (↑(List.length s.fst.fst) : Int) then
                            if
                                (0 : Int) ≤
                                    (↑(UInt8.toNat
                                          (List.getD s.fst.fst (Int.toNat s.fst.snd.snd.snd.fst) (0 : UInt8))) :
                                      Int) ∧
                                  (↑(UInt8.toNat (List.getD s.fst.fst (Int.toNat s.fst.snd.snd.snd.fst) (0 : UInt8))) :
                                      Int) <
                                    (↑(List.length s.snd.snd.snd.fst) : Int) then
                              if
                                  Int.toNat
                                      (↑(UInt8.toNat
                                            (List.getD s.fst.fst (Int.toNat s.fst.snd.snd.snd.fst) (0 : UInt8))) :
                                        Int) <
                                    List.length s.snd.snd.snd.fst then
                                some
                                  ((s.fst.fst, (), (), IntKind.wrap IntKind.i64 (s.fst.snd.snd.snd.fst + (1 : Int)),
                                      s.fst.snd.snd.snd.snd.fst, ()),
                                    (s.snd.fst.fst, s.snd.fst.snd.fst, s.snd.fst.snd.snd.fst, (), ()),
                                    (s.snd.snd.fst.fst, s.snd.snd.fst.snd.fst, s.snd.snd.fst.snd.snd.fst, (), ()),
                                    List.set s.snd.snd.snd.fst
                                      (Int.toNat
                                        (↑(UInt8.toNat
                                              (List.getD s.fst.fst (Int.toNat s.fst.snd.snd.snd.fst) (0 : UInt8))) :
                                          Int))
                                      true,
                                    ())
                              else none
                            else none
                          else none)
                        fun
                          (s :
                            (List UInt8 × PUnit × PUnit × Int × Bool × PUnit) ×
                              (Int × Int × Bool × PUnit × PUnit) ×
                                (Int × Int × Bool × PUnit × PUnit) × List Bool × PUnit) =>
                        k
                          ((s.fst.fst, (), (), s.fst.snd.snd.snd.fst, s.fst.snd.snd.snd.snd.fst, ()),
                            (s.snd.fst.fst, s.snd.fst.snd.fst, s.snd.fst.snd.snd.fst, (), ()),
                            (s.snd.snd.fst.fst, s.snd.snd.fst.snd.fst, s.snd.snd.fst.snd.snd.fst, (), ()),
                            s.snd.snd.snd.fst, ())
                  else
                    bif decide (s.fst.snd.snd.snd.fst ≥ (↑(List.length s.fst.fst) : Int)) then
                      some ((((0 : Int), (0 : Int), false, nilOf Bool), (0 : Int), ()), ())
                    else
                      some
                        (((s.snd.snd.fst.fst, s.snd.snd.fst.snd.fst, s.snd.snd.fst.snd.snd.fst, s.snd.snd.snd.fst),
                            IntKind.wrap IntKind.i64 (s.fst.snd.snd.snd.fst + (1 : Int)), ()),
                          ()))
              ((s.fst.fst, (), (), s.fst.snd.snd.snd.fst, true, ()),
                (s.snd.fst.fst, s.snd.fst.snd.fst, s.snd.fst.snd.snd.fst, (), ()),
                (s.snd.snd.fst.fst, s.snd.snd.fst.snd.fst, s.snd.snd.fst.snd.snd.fst, (), ()), s.snd.snd.snd.fst, ()))
    ((a0, (), (), (0 : Int), ()), ((0 : Int), (0 : Int), false, (), ()), ((2 : Int), (0 : Int), false, (), ()),
      nilOf Bool, ())
-- spec.l08Pieces
def m_spec_l08Pieces (a0 : List UInt8) : Option ((List (Int × (Int × (Bool × List Bool))) × Bool × Unit) × Unit) :=
  Option.bind (m_spec_l01In (↑(List.length a0) : Int) (1 : Int) (60 : Int)) fun (r : Bool × PUnit) =>
    bif !r.fst then some ((nilOf (Int × Int × Bool × List Bool), false, ()), ())
    else
      loopC (List.length a0 + List.length (nilOf (Int × Int × Bool × List Bool)) + (300 : Nat))
        (fun (s : (List UInt8 × PUnit × PUnit) × List (Int × Int × Bool × List Bool) × PUnit)
            (k :
              (List UInt8 × PUnit × PUnit) × List (Int × Int × Bool × List Bool) × PUnit →
                Option ((List (Int × Int × Bool × List Bool) × Bool × PUnit) × PUnit)) =>
          bif decide ((↑(List.length s.fst.fst) : Int) > (0 : Int)) then
            if (0 : Int) ≤ (0 : Int) ∧ (0 : Int) < (↑(List.length s.fst.fst) : Int) then
              Option.bind
                (bif decide ((↑(List.length s.fst.fst) : Int) > (1 : Int)) then
                  if (0 : Int) ≤ (0 : Int) ∧ (0 : Int) ≤ (2 : Int) ∧ (2 : Int) ≤ (↑(List.length s.fst.fst) : Int) then
                    some
                      ((s.fst.fst, (), (1 : Int), (),
                          List.drop (Int.toNat (0 : Int)) (List.take (Int.toNat (2 : Int)) s.fst.fst) ==
                            [(42 : UInt8), (42 : UInt8)],
                          ()),
                        s.snd.fst,
                        ((0 : Int), (↑(UInt8.toNat (List.getD s.fst.fst (Int.toNat (0 : Int)) (0 : UInt8))) : Int),
                          false, (), ()),
                        ())
                  else none
                else
                  some
                    ((s.fst.fst, (), (1 : Int), (), false, ()), s.snd.fst,
                      ((0 : Int), (↑(UInt8.toNat (List.getD s.fst.fst (Int.toNat (0 : Int)) (0 : UInt8))) : Int), false,
                        (), ()),
                      ()))
                fun
                  (s :
                    (List UInt8 × PUnit × Int × PUnit × Bool × PUnit) ×
                      List (Int × Int × Bool × List Bool) × (Int × Int × Bool × PUnit × PUnit) × PUnit) =>
                joinC
                  (bif s.fst.snd.snd.snd.snd.fst then
                    some
                      (Sum.inl
                        ((s.fst.fst, (), (2 : Int), (), ()), s.snd.fst,
                          ((4 : Int), s.snd.snd.fst.snd.fst, s.snd.snd.fst.snd.snd.fst, nilOf Bool, ()), ()))
                  else
                    if (0 : Int) ≤ (0 : Int) ∧ (0 : Int) < (↑(List.length s.fst.fst) : Int) then
                      joinC
                        (bif
                            (↑(UInt8.toNat (List.getD s.fst.fst (Int.toNat (0 : Int)) (0 : UInt8))) : Int) ==
                              (42 : Int) then
                          some
                            (Sum.inl
                              ((s.fst.fst, (), s.fst.snd.snd.fst, (), ()), s.snd.fst,
                                ((3 : Int), s.snd.snd.fst.snd.fst, s.snd.snd.fst.snd.snd.fst, nilOf Bool, ()), ()))
                        else
                          if (0 : Int) ≤ (0 : Int) ∧ (0 : Int) < (↑(List.length s.fst.fst) : Int) then
                            joinC
                              (bif
                                  (↑(UInt8.toNat (List.getD s.fst.fst (Int.toNat (0 : Int)) (0 : UInt8))) : Int) ==
                                    (63 : Int) then
                                some
                                  (Sum.inl
                                    ((s.fst.fst, (), s.fst.snd.snd.fst, (), ()), s.snd.fst,
                                      ((1 : Int), s.snd.snd.fst.snd.fst, s.snd.snd.fst.snd.snd.fst, nilOf Bool, ()),
                                      ()))
                              else
                                if (0 : Int) ≤ (0 : Int) ∧ (0 : Int) < (↑(List.length s.fst.fst) : Int) then
                                  joinC
                                    (bif
                                        (↑(UInt8.toNat (List.getD s.fst.fst (Int.toNat (0 : Int)) (0 : UInt8))) :
                                            Int) ==
                                          (91 : Int) then
                                      if
                                          (0 : Int) ≤ (1 : Int) ∧
                                            (1 : Int) ≤ (↑(List.length s.fst.fst) : Int) ∧
                                              (↑(List.length s.fst.fst) : Int) ≤ (↑(List.length s.fst.fst) : Int) then
                                        Option.bind
                                          (m_spec_l08Class
                                            (List.drop (Int.toNat (1 : Int))
                                              (List.take (Int.toNat (↑(List.length s.fst.fst) : Int)) s.fst.fst)))
                                          fun (r : ((Int × Int × Bool × List Bool) × Int × PUnit) × PUnit) =>
                                          bif r.fst.snd.fst == (0 : Int) then
                                            some
                                              (Sum.inr
                                                (Sum.inr
                                                  (Sum.inr
                                                    (Sum.inr ((nilOf (Int × Int × Bool × List Bool), false, ()), ())))))
                                          else
                                            some
                                              (Sum.inl
                                                ((s.fst.fst, (), IntKind.wrap IntKind.i64 ((1 : Int) + r.fst.snd.fst),
                                                    (), ()),
                                                  s.snd.fst,
                                                  (r.fst.fst.fst, r.fst.fst.snd.fst, r.fst.fst.snd.snd.fst,
                                                    r.fst.fst.snd.snd.snd, ()),
                                                  ()))
                                      else none
                                    else
                                      if (0 : Int) ≤ (0 : Int) ∧ (0 : Int) < (↑(List.length s.fst.fst) : Int) then
                                        joinC
                                          (bif
                                              (↑(UInt8.toNat (List.getD s.fst.fst (Int.toNat (0 : Int)) (0 : UInt8))) :
                                                  Int) ==
                                                (92 : Int) then
                                            bif (↑(List.length s.fst.fst) : Int) == (1 : Int) then
                                              some
                                                (Sum.inr
                                                  (Sum.inr
                                                    (Sum.inr
                                                      (Sum.inr
                                                        (Sum.inr
                                                          ((nilOf (Int × Int × Bool × List Bool), false, ()), ()))))))
                                            else
                                              if
                                                  (0 : Int) ≤ (1 : Int) ∧
                                                    (1 : Int) < (↑(List.length s.fst.fst) : Int) then
                                                some
                                                  (Sum.inl
                                                    ((s.fst.fst, (), (2 : Int), (), ()), s.snd.fst,
                                                      (s.snd.snd.fst.fst,
                                                        (↑(UInt8.toNat
                                                              (List.getD s.fst.fst (Int.toNat (1 : Int)) (0 : UInt8))) :
                                                          Int),
                                                        s.snd.snd.fst.snd.snd.fst, (), ()),
                                                      ()))
                                              else none
                                          else
                                            some
                                              (Sum.inl
                                                ((s.fst.fst, (), s.fst.snd.snd.fst, (), ()), s.snd.fst,
                                                  (s.snd.snd.fst.fst, s.snd.snd.fst.snd.fst, s.snd.snd.fst.snd.snd.fst,
                                                    (), ()),
                                                  ())))
                                          fun
                                            (s :
                                              (List UInt8 × PUnit × Int × PUnit × PUnit) ×
                                                List (Int × Int × Bool × List Bool) ×
                                                  (Int × Int × Bool × PUnit × PUnit) × PUnit) =>
                                          some
                                            (Sum.inl
                                              ((s.fst.fst, (), s.fst.snd.snd.fst, (), ()), s.snd.fst,
                                                (s.snd.snd.fst.fst, s.snd.snd.fst.snd.fst, s.snd.snd.fst.snd.snd.fst,
                                                  nilOf Bool, ()),
                                                ()))
                                      else none)
                                    fun
                                      (s :
                                        (List UInt8 × PUnit × Int × PUnit × PUnit) ×
                                          List (Int × Int × Bool × List Bool) ×
                                            (Int × Int × Bool × List Bool × PUnit) × PUnit) =>
                                    some
                                      (Sum.inl
                                        ((s.fst.fst, (), s.fst.snd.snd.fst, (), ()), s.snd.fst,
                                          (s.snd.snd.fst.fst, s.snd.snd.fst.snd.fst, s.snd.snd.fst.snd.snd.fst,
                                            s.snd.snd.fst.snd.snd.snd.fst, ()),
                                          ()))
                                else none)
                              fun
                                (s :
                                  (List UInt8 × PUnit × Int × PUnit × PUnit) ×
                                    List (Int × Int × Bool × List Bool) ×
                                      (Int × Int × Bool × List Bool × PUnit) × PUnit) =>
                              some
                                (Sum.inl
                                  ((s.fst.fst, (), s.fst.snd.snd.fst, (), ()), s.snd.fst,
                                    (s.snd.snd.fst.fst, s.snd.snd.fst.snd.fst, s.snd.snd.fst.snd.snd.fst,
                                      s.snd.snd.fst.snd.snd.snd.fst, ()),
                                    ()))
                          else none)
                        fun
                          (s :
                            (List UInt8 × PUnit × Int × PUnit × PUnit) ×
                              List (Int × Int × Bool × List Bool) × (Int × Int × Bool × List Bool × PUnit) × PUnit) =>
                        some
                          (Sum.inl
                            ((s.fst.fst, (), s.fst.snd.snd.fst, (), ()), s.snd.fst,
                              (s.snd.snd.fst.fst, s.snd.snd.fst.snd.fst, s.snd.snd.fst.snd.snd.fst,
                                s.snd.snd.fst.snd.snd.snd.fst, ()),
                              ()))
                    else none)
                  fun
                    (s :
                      (List UInt8 × PUnit × Int × PUnit × PUnit) ×
                        List (Int × Int × Bool × List Bool) × (Int × Int × Bool × List Bool × PUnit) × PUnit) =>
                  if
                      (List.length s.snd.fst +
                            List.length
                              [(s.snd.snd.fst.fst, s.snd.snd.fst.snd.fst, s.snd.snd.fst.snd.snd.fst,
                                  s.snd.snd.fst.snd.snd.snd.fst)]) *
                          (40 : Nat) ≤
                        (140737488355328 : Nat) then
                    if
                        (0 : Int) ≤ s.fst.snd.snd.fst ∧
                          s.fst.snd.snd.fst ≤ (↑(List.length s.fst.fst) : Int) ∧
                            (↑(List.length s.fst.fst) : Int) ≤ (↑(List.length s.fst.fst) : Int) then
                      k
                        ((List.drop (Int.toNat s.fst.snd.snd.fst)
                              (List.take (Int.toNat (↑(List.length s.fst.fst) : Int)) s.fst.fst),
                            (), ()),
                          s.snd.fst ++
                            [(s.snd.snd.fst.fst, s.snd.snd.fst.snd.fst, s.snd.snd.fst.snd.snd.fst,
                                s.snd.snd.fst.snd.snd.snd.fst)],
                          ())
                    else none
                  else none
            else none
          else some ((s.snd.fst, true, ()), ()))
        ((a0, (), ()), nilOf (Int × Int × Bool × List Bool), ())
-- spec.PatternOk
def m_spec_PatternOk (a0 : List UInt8) : Option (Bool × Unit) :=
  Option.bind (m_spec_l08Pieces a0) fun (r : (List (Int × Int × Bool × List Bool) × Bool × Unit) × Unit) =>
    some r.fst.snd
-- spec.RuleOk
def m_spec_RuleOk (a0 : (Int × (Bool × (Bool × List UInt8)))) : Option (Bool × Unit) :=
  bif a0.fst == (4 : Int) then
    Option.bind
      (bif !a0.snd.fst then
        bif !a0.snd.snd.fst then some ((a0.snd.snd.snd == nilOf UInt8, ()), ()) else some ((false, ()), ())
      else some ((false, ()), ()))
      fun (s : (Bool × Unit) × Unit) => some s.fst
  else
    Option.bind
      (Option.bind (m_spec_l01In a0.fst (0 : Int) (3 : Int)) fun (r : Bool × Unit) =>
        bif !r.fst then some (((), true, ()), (a0.fst, a0.snd.fst, a0.snd.snd.fst, a0.snd.snd.snd, ()), ())
        else
          Option.bind (m_spec_PatternOk a0.snd.snd.snd) fun (r : Bool × Unit) =>
            bif !r.fst then some (((), true, ()), (a0.fst, a0.snd.fst, a0.snd.snd.fst, a0.snd.snd.snd, ()), ())
            else
              if (0 : Int) ≤ (0 : Int) ∧ (0 : Int) < (↑(List.length a0.snd.snd.snd) : Int) then
                bif
                    (↑(UInt8.toNat (List.getD a0.snd.snd.snd (Int.toNat (0 : Int)) (0 : UInt8))) : Int) ==
                      (47 : Int) then
                  some (((), true, ()), (a0.fst, a0.snd.fst, a0.snd.snd.fst, a0.snd.snd.snd, ()), ())
                else
                  if
                      (0 : Int) ≤ IntKind.wrap IntKind.i64 ((↑(List.length a0.snd.snd.snd) : Int) - (1 : Int)) ∧
                        IntKind.wrap IntKind.i64 ((↑(List.length a0.snd.snd.snd) : Int) - (1 : Int)) <
                          (↑(List.length a0.snd.snd.snd) : Int) then
                    some
                      (((),
                          (↑(UInt8.toNat
                                  (List.getD a0.snd.snd.snd
                                    (Int.toNat
                                      (IntKind.wrap IntKind.i64 ((↑(List.length a0.snd.snd.snd) : Int) - (1 : Int))))
                                    (0 : UInt8))) :
                              Int) ==
                            (47 : Int),
                          ()),
                        (a0.fst, a0.snd.fst, a0.snd.snd.fst, a0.snd.snd.snd, ()), ())
                  else none
              else none)
      fun (s : (Unit × Bool × Unit) × (Int × Bool × Bool × List UInt8 × Unit) × Unit) =>
      bif s.fst.snd.fst then some (false, ())
      else
        joinC
          (loopC (Int.toNat (0 : Int) + Int.toNat s.snd.fst.fst + List.length s.snd.fst.snd.snd.snd.fst + (300 : Nat))
            (fun (s : (Unit × Int × Unit) × (Int × Bool × Bool × List UInt8 × Unit) × Unit)
                (k :
                  (Unit × Int × Unit) × (Int × Bool × Bool × List UInt8 × Unit) × Unit →
                    Option (Unit × Unit ⊕ Bool × Unit)) =>
              bif decide (s.fst.snd.fst < (↑(List.length s.snd.fst.snd.snd.snd.fst) : Int)) then
                Option.bind
                  (if (0 : Int) ≤ s.fst.snd.fst ∧ s.fst.snd.fst < (↑(List.length s.snd.fst.snd.snd.snd.fst) : Int) then
                    bif
                        (↑(UInt8.toNat (List.getD s.snd.fst.snd.snd.snd.fst (Int.toNat s.fst.snd.fst) (0 : UInt8))) :
                            Int) ==
                          (32 : Int) then
                      some (((), s.fst.snd.fst, true, ()), s.snd)
                    else
                      if
                          (0 : Int) ≤ s.fst.snd.fst ∧
                            s.fst.snd.fst < (↑(List.length s.snd.fst.snd.snd.snd.fst) : Int) then
                        some
                          (((), s.fst.snd.fst,
                              (↑(UInt8.toNat
                                      (List.getD s.snd.fst.snd.snd.snd.fst (Int.toNat s.fst.snd.fst) (0 : UInt8))) :
                                  Int) ==
                                (10 : Int),
                              ()),
                            s.snd)
                      else none
                  else none)
                  fun (s : (Unit × Int × Bool × Unit) × (Int × Bool × Bool × List UInt8 × Unit) × Unit) =>
                  bif s.fst.snd.snd.fst then some (Sum.inr (false, ()))
                  else k (((), IntKind.wrap IntKind.i64 (s.fst.snd.fst + (1 : Int)), ()), s.snd)
              else some (Sum.inl ((), ())))
            (((), (0 : Int), ()), s.snd))
          fun (s : Unit × Unit) => some (true, ())
-- internal/stringslite.Cut
def m_stringslite_Cut (a0 : List UInt8) : Option ((List UInt8 × List UInt8 × Bool × Unit) × Unit) :=
  Option.bind (m_stringslite_Index a0) fun (r : Int × Unit) =>
    bif decide (r.fst ≥ (0 : Int)) then
      if (0 : Int) ≤ (0 : Int) ∧ (0 : Int) ≤ r.fst ∧ r.fst ≤ (↑(List.length a0) : Int) then
        if
            (0 : Int) ≤ IntKind.wrap IntKind.i64 (r.fst + (↑(List.length [(32 : UInt8)]) : Int)) ∧
              IntKind.wrap IntKind.i64 (r.fst + (↑(List.length [(32 : UInt8)]) : Int)) ≤ (↑(List.length a0) : Int) ∧
                (↑(List.length a0) : Int) ≤ (↑(List.length a0) : Int) then
          some
            ((List.drop (Int.toNat (0 : Int)) (List.take (Int.toNat r.fst) a0),
                List.drop (Int.toNat (IntKind.wrap IntKind.i64 (r.fst + (↑(List.length [(32 : UInt8)]) : Int))))
                  (List.take (Int.toNat (↑(List.length a0) : Int)) a0),
                true, ()),
              ())
        else none
      else none
    else some ((a0, nilOf UInt8, false, ()), ())
-- strings.Cut
def m_strings_Cut (a0 : List UInt8) : Option ((List UInt8 × List UInt8 × Bool × Unit) × Unit) :=
  Option.bind (m_stringslite_Cut a0) fun (r : (List UInt8 × List UInt8 × Bool × Unit) × Unit) => some r
-- strings.Index
def m_strings_Index_2 (a0 a1 : List UInt8) : Option (Int × Unit) := indexM a0 a1
-- internal/stringslite.CutPrefix
def m_stringslite_CutPrefix (a0 : List UInt8) (a1 : List UInt8) : Option ((List UInt8 × Bool × Unit) × Unit) :=
  Option.bind (m_stringslite_HasPrefix a0 a1) fun (r : Bool × Unit) =>
    bif !r.fst then some ((a0, false, ()), ())
    else
      if
          (0 : Int) ≤ (↑(List.length a1) : Int) ∧
            (↑(List.length a1) : Int) ≤ (↑(List.length a0) : Int) ∧
              (↑(List.length a0) : Int) ≤ (↑(List.length a0) : Int) then
        some
          ((List.drop (Int.toNat (↑(List.length a1) : Int)) (List.take (Int.toNat (↑(List.length a0) : Int)) a0), true,
              ()),
            ())
      else none
-- strings.CutPrefix
def m_strings_CutPrefix (a0 : List UInt8) (a1 : List UInt8) : Option ((List UInt8 × Bool × Unit) × Unit) :=
  Option.bind (m_stringslite_CutPrefix a0 a1) fun (r : (List UInt8 × Bool × Unit) × Unit) => some r
-- internal/stringslite.CutSuffix
def m_stringslite_CutSuffix (a0 : List UInt8) (a1 : List UInt8) : Option ((List UInt8 × Bool × Unit) × Unit) :=
  Option.bind (m_stringslite_HasSuffix a0 a1) fun (r : Bool × Unit) =>
    bif !r.fst then some ((a0, false, ()), ())
    else
      if
          (0 : Int) ≤ (0 : Int) ∧
            (0 : Int) ≤ IntKind.wrap IntKind.i64 ((↑(List.length a0) : Int) - (↑(List.length a1) : Int)) ∧
              IntKind.wrap IntKind.i64 ((↑(List.length a0) : Int) - (↑(List.length a1) : Int)) ≤
                (↑(List.length a0) : Int) then
        some
          ((List.drop (Int.toNat (0 : Int))
                (List.take
                  (Int.toNat (IntKind.wrap IntKind.i64 ((↑(List.length a0) : Int) - (↑(List.length a1) : Int)))) a0),
              true, ()),
            ())
      else none
-- strings.CutSuffix
def m_strings_CutSuffix (a0 : List UInt8) (a1 : List UInt8) : Option ((List UInt8 × Bool × Unit) × Unit) :=
  Option.bind (m_stringslite_CutSuffix a0 a1) fun (r : (List UInt8 × Bool × Unit) × Unit) => some r
-- impl.ParseRule
def m_impl_ParseRule (a0 : List UInt8) : Option (((Int × (Bool × (Bool × List UInt8))) × Bool × Unit) × Unit) :=
  Option.bind (m_strings_Cut a0) fun (r : (List UInt8 × List UInt8 × Bool × Unit) × Unit) =>
    Option.bind (m_strings_Index_2 [(45 : UInt8), (43 : UInt8), (80 : UInt8), (82 : UInt8), (33 : UInt8)] r.fst.fst)
      fun (r_1 : Int × Unit) =>
      Option.bind
        (bif r_1.fst != (4 : Int) then
          Option.bind (m_strings_CutPrefix r.fst.snd.fst [(47 : UInt8)])
            fun (r_2 : (List UInt8 × Bool × Unit) × Unit) =>
            Option.bind (m_strings_CutSuffix r_2.fst.fst [(47 : UInt8)])
              fun (r_3 : (List UInt8 × Bool × Unit) × Unit) =>
              some
                ((a0, (), r.fst.fst, (), ()), ((0 : Int), false, false, nilOf UInt8, ()),
                  (r_1.fst, r_2.fst.snd.fst, r_3.fst.snd.fst, r_3.fst.fst, ()), ())
        else
          some
            ((a0, (), r.fst.fst, (), ()), ((0 : Int), false, false, nilOf UInt8, ()),
              (r_1.fst, false, false, nilOf UInt8, ()), ()))
        fun
          (s :
            (List UInt8 × Unit × List UInt8 × Unit × Unit) ×
              (Int × Bool × Bool × List UInt8 × Unit) × (Int × Bool × Bool × List UInt8 × Unit) × Unit) =>
        Option.bind
          (bif (↑(List.length s.fst.snd.snd.fst) : Int) != (1 : Int) then some (((), (), true, ()), s.snd)
          else
            Option.bind
              (m_impl_RuleOk
                (s.snd.snd.fst.fst, s.snd.snd.fst.snd.fst, s.snd.snd.fst.snd.snd.fst, s.snd.snd.fst.snd.snd.snd.fst))
              fun (r : Bool × Unit) =>
              bif !r.fst then some (((), (), true, ()), s.snd)
              else
                Option.bind
                  (m_impl_ShowRule
                    (s.snd.snd.fst.fst, s.snd.snd.fst.snd.fst, s.snd.snd.fst.snd.snd.fst,
                      s.snd.snd.fst.snd.snd.snd.fst))
                  fun (r : List UInt8 × Unit) => some (((), (), !r.fst == s.fst.fst, ()), s.snd))
          fun
            (s :
              (Unit × Unit × Bool × Unit) ×
                (Int × Bool × Bool × List UInt8 × Unit) × (Int × Bool × Bool × List UInt8 × Unit) × Unit) =>
          bif s.fst.snd.snd.fst then some ((((0 : Int), false, false, nilOf UInt8), false, ()), ())
          else
            some
              (((s.snd.snd.fst.fst, s.snd.snd.fst.snd.fst, s.snd.snd.fst.snd.snd.fst, s.snd.snd.fst.snd.snd.snd.fst),
                  true, ()),
                ())
-- spec.l09Rules
def m_spec_l09Rules (a1 : Int) (s0 : (List Int × Int × Int × Unit)) : Option (Unit × ((List Int × Int × Int × Unit) × List ((Int × (Bool × (Bool × List UInt8)))) × Unit)) :=
  Option.bind
    (loopC
      (Int.toNat a1 + Int.toNat (0 : Int) + List.length s0.fst + Int.toNat s0.snd.fst + Int.toNat s0.snd.snd.fst +
          List.length (nilOf (Int × Bool × Bool × List UInt8)) +
        (300 : Nat))
      (fun
          (s :
            (Unit × Int × Unit × Int × Unit) ×
              (List Int × Int × Int × Unit) × List (Int × Bool × Bool × List UInt8) × Unit)
          (k :
            (Unit × Int × Unit × Int × Unit) ×
                (List Int × Int × Int × Unit) × List (Int × Bool × Bool × List UInt8) × Unit →
              Option
                ((Unit × Unit) × (List Int × Int × Int × Unit) × List (Int × Bool × Bool × List UInt8) × Unit)) =>
        bif decide (s.fst.snd.snd.snd.fst < s.fst.snd.fst) then
          Option.bind (m_spec_l09Rule s.snd.fst)
            fun (r : (Int × Bool × Bool × List UInt8) × (List Int × Int × Int × Unit) × Unit) =>
            if (List.length s.snd.snd.fst + List.length [r.fst]) * (32 : Nat) ≤ (140737488355328 : Nat) then
              k
                (((), s.fst.snd.fst, (), IntKind.wrap IntKind.i64 (s.fst.snd.snd.snd.fst + (1 : Int)), ()), r.snd.fst,
                  s.snd.snd.fst ++ [r.fst], ())
            else none
        else some (((), ()), s.snd))
      (((), a1, (), (0 : Int), ()), s0, nilOf (Int × Bool × Bool × List UInt8), ()))
    fun (s : (Unit × Unit) × (List Int × Int × Int × Unit) × List (Int × Bool × Bool × List UInt8) × Unit) =>
    some ((), s.snd)
-- spec.l02Name
def m_spec_l02Name (s0 : (List Int × Int × Int × Unit)) : Option (List UInt8 × ((List Int × Int × Int × Unit) × Unit)) :=
  Option.bind
    (m_spec_l01Pick
      [[(97 : UInt8)], [(98 : UInt8)], [(99 : UInt8)], [(100 : UInt8), (111 : UInt8), (99 : UInt8), (115 : UInt8)],
        [(105 : UInt8), (109 : UInt8), (103 : UInt8)],
        [(120 : UInt8), (46 : UInt8), (116 : UInt8), (120 : UInt8), (116 : UInt8)],
        [(121 : UInt8), (46 : UInt8), (116 : UInt8), (120 : UInt8), (116 : UInt8)],
        [(122 : UInt8), (46 : UInt8), (111 : UInt8)],
        [(110 : UInt8), (111 : UInt8), (116 : UInt8), (101 : UInt8), (95 : UInt8), (49 : UInt8)], [(66 : UInt8)],
        [(111 : UInt8), (108 : UInt8), (100 : UInt8)],
        [(107 : UInt8), (101 : UInt8), (101 : UInt8), (112 : UInt8), (46 : UInt8), (109 : UInt8), (101 : UInt8)],
        [(97 : UInt8), (45 : UInt8), (98 : UInt8)], [(108 : UInt8), (105 : UInt8), (98 : UInt8)]]
      (s0.fst, s0.snd.fst, s0.snd.snd.fst, ()))
    fun (r : List UInt8 × (List Int × Int × Int × PUnit) × PUnit) =>
    some (r.fst, (r.snd.fst.fst, r.snd.fst.snd.fst, r.snd.fst.snd.snd.fst, ()), ())
-- spec.l02Path
def m_spec_l02Path (s0 : (List Int × Int × Int × Unit)) : Option (List UInt8 × ((List Int × Int × Int × Unit) × Unit)) :=
  Option.bind (m_spec_l02Name (s0.fst, s0.snd.fst, s0.snd.snd.fst, ()))
    fun (r : List UInt8 × (List Int × Int × Int × PUnit) × PUnit) =>
    Option.bind (m_spec_l01Below (4 : Int) (r.snd.fst.fst, r.snd.fst.snd.fst, r.snd.fst.snd.snd.fst, ()))
      fun (r_1 : Int × (List Int × Int × Int × PUnit) × PUnit) =>
      Option.bind
        (loopC
          (List.length r.fst + Int.toNat r_1.fst + Int.toNat (0 : Int) + List.length r_1.snd.fst.fst +
                Int.toNat r_1.snd.fst.snd.fst +
              Int.toNat r_1.snd.fst.snd.snd.fst +
            (300 : Nat))
          (fun (s : (PUnit × List UInt8 × Int × Int × PUnit) × (List Int × Int × Int × PUnit) × PUnit)
              (k :
                (PUnit × List UInt8 × Int × Int × PUnit) × (List Int × Int × Int × PUnit) × PUnit →
                  Option ((List UInt8 × PUnit) × (List Int × Int × Int × PUnit) × PUnit)) =>
            bif decide (s.fst.snd.snd.snd.fst < s.fst.snd.snd.fst) then
              if List.length s.fst.snd.fst + List.length [(47 : UInt8)] < (2 : Nat) ^ (63 : Nat) then
                Option.bind (m_spec_l02Name (s.snd.fst.fst, s.snd.fst.snd.fst, s.snd.fst.snd.snd.fst, ()))
                  fun (r : List UInt8 × (List Int × Int × Int × PUnit) × PUnit) =>
                  if List.length (s.fst.snd.fst ++ [(47 : UInt8)]) + List.length r.fst < (2 : Nat) ^ (63 : Nat) then
                    k
                      (((), s.fst.snd.fst ++ [(47 : UInt8)] ++ r.fst, s.fst.snd.snd.fst,
                          IntKind.wrap IntKind.i64 (s.fst.snd.snd.snd.fst + (1 : Int)), ()),
                        (r.snd.fst.fst, r.snd.fst.snd.fst, r.snd.fst.snd.snd.fst, ()), ())
                  else none
              else none
            else some ((s.fst.snd.fst, ()), (s.snd.fst.fst, s.snd.fst.snd.fst, s.snd.fst.snd.snd.fst, ()), ()))
          (((), r.fst, r_1.fst, (0 : Int), ()), (r_1.snd.fst.fst, r_1.snd.fst.snd.fst, r_1.snd.fst.snd.snd.fst, ()),
            ()))
        fun (s : (List UInt8 × PUnit) × (List Int × Int × Int × PUnit) × PUnit) =>
        some (s.fst.fst, (s.snd.fst.fst, s.snd.fst.snd.fst, s.snd.fst.snd.snd.fst, ()), ())
-- spec.l02Any
def m_spec_l02Any (s0 : (List Int × Int × Int × Unit)) : Option (List UInt8 × ((List Int × Int × Int × Unit) × Unit)) :=
  Option.bind (m_spec_l02Path s0) fun (r : List UInt8 × (List Int × Int × Int × Unit) × Unit) =>
    Option.bind (m_spec_l01Below (14 : Int) r.snd.fst) fun (r_1 : Int × (List Int × Int × Int × Unit) × Unit) =>
      Option.bind
        (bif r_1.fst == (0 : Int) then
          Option.bind
            (m_spec_l01Pick
              [nilOf UInt8, [(47 : UInt8)], [(97 : UInt8), (47 : UInt8)], [(47 : UInt8), (97 : UInt8)],
                [(97 : UInt8), (47 : UInt8), (47 : UInt8), (98 : UInt8)], [(46 : UInt8)], [(46 : UInt8), (46 : UInt8)],
                [(97 : UInt8), (47 : UInt8), (46 : UInt8), (46 : UInt8)], [(97 : UInt8), (32 : UInt8), (98 : UInt8)],
                [(97 : UInt8), (98 : UInt8), (99 : UInt8), (100 : UInt8), (101 : UInt8), (102 : UInt8), (103 : UInt8),
                  (104 : UInt8), (105 : UInt8), (106 : UInt8), (107 : UInt8), (108 : UInt8), (109 : UInt8),
                  (110 : UInt8), (111 : UInt8), (112 : UInt8), (113 : UInt8), (114 : UInt8), (115 : UInt8),
                  (116 : UInt8)],
                [(97 : UInt8), (98 : UInt8), (99 : UInt8), (100 : UInt8), (101 : UInt8), (102 : UInt8), (103 : UInt8),
                  (104 : UInt8), (105 : UInt8), (106 : UInt8), (107 : UInt8), (108 : UInt8), (109 : UInt8),
                  (110 : UInt8), (111 : UInt8), (112 : UInt8), (113 : UInt8), (114 : UInt8), (115 : UInt8),
                  (116 : UInt8), (117 : UInt8)],
                [(97 : UInt8), (47 : UInt8), (98 : UInt8), (47 : UInt8), (99 : UInt8), (47 : UInt8), (100 : UInt8),
                  (47 : UInt8), (101 : UInt8), (47 : UInt8), (102 : UInt8), (47 : UInt8), (103 : UInt8), (47 : UInt8),
                  (104 : UInt8)],
                [(97 : UInt8), (47 : UInt8), (98 : UInt8), (47 : UInt8), (99 : UInt8), (47 : UInt8), (100 : UInt8),
                  (47 : UInt8), (101 : UInt8), (47 : UInt8), (102 : UInt8), (47 : UInt8), (103 : UInt8), (47 : UInt8),
                  (104 : UInt8), (47 : UInt8), (105 : UInt8)]]
              r_1.snd.fst)
            fun (r : List UInt8 × (List Int × Int × Int × Unit) × Unit) => some ((r.fst, ()), r.snd)
        else
          Option.bind
            (bif r_1.fst == (1 : Int) then
              if List.length r.fst + List.length [(47 : UInt8)] < (2 : Nat) ^ (63 : Nat) then
                some ((r.fst ++ [(47 : UInt8)], ()), r_1.snd)
              else none
            else some ((r.fst, ()), r_1.snd))
            fun (s : (List UInt8 × Unit) × (List Int × Int × Int × Unit) × Unit) => some s)
        fun (s : (List UInt8 × Unit) × (List Int × Int × Int × Unit) × Unit) => some (s.fst.fst, s.snd)
-- spec.DrawHidden
def m_spec_DrawHidden (a0 : List Int) : Option ((List (Int × (Bool × (Bool × List UInt8))) × List UInt8 × Bool × Unit) × Unit) :=
  Option.bind (m_spec_l01New a0) fun (r : Unit × (List Int × Int × Int × Unit) × Unit) =>
    Option.bind (m_spec_l01Below (7 : Int) r.snd.fst) fun (r : Int × (List Int × Int × Int × Unit) × Unit) =>
      Option.bind (m_spec_l09Rules r.fst r.snd.fst)
        fun (r : Unit × (List Int × Int × Int × Unit) × List (Int × Bool × Bool × List UInt8) × Unit) =>
        Option.bind (m_spec_l01Once (15 : Int) r.snd.fst) fun (r_1 : Bool × (List Int × Int × Int × Unit) × Unit) =>
          Option.bind
            (bif r_1.fst then
              Option.bind (m_spec_l09Any r_1.snd.fst)
                fun (r_2 : (Int × Bool × Bool × List UInt8) × (List Int × Int × Int × Unit) × Unit) =>
                if (List.length r.snd.snd.fst + List.length [r_2.fst]) * (32 : Nat) ≤ (140737488355328 : Nat) then
                  some (((), (), ()), r_2.snd.fst, r.snd.snd.fst ++ [r_2.fst], ())
                else none
            else some (((), (), ()), r_1.snd.fst, r.snd.snd))
            fun
              (s :
                (Unit × Unit × Unit) ×
                  (List Int × Int × Int × Unit) × List (Int × Bool × Bool × List UInt8) × Unit) =>
            Option.bind (m_spec_l02Any s.snd.fst) fun (r : List UInt8 × (List Int × Int × Int × Unit) × Unit) =>
              Option.bind (m_spec_l01Once (2 : Int) r.snd.fst)
                fun (r_2 : Bool × (List Int × Int × Int × Unit) × Unit) =>
                some ((s.snd.snd.fst, r.fst, r_2.fst, ()), ())
-- internal/bytealg.CountString
def m_bytealg_CountString (a0 : List UInt8) (a1 : Int) : Option (Int × Unit) := some ((Go.Lib.countByte a0 a1.toNat.toUInt8 : Nat), ())
-- strings.Count
def m_strings_Count (a0 : List UInt8) : Option (Int × Unit) :=
  if (0 : Int) ≤ (0 : Int) ∧ (0 : Int) < (↑(List.length [(10 : UInt8)]) : Int) then
    Option.bind
      (m_bytealg_CountString a0 (↑(UInt8.toNat (List.getD [(10 : UInt8)] (Int.toNat (0 : Int)) (0 : UInt8))) : Int))
      fun (r : Int × Unit) => some r
  else none
-- internal/stringslite.Index
def m_stringslite_Index_2 (a0 : List UInt8) : Option (Int × Unit) :=
  bif [(10 : UInt8)] == a0 then some ((0 : Int), ())
  else
    if (0 : Int) ≤ (0 : Int) ∧ (0 : Int) < (↑(List.length [(10 : UInt8)]) : Int) then
      Option.bind
        (m_stringslite_IndexByte a0 (↑(UInt8.toNat (List.getD [(10 : UInt8)] (Int.toNat (0 : Int)) (0 : UInt8))) : Int))
        fun (r : Int × Unit) => some r
    else none
-- strings.Index
def m_strings_Index_3 (a0 : List UInt8) : Option (Int × Unit) := Option.bind (m_stringslite_Index_2 a0) fun (r : Int × Unit) => some r
-- strings.genSplit
def m_strings_genSplit (a0 : List UInt8) : Option (List (List UInt8) × Unit) :=
  Option.bind (m_strings_Count a0) fun (r : Int × Unit) =>
    if
        ((0 : Int) ≤
            if
                IntKind.wrap IntKind.i64 ((↑(List.length a0) : Int) + (1 : Int)) <
                  IntKind.wrap IntKind.i64 (r.fst + (1 : Int)) then
              IntKind.wrap IntKind.i64 ((↑(List.length a0) : Int) + (1 : Int))
            else IntKind.wrap IntKind.i64 (r.fst + (1 : Int))) ∧
          ((if
                  IntKind.wrap IntKind.i64 ((↑(List.length a0) : Int) + (1 : Int)) <
                    IntKind.wrap IntKind.i64 (r.fst + (1 : Int)) then
                IntKind.wrap IntKind.i64 ((↑(List.length a0) : Int) + (1 : Int))
              else IntKind.wrap IntKind.i64 (r.fst + (1 : Int))) ≤
              if
                  IntKind.wrap IntKind.i64 ((↑(List.length a0) : Int) + (1 : Int)) <
                    IntKind.wrap IntKind.i64 (r.fst + (1 : Int)) then
                IntKind.wrap IntKind.i64 ((↑(List.length a0) : Int) + (1 : Int))
              else IntKind.wrap IntKind.i64 (r.fst + (1 : Int))) ∧
            ((↑(16 : Nat) : Int) *
                  if
                      IntKind.wrap IntKind.i64 ((↑(List.length a0) : Int) + (1 : Int)) <
                        IntKind.wrap IntKind.i64 (r.fst + (1 : Int)) then
                    IntKind.wrap IntKind.i64 ((↑(List.length a0) : Int) + (1 : Int))
                  else IntKind.wrap IntKind.i64 (r.fst + (1 : Int))) ≤
                (140737488355328 : Int) ∧
              (if
                    IntKind.wrap IntKind.i64 ((↑(List.length a0) : Int) + (1 : Int)) <
                      IntKind.wrap IntKind.i64 (r.fst + (1 : Int)) then
                  IntKind.wrap IntKind.i64 ((↑(List.length a0) : Int) + (1 : Int))
                else IntKind.wrap IntKind.i64 (r.fst + (1 : Int))) <
                (2 : Int) ^ (62 : Nat) then
      Option.bind
        (loopC
          (List.length a0 +
                  Int.toNat
                    (IntKind.wrap IntKind.i64
                      ((if
                            IntKind.wrap IntKind.i64 ((↑(List.length a0) : Int) + (1 : Int)) <
                              IntKind.wrap IntKind.i64 (r.fst + (1 : Int)) then
                          IntKind.wrap IntKind.i64 ((↑(List.length a0) : Int) + (1 : Int))
                        else IntKind.wrap IntKind.i64 (r.fst + (1 : Int))) -
                        (1 : Int))) +
                Int.toNat (0 : Int) +
              List.length
                (List.replicate
                  (Int.toNat
                    (if
                        IntKind.wrap IntKind.i64 ((↑(List.length a0) : Int) + (1 : Int)) <
                          IntKind.wrap IntKind.i64 (r.fst + (1 : Int)) then
                      IntKind.wrap IntKind.i64 ((↑(List.length a0) : Int) + (1 : Int))
                    else IntKind.wrap IntKind.i64 (r.fst + (1 : Int))))
                  (nilOf UInt8)) +
            (300 : Nat))
          (fun (s : (List UInt8 × Unit × Unit × Int × Unit × Int × Unit) × List (List UInt8) × Unit)
              (k :
                (List UInt8 × Unit × Unit × Int × Unit × Int × Unit) × List (List UInt8) × Unit →
                  Option ((List UInt8 × Unit × Int × Unit) × List (List UInt8) × Unit)) =>
            bif decide (s.fst.snd.snd.snd.snd.snd.fst < s.fst.snd.snd.snd.fst) then
              Option.bind (m_strings_Index_3 s.fst.fst) fun (r : Int × Unit) =>
                bif decide (r.fst < (0 : Int)) then some ((s.fst.fst, (), s.fst.snd.snd.snd.snd.snd), s.snd)
                else
                  if
                      (0 : Int) ≤ (0 : Int) ∧
                        (0 : Int) ≤ IntKind.wrap IntKind.i64 (r.fst + (0 : Int)) ∧
                          IntKind.wrap IntKind.i64 (r.fst + (0 : Int)) ≤ (↑(List.length s.fst.fst) : Int) then
                    if
                        (0 : Int) ≤ s.fst.snd.snd.snd.snd.snd.fst ∧
                          s.fst.snd.snd.snd.snd.snd.fst < (↑(List.length s.snd.fst) : Int) then
                      if Int.toNat s.fst.snd.snd.snd.snd.snd.fst < List.length s.snd.fst then
                        if
                            (0 : Int) ≤ IntKind.wrap IntKind.i64 (r.fst + (↑(List.length [(10 : UInt8)]) : Int)) ∧
                              IntKind.wrap IntKind.i64 (r.fst + (↑(List.length [(10 : UInt8)]) : Int)) ≤
                                  (↑(List.length s.fst.fst) : Int) ∧
                                (↑(List.length s.fst.fst) : Int) ≤ (↑(List.length s.fst.fst) : Int) then
                          k
                            ((List.drop
                                  (Int.toNat (IntKind.wrap IntKind.i64 (r.fst + (↑(List.length [(10 : UInt8)]) : Int))))
                                  (List.take (Int.toNat (↑(List.length s.fst.fst) : Int)) s.fst.fst),
                                (), (), s.fst.snd.snd.snd.fst, (),
                                IntKind.wrap IntKind.i64 (s.fst.snd.snd.snd.snd.snd.fst + (1 : Int)), ()),
                              List.set s.snd.fst (Int.toNat s.fst.snd.snd.snd.snd.snd.fst)
                                (List.drop (Int.toNat (0 : Int))
                                  (List.take (Int.toNat (IntKind.wrap IntKind.i64 (r.fst + (0 : Int)))) s.fst.fst)),
                              ())
                        else none
                      else none
                    else none
                  else none
            else some ((s.fst.fst, (), s.fst.snd.snd.snd.snd.snd), s.snd))
          ((a0, (), (),
              IntKind.wrap IntKind.i64
                ((if
                      IntKind.wrap IntKind.i64 ((↑(List.length a0) : Int) + (1 : Int)) <
                        IntKind.wrap IntKind.i64 (r.fst + (1 : Int)) then
                    IntKind.wrap IntKind.i64 ((↑(List.length a0) : Int) + (1 : Int))
                  else IntKind.wrap IntKind.i64 (r.fst + (1 : Int))) -
                  (1 : Int)),
              (), (0 : Int), ()),
            List.replicate
              (Int.toNat
                (if
                    IntKind.wrap IntKind.i64 ((↑(List.length a0) : Int) + (1 : Int)) <
                      IntKind.wrap IntKind.i64 (r.fst + (1 : Int)) then
                  IntKind.wrap IntKind.i64 ((↑(List.length a0) : Int) + (1 : Int))
                else IntKind.wrap IntKind.i64 (r.fst + (1 : Int))))
              (nilOf UInt8),
            ()))
        fun (s : (List UInt8 × Unit × Int × Unit) × List (List UInt8) × Unit) =>
        if (0 : Int) ≤ s.fst.snd.snd.fst ∧ s.fst.snd.snd.fst < (↑(List.length s.snd.fst) : Int) then
          if Int.toNat s.fst.snd.snd.fst < List.length s.snd.fst then
            if
                (0 : Int) ≤ (0 : Int) ∧
                  (0 : Int) ≤ IntKind.wrap IntKind.i64 (s.fst.snd.snd.fst + (1 : Int)) ∧
                    IntKind.wrap IntKind.i64 (s.fst.snd.snd.fst + (1 : Int)) ≤
                      (↑(List.length (List.set s.snd.fst (Int.toNat s.fst.snd.snd.fst) s.fst.fst)) : Int) then
              some
                (List.drop (Int.toNat (0 : Int))
                    (List.take (Int.toNat (IntKind.wrap IntKind.i64 (s.fst.snd.snd.fst + (1 : Int))))
                      (List.set s.snd.fst (Int.toNat s.fst.snd.snd.fst) s.fst.fst)),
                  ())
            else none
          else none
        else none
    else none
-- strings.Split
def m_strings_Split (a0 : List UInt8) : Option (List (List UInt8) × Unit) :=
  Option.bind (m_strings_genSplit a0) fun (r : List (List UInt8) × Unit) => some r
-- impl.linesOf
def m_impl_linesOf (a0 : List UInt8) : Option ((List (List UInt8) × Bool × Unit) × Unit) :=
  Option.bind
    (bif decide ((↑(List.length a0) : Int) > (20000 : Int)) then some ((a0, true, ()), ())
    else
      bif !a0 == nilOf UInt8 then
        Option.bind (m_strings_HasSuffix a0 [(10 : UInt8)]) fun (r : Bool × Unit) =>
          bif !r.fst then some ((a0, true, ()), ())
          else
            Option.bind (m_strings_Count a0) fun (r : Int × Unit) => some ((a0, decide (r.fst > (600 : Int)), ()), ())
      else Option.bind (m_strings_Count a0) fun (r : Int × Unit) => some ((a0, decide (r.fst > (600 : Int)), ()), ()))
    fun (s : (List UInt8 × Bool × Unit) × Unit) =>
    bif s.fst.snd.fst then some ((nilOf (List UInt8), false, ()), ())
    else
      Option.bind (m_strings_Split s.fst.fst) fun (r : List (List UInt8) × Unit) =>
        if
            (0 : Int) ≤ (0 : Int) ∧
              (0 : Int) ≤ IntKind.wrap IntKind.i64 ((↑(List.length r.fst) : Int) - (1 : Int)) ∧
                IntKind.wrap IntKind.i64 ((↑(List.length r.fst) : Int) - (1 : Int)) ≤ (↑(List.length r.fst) : Int) then
          some
            ((List.drop (Int.toNat (0 : Int))
                  (List.take (Int.toNat (IntKind.wrap IntKind.i64 ((↑(List.length r.fst) : Int) - (1 : Int)))) r.fst),
                true, ()),
              ())
        else none
-- impl.ParseRules
def m_impl_ParseRules (a0 : List UInt8) : Option ((List (Int × (Bool × (Bool × List UInt8))) × Int × Bool × Unit) × Unit) :=
  Option.bind (m_impl_linesOf a0) fun (r : (List (List UInt8) × Bool × Unit) × Unit) =>
    bif !r.fst.snd.fst then some ((nilOf (Int × Bool × Bool × List UInt8), (0 : Int), false, ()), ())
    else
      joinC
        (loopC
          (List.length r.fst.fst + Int.toNat (↑(List.length r.fst.fst) : Int) + Int.toNat (0 : Int) +
              List.length (nilOf (Int × Bool × Bool × List UInt8)) +
            (300 : Nat))
          (fun (s : (Unit × List (List UInt8) × Int × Int × Unit) × List (Int × Bool × Bool × List UInt8) × Unit)
              (k :
                (Unit × List (List UInt8) × Int × Int × Unit) × List (Int × Bool × Bool × List UInt8) × Unit →
                  Option
                    ((Unit × Unit) × List (Int × Bool × Bool × List UInt8) × Unit ⊕
                      (List (Int × Bool × Bool × List UInt8) × Int × Bool × Unit) × Unit)) =>
            bif decide (s.fst.snd.snd.snd.fst < s.fst.snd.snd.fst) then
              joinC
                (if
                    (0 : Int) ≤ s.fst.snd.snd.snd.fst ∧
                      s.fst.snd.snd.snd.fst < (↑(List.length s.fst.snd.fst) : Int) then
                  Option.bind
                    (m_impl_ParseRule (List.getD s.fst.snd.fst (Int.toNat s.fst.snd.snd.snd.fst) (nilOf UInt8)))
                    fun (r : ((Int × Bool × Bool × List UInt8) × Bool × Unit) × Unit) =>
                    bif !r.fst.snd.fst then
                      some
                        (Sum.inr
                          (Sum.inr
                            ((nilOf (Int × Bool × Bool × List UInt8),
                                IntKind.wrap IntKind.i64 (s.fst.snd.snd.snd.fst + (1 : Int)), false, ()),
                              ())))
                    else
                      bif r.fst.fst.fst == (4 : Int) then
                        some (Sum.inl (((), s.fst.snd), nilOf (Int × Bool × Bool × List UInt8), ()))
                      else
                        bif (↑(List.length s.snd.fst) : Int) == (100 : Int) then
                          some
                            (Sum.inr
                              (Sum.inr
                                ((nilOf (Int × Bool × Bool × List UInt8),
                                    IntKind.wrap IntKind.i64 (s.fst.snd.snd.snd.fst + (1 : Int)), false, ()),
                                  ())))
                        else
                          if
                              (List.length s.snd.fst + List.length [r.fst.fst]) * (32 : Nat) ≤
                                (140737488355328 : Nat) then
                            some (Sum.inl (((), s.fst.snd), s.snd.fst ++ [r.fst.fst], ()))
                          else none
                else none)
                fun
                  (s :
                    (Unit × List (List UInt8) × Int × Int × Unit) × List (Int × Bool × Bool × List UInt8) × Unit) =>
                k
                  (((), s.fst.snd.fst, s.fst.snd.snd.fst, IntKind.wrap IntKind.i64 (s.fst.snd.snd.snd.fst + (1 : Int)),
                      ()),
                    s.snd)
            else some (Sum.inl (((), ()), s.snd)))
          (((), r.fst.fst, (↑(List.length r.fst.fst) : Int), (0 : Int), ()), nilOf (Int × Bool × Bool × List UInt8),
            ()))
        fun (s : (Unit × Unit) × List (Int × Bool × Bool × List UInt8) × Unit) =>
        some ((s.snd.fst, (0 : Int), true, ()), ())
-- impl.areRules$1
def m_impl_areRules_1 (a0 : (Int × (Bool × (Bool × List UInt8)))) : Option (Bool × Unit) :=
  Option.bind (m_impl_RuleOk a0) fun (r : Bool × Unit) => some (!r.fst, ())
-- slices.IndexFunc[[]impl.Rule,impl.Rule]
def m_slices_IndexFunc_impl_Rule_impl_Rule (a0 : List (Int × (Bool × (Bool × List UInt8)))) : Option (Int × Unit) :=
  joinC
    (loopC (List.length a0 + Int.toNat (↑(List.length a0) : Int) + Int.toNat (0 : Int) + (300 : Nat))
      (fun (s : (List (Int × Bool × Bool × List UInt8) × Unit × Int × Int × Unit) × Unit)
          (k :
            (List (Int × Bool × Bool × List UInt8) × Unit × Int × Int × Unit) × Unit →
              Option (Unit × Unit ⊕ Int × Unit)) =>
        bif decide (s.fst.snd.snd.snd.fst < s.fst.snd.snd.fst) then
          if (0 : Int) ≤ s.fst.snd.snd.snd.fst ∧ s.fst.snd.snd.snd.fst < (↑(List.length s.fst.fst) : Int) then
            Option.bind
              (m_impl_areRules_1
                (List.getD s.fst.fst (Int.toNat s.fst.snd.snd.snd.fst)
                  (Int.ofNat (nat_lit 0), false, false, nilOf UInt8)))
              fun (r : Bool × Unit) =>
              bif r.fst then some (Sum.inr s.fst.snd.snd.snd)
              else
                k
                  ((s.fst.fst, (), s.fst.snd.snd.fst, IntKind.wrap IntKind.i64 (s.fst.snd.snd.snd.fst + (1 : Int)), ()),
                    ())
          else none
        else some (Sum.inl ((), ())))
      ((a0, (), (↑(List.length a0) : Int), (0 : Int), ()), ()))
    fun (s : Unit × Unit) => some ((-1 : Int), ())
-- slices.ContainsFunc[[]impl.Rule,impl.Rule]
def m_slices_ContainsFunc_impl_Rule_impl_Rule (a0 : List (Int × (Bool × (Bool × List UInt8)))) : Option (Bool × Unit) :=
  Option.bind (m_slices_IndexFunc_impl_Rule_impl_Rule a0) fun (r : Int × Unit) => some (decide (r.fst ≥ (0 : Int)), ())
-- impl.areRules
def m_impl_areRules (a0 : List (Int × (Bool × (Bool × List UInt8)))) : Option (Bool × Unit) :=
  Option.bind
    (bif decide ((↑(List.length a0) : Int) ≤ (100 : Int)) then
      Option.bind (m_slices_ContainsFunc_impl_Rule_impl_Rule a0) fun (r : Bool × Unit) => some ((!r.fst, ()), ())
    else some ((false, ()), ()))
    fun (s : (Bool × Unit) × Unit) => some s.fst
-- strings.Count
def m_strings_Count_2 (a0 : List UInt8) : Option (Int × Unit) :=
  if (0 : Int) ≤ (0 : Int) ∧ (0 : Int) < (↑(List.length [(47 : UInt8)]) : Int) then
    Option.bind
      (m_bytealg_CountString a0 (↑(UInt8.toNat (List.getD [(47 : UInt8)] (Int.toNat (0 : Int)) (0 : UInt8))) : Int))
      fun (r : Int × Unit) => some r
  else none
-- internal/stringslite.Index
def m_stringslite_Index_3 (a0 : List UInt8) : Option (Int × Unit) :=
  bif [(47 : UInt8)] == a0 then some ((0 : Int), ())
  else
    if (0 : Int) ≤ (0 : Int) ∧ (0 : Int) < (↑(List.length [(47 : UInt8)]) : Int) then
      Option.bind
        (m_stringslite_IndexByte a0 (↑(UInt8.toNat (List.getD [(47 : UInt8)] (Int.toNat (0 : Int)) (0 : UInt8))) : Int))
        fun (r : Int × Unit) => some r
    else none
-- strings.Index
def m_strings_Index_4 (a0 : List UInt8) : Option (Int × Unit) := Option.bind (m_stringslite_Index_3 a0) fun (r : Int × Unit) => some r
-- strings.genSplit
def m_strings_genSplit_2 (a0 : List UInt8) : Option (List (List UInt8) × Unit) :=
  Option.bind (m_strings_Count_2 a0) fun (r : Int × Unit) =>
    if
        ((0 : Int) ≤
            if
                IntKind.wrap IntKind.i64 ((↑(List.length a0) : Int) + (1 : Int)) <
                  IntKind.wrap IntKind.i64 (r.fst + (1 : Int)) then
              IntKind.wrap IntKind.i64 ((↑(List.length a0) : Int) + (1 : Int))
            else IntKind.wrap IntKind.i64 (r.fst + (1 : Int))) ∧
          ((if
                  IntKind.wrap IntKind.i64 ((↑(List.length a0) : Int) + (1 : Int)) <
                    IntKind.wrap IntKind.i64 (r.fst + (1 : Int)) then
                IntKind.wrap IntKind.i64 ((↑(List.length a0) : Int) + (1 : Int))
              else IntKind.wrap IntKind.i64 (r.fst + (1 : Int))) ≤
              if
                  IntKind.wrap IntKind.i64 ((↑(List.length a0) : Int) + (1 : Int)) <
                    IntKind.wrap IntKind.i64 (r.fst + (1 : Int)) then
                IntKind.wrap IntKind.i64 ((↑(List.length a0) : Int) + (1 : Int))
              else IntKind.wrap IntKind.i64 (r.fst + (1 : Int))) ∧
            ((↑(16 : Nat) : Int) *
                  if
                      IntKind.wrap IntKind.i64 ((↑(List.length a0) : Int) + (1 : Int)) <
                        IntKind.wrap IntKind.i64 (r.fst + (1 : Int)) then
                    IntKind.wrap IntKind.i64 ((↑(List.length a0) : Int) + (1 : Int))
                  else IntKind.wrap IntKind.i64 (r.fst + (1 : Int))) ≤
                (140737488355328 : Int) ∧
              (if
                    IntKind.wrap IntKind.i64 ((↑(List.length a0) : Int) + (1 : Int)) <
                      IntKind.wrap IntKind.i64 (r.fst + (1 : Int)) then
                  IntKind.wrap IntKind.i64 ((↑(List.length a0) : Int) + (1 : Int))
                else IntKind.wrap IntKind.i64 (r.fst + (1 : Int))) <
                (2 : Int) ^ (62 : Nat) then
      Option.bind
        (loopC
          (List.length a0 +
                  Int.toNat
                    (IntKind.wrap IntKind.i64
                      ((if
                            IntKind.wrap IntKind.i64 ((↑(List.length a0) : Int) + (1 : Int)) <
                              IntKind.wrap IntKind.i64 (r.fst + (1 : Int)) then
                          IntKind.wrap IntKind.i64 ((↑(List.length a0) : Int) + (1 : Int))
                        else IntKind.wrap IntKind.i64 (r.fst + (1 : Int))) -
                        (1 : Int))) +
                Int.toNat (0 : Int) +
              List.length
                (List.replicate
                  (Int.toNat
                    (if
                        IntKind.wrap IntKind.i64 ((↑(List.length a0) : Int) + (1 : Int)) <
                          IntKind.wrap IntKind.i64 (r.fst + (1 : Int)) then
                      IntKind.wrap IntKind.i64 ((↑(List.length a0) : Int) + (1 : Int))
                    else IntKind.wrap IntKind.i64 (r.fst + (1 : Int))))
                  (nilOf UInt8)) +
            (300 : Nat))
          (fun (s : (List UInt8 × Unit × Unit × Int × Unit × Int × Unit) × List (List UInt8) × Unit)
              (k :
                (List UInt8 × Unit × Unit × Int × Unit × Int × Unit) × List (List UInt8) × Unit →
                  Option ((List UInt8 × Unit × Int × Unit) × List (List UInt8) × Unit)) =>
            bif decide (s.fst.snd.snd.snd.snd.snd.fst < s.fst.snd.snd.snd.fst) then
              Option.bind (m_strings_Index_4 s.fst.fst) fun (r : Int × Unit) =>
                bif decide (r.fst < (0 : Int)) then some ((s.fst.fst, (), s.fst.snd.snd.snd.snd.snd), s.snd)
                else
                  if
                      (0 : Int) ≤ (0 : Int) ∧
                        (0 : Int) ≤ IntKind.wrap IntKind.i64 (r.fst + (0 : Int)) ∧
                          IntKind.wrap IntKind.i64 (r.fst + (0 : Int)) ≤ (↑(List.length s.fst.fst) : Int) then
                    if
                        (0 : Int) ≤ s.fst.snd.snd.snd.snd.snd.fst ∧
                          s.fst.snd.snd.snd.snd.snd.fst < (↑(List.length s.snd.fst) : Int) then
                      if Int.toNat s.fst.snd.snd.snd.snd.snd.fst < List.length s.snd.fst then
                        if
                            (0 : Int) ≤ IntKind.wrap IntKind.i64 (r.fst + (↑(List.length [(47 : UInt8)]) : Int)) ∧
                              IntKind.wrap IntKind.i64 (r.fst + (↑(List.length [(47 : UInt8)]) : Int)) ≤
                                  (↑(List.length s.fst.fst) : Int) ∧
                                (↑(List.length s.fst.fst) : Int) ≤ (↑(List.length s.fst.fst) : Int) then
                          k
                            ((List.drop
                                  (Int.toNat (IntKind.wrap IntKind.i64 (r.fst + (↑(List.length [(47 : UInt8)]) : Int))))
                                  (List.take (Int.toNat (↑(List.length s.fst.fst) : Int)) s.fst.fst),
                                (), (), s.fst.snd.snd.snd.fst, (),
                                IntKind.wrap IntKind.i64 (s.fst.snd.snd.snd.snd.snd.fst + (1 : Int)), ()),
                              List.set s.snd.fst (Int.toNat s.fst.snd.snd.snd.snd.snd.fst)
                                (List.drop (Int.toNat (0 : Int))
                                  (List.take (Int.toNat (IntKind.wrap IntKind.i64 (r.fst + (0 : Int)))) s.fst.fst)),
                              ())
                        else none
                      else none
                    else none
                  else none
            else some ((s.fst.fst, (), s.fst.snd.snd.snd.snd.snd), s.snd))
          ((a0, (), (),
              IntKind.wrap IntKind.i64
                ((if
                      IntKind.wrap IntKind.i64 ((↑(List.length a0) : Int) + (1 : Int)) <
                        IntKind.wrap IntKind.i64 (r.fst + (1 : Int)) then
                    IntKind.wrap IntKind.i64 ((↑(List.length a0) : Int) + (1 : Int))
                  else IntKind.wrap IntKind.i64 (r.fst + (1 : Int))) -
                  (1 : Int)),
              (), (0 : Int), ()),
            List.replicate
              (Int.toNat
                (if
                    IntKind.wrap IntKind.i64 ((↑(List.length a0) : Int) + (1 : Int)) <
                      IntKind.wrap IntKind.i64 (r.fst + (1 : Int)) then
                  IntKind.wrap IntKind.i64 ((↑(List.length a0) : Int) + (1 : Int))
                else IntKind.wrap IntKind.i64 (r.fst + (1 : Int))))
              (nilOf UInt8),
            ()))
        fun (s : (List UInt8 × Unit × Int × Unit) × List (List UInt8) × Unit) =>
        if (0 : Int) ≤ s.fst.snd.snd.fst ∧ s.fst.snd.snd.fst < (↑(List.length s.snd.fst) : Int) then
          if Int.toNat s.fst.snd.snd.fst < List.length s.snd.fst then
            if
                (0 : Int) ≤ (0 : Int) ∧
                  (0 : Int) ≤ IntKind.wrap IntKind.i64 (s.fst.snd.snd.fst + (1 : Int)) ∧
                    IntKind.wrap IntKind.i64 (s.fst.snd.snd.fst + (1 : Int)) ≤
                      (↑(List.length (List.set s.snd.fst (Int.toNat s.fst.snd.snd.fst) s.fst.fst)) : Int) then
              some
                (List.drop (Int.toNat (0 : Int))
                    (List.take (Int.toNat (IntKind.wrap IntKind.i64 (s.fst.snd.snd.fst + (1 : Int))))
                      (List.set s.snd.fst (Int.toNat s.fst.snd.snd.fst) s.fst.fst)),
                  ())
            else none
          else none
        else none
    else none
-- strings.Split
def m_strings_Split_2 (a0 : List UInt8) : Option (List (List UInt8) × Unit) :=
  Option.bind (m_strings_genSplit_2 a0) fun (r : List (List UInt8) × Unit) => some r
-- impl.NameOk
def m_impl_NameOk (a0 : List UInt8) : Option (Bool × Unit) :=
  joinC
    (loopC (List.length a0 + Int.toNat (↑(List.length a0) : Int) + Int.toNat (0 : Int) + (300 : Nat))
      (fun (s : (List UInt8 × Int × Int × Unit) × Unit)
          (k : (List UInt8 × Int × Int × Unit) × Unit → Option ((List UInt8 × Unit) × Unit ⊕ Bool × Unit)) =>
        bif decide (s.fst.snd.snd.fst < s.fst.snd.fst) then
          if (0 : Int) ≤ s.fst.snd.snd.fst ∧ s.fst.snd.snd.fst < (↑(List.length s.fst.fst) : Int) then
            Option.bind
              (bif
                  decide
                    ((↑(UInt8.toNat (List.getD s.fst.fst (Int.toNat s.fst.snd.snd.fst) (0 : UInt8))) : Int) ≥
                      (97 : Int)) then
                bif
                    decide
                      ((↑(UInt8.toNat (List.getD s.fst.fst (Int.toNat s.fst.snd.snd.fst) (0 : UInt8))) : Int) ≤
                        (122 : Int)) then
                  some ((s.fst.fst, s.fst.snd.fst, s.fst.snd.snd.fst, !true, ()), ())
                else
                  bif
                      decide
                        ((↑(UInt8.toNat (List.getD s.fst.fst (Int.toNat s.fst.snd.snd.fst) (0 : UInt8))) : Int) ≥
                          (65 : Int)) then
                    bif
                        decide
                          ((↑(UInt8.toNat (List.getD s.fst.fst (Int.toNat s.fst.snd.snd.fst) (0 : UInt8))) : Int) ≤
                            (90 : Int)) then
                      some ((s.fst.fst, s.fst.snd.fst, s.fst.snd.snd.fst, !true, ()), ())
                    else
                      bif
                          decide
                            ((↑(UInt8.toNat (List.getD s.fst.fst (Int.toNat s.fst.snd.snd.fst) (0 : UInt8))) : Int) ≥
                              (48 : Int)) then
                        bif
                            decide
                              ((↑(UInt8.toNat (List.getD s.fst.fst (Int.toNat s.fst.snd.snd.fst) (0 : UInt8))) : Int) ≤
                                (57 : Int)) then
                          some ((s.fst.fst, s.fst.snd.fst, s.fst.snd.snd.fst, !true, ()), ())
                        else
                          bif
                              (↑(UInt8.toNat (List.getD s.fst.fst (Int.toNat s.fst.snd.snd.fst) (0 : UInt8))) : Int) ==
                                (46 : Int) then
                            some ((s.fst.fst, s.fst.snd.fst, s.fst.snd.snd.fst, !true, ()), ())
                          else
                            bif
                                (↑(UInt8.toNat (List.getD s.fst.fst (Int.toNat s.fst.snd.snd.fst) (0 : UInt8))) :
                                    Int) ==
                                  (95 : Int) then
                              some ((s.fst.fst, s.fst.snd.fst, s.fst.snd.snd.fst, !true, ()), ())
                            else
                              some
                                ((s.fst.fst, s.fst.snd.fst, s.fst.snd.snd.fst,
                                    !(↑(UInt8.toNat (List.getD s.fst.fst (Int.toNat s.fst.snd.snd.fst) (0 : UInt8))) :
                                          Int) ==
                                        (45 : Int),
                                    ()),
                                  ())
                      else
                        bif
                            (↑(UInt8.toNat (List.getD s.fst.fst (Int.toNat s.fst.snd.snd.fst) (0 : UInt8))) : Int) ==
                              (46 : Int) then
                          some ((s.fst.fst, s.fst.snd.fst, s.fst.snd.snd.fst, !true, ()), ())
                        else
                          bif
                              (↑(UInt8.toNat (List.getD s.fst.fst (Int.toNat s.fst.snd.snd.fst) (0 : UInt8))) : Int) ==
                                (95 : Int) then
                            some ((s.fst.fst, s.fst.snd.fst, s.fst.snd.snd.fst, !true, ()), ())
                          else
                            some
                              ((s.fst.fst, s.fst.snd.fst, s.fst.snd.snd.fst,
                                  !(↑(UInt8.toNat (List.getD s.fst.fst (Int.toNat s.fst.snd.snd.fst) (0 : UInt8))) :
                                        Int) ==
                                      (45 : Int),
                                  ()),
                                ())
                  else
                    bif
                        decide
                          ((↑(UInt8.toNat (List.getD s.fst.fst (Int.toNat s.fst.snd.snd.fst) (0 : UInt8))) : Int) ≥
                            (48 : Int)) then
                      bif
                          decide
                            ((↑(UInt8.toNat (List.getD s.fst.fst (Int.toNat s.fst.snd.snd.fst) (0 : UInt8))) : Int) ≤
                              (57 : Int)) then
                        some ((s.fst.fst, s.fst.snd.fst, s.fst.snd.snd.fst, !true, ()), ())
                      else
                        bif
                            (↑(UInt8.toNat (List.getD s.fst.fst (Int.toNat s.fst.snd.snd.fst) (0 : UInt8))) : Int) ==
                              (46 : Int) then
                          some ((s.fst.fst, s.fst.snd.fst, s.fst.snd.snd.fst, !true, ()), ())
                        else
                          bif
                              (↑(UInt8.toNat (List.getD s.fst.fst (Int.toNat s.fst.snd.snd.fst) (0 : UInt8))) : Int) ==
                                (95 : Int) then
                            some ((s.fst.fst, s.fst.snd.fst, s.fst.snd.snd.fst, !true, ()), ())
                          else
                            some
                              ((s.fst.fst, s.fst.snd.fst, s.fst.snd.snd.fst,
                                  !(↑(UInt8.toNat (List.getD s.fst.fst (Int.toNat s.fst.snd.snd.fst) (0 : UInt8))) :
                                        Int) ==
                                      (45 : Int),
                                  ()),
                                ())
                    else
                      bif
                          (↑(UInt8.toNat (List.getD s.fst.fst (Int.toNat s.fst.snd.snd.fst) (0 : UInt8))) : Int) ==
                            (46 : Int) then
                        some ((s.fst.fst, s.fst.snd.fst, s.fst.snd.snd.fst, !true, ()), ())
                      else
                        bif
                            (↑(UInt8.toNat (List.getD s.fst.fst (Int.toNat s.fst.snd.snd.fst) (0 : UInt8))) : Int) ==
                              (95 : Int) then
                          some ((s.fst.fst, s.fst.snd.fst, s.fst.snd.snd.fst, !true, ()), ())
                        else
                          some
                            ((s.fst.fst, s.fst.snd.fst, s.fst.snd.snd.fst,
                                !(↑(UInt8.toNat (List.getD s.fst.fst (Int.toNat s.fst.snd.snd.fst) (0 : UInt8))) :
                                      Int) ==
                                    (45 : Int),
                                ()),
                              ())
              else
                bif
                    decide
                      ((↑(UInt8.toNat (List.getD s.fst.fst (Int.toNat s.fst.snd.snd.fst) (0 : UInt8))) : Int) ≥
                        (65 : Int)) then
                  bif
                      decide
                        ((↑(UInt8.toNat (List.getD s.fst.fst (Int.toNat s.fst.snd.snd.fst) (0 : UInt8))) : Int) ≤
                          (90 : Int)) then
                    some ((s.fst.fst, s.fst.snd.fst, s.fst.snd.snd.fst, !true, ()), ())
                  else
                    bif
                        decide
                          ((↑(UInt8.toNat (List.getD s.fst.fst (Int.toNat s.fst.snd.snd.fst) (0 : UInt8))) : Int) ≥
                            (48 : Int)) then
                      bif
                          decide
                            ((↑(UInt8.toNat (List.getD s.fst.fst (Int.toNat s.fst.snd.snd.fst) (0 : UInt8))) : Int) ≤
                              (57 : Int)) then
                        some ((s.fst.fst, s.fst.snd.fst, s.fst.snd.snd.fst, !true, ()), ())
                      else
                        bif
                            (↑(UInt8.toNat (List.getD s.fst.fst (Int.toNat s.fst.snd.snd.fst) (0 : UInt8))) : Int) ==
                              (46 : Int) then
                          some ((s.fst.fst, s.fst.snd.fst, s.fst.snd.snd.fst, !true, ()), ())
                        else
                          bif
                              (↑(UInt8.toNat (List.getD s.fst.fst (Int.toNat s.fst.snd.snd.fst) (0 : UInt8))) : Int) ==
                                (95 : Int) then
                            some ((s.fst.fst, s.fst.snd.fst, s.fst.snd.snd.fst, !true, ()), ())
                          else
                            some
                              ((s.fst.fst, s.fst.snd.fst, s.fst.snd.snd.fst,
                                  !(↑(UInt8.toNat (List.getD s.fst.fst (Int.toNat s.fst.snd.snd.fst) (0 : UInt8))) :
                                        Int) ==
                                      (45 : Int),
                                  ()),
                                ())
                    else
                      bif
                          (↑(UInt8.toNat (List.getD s.fst.fst (Int.toNat s.fst.snd.snd.fst) (0 : UInt8))) : Int) ==
                            (46 : Int) then
                        some ((s.fst.fst, s.fst.snd.fst, s.fst.snd.snd.fst, !true, ()), ())
                      else
                        bif
                            (↑(UInt8.toNat (List.getD s.fst.fst (Int.toNat s.fst.snd.snd.fst) (0 : UInt8))) : Int) ==
                              (95 : Int) then
                          some ((s.fst.fst, s.fst.snd.fst, s.fst.snd.snd.fst, !true, ()), ())
                        else
                          some
                            ((s.fst.fst, s.fst.snd.fst, s.fst.snd.snd.fst,
                                !(↑(UInt8.toNat (List.getD s.fst.fst (Int.toNat s.fst.snd.snd.fst) (0 : UInt8))) :
                                      Int) ==
                                    (45 : Int),
                                ()),
                              ())
                else
                  bif
                      decide
                        ((↑(UInt8.toNat (List.getD s.fst.fst (Int.toNat s.fst.snd.snd.fst) (0 : UInt8))) : Int) ≥
                          (48 : Int)) then
                    bif
                        decide
                          ((↑(UInt8.toNat (List.getD s.fst.fst (Int.toNat s.fst.snd.snd.fst) (0 : UInt8))) : Int) ≤
                            (57 : Int)) then
                      some ((s.fst.fst, s.fst.snd.fst, s.fst.snd.snd.fst, !true, ()), ())
                    else
                      bif
                          (↑(UInt8.toNat (List.getD s.fst.fst (Int.toNat s.fst.snd.snd.fst) (0 : UInt8))) : Int) ==
                            (46 : Int) then
                        some ((s.fst.fst, s.fst.snd.fst, s.fst.snd.snd.fst, !true, ()), ())
                      else
                        bif
                            (↑(UInt8.toNat (List.getD s.fst.fst (Int.toNat s.fst.snd.snd.fst) (0 : UInt8))) : Int) ==
                              (95 : Int) then
                          some ((s.fst.fst, s.fst.snd.fst, s.fst.snd.snd.fst, !true, ()), ())
                        else
                          some
                            ((s.fst.fst, s.fst.snd.fst, s.fst.snd.snd.fst,
                                !(↑(UInt8.toNat (List.getD s.fst.fst (Int.toNat s.fst.snd.snd.fst) (0 : UInt8))) :
                                      Int) ==
                                    (45 : Int),
                                ()),
                              ())
                  else
                    bif
                        (↑(UInt8.toNat (List.getD s.fst.fst (Int.toNat s.fst.snd.snd.fst) (0 : UInt8))) : Int) ==
                          (46 : Int) then
                      some ((s.fst.fst, s.fst.snd.fst, s.fst.snd.snd.fst, !true, ()), ())
                    else
                      bif
                          (↑(UInt8.toNat (List.getD s.fst.fst (Int.toNat s.fst.snd.snd.fst) (0 : UInt8))) : Int) ==
                            (95 : Int) then
                        some ((s.fst.fst, s.fst.snd.fst, s.fst.snd.snd.fst, !true, ()), ())
                      else
                        some
                          ((s.fst.fst, s.fst.snd.fst, s.fst.snd.snd.fst,
                              !(↑(UInt8.toNat (List.getD s.fst.fst (Int.toNat s.fst.snd.snd.fst) (0 : UInt8))) : Int) ==
                                  (45 : Int),
                              ()),
                            ()))
              fun (s : (List UInt8 × Int × Int × Bool × Unit) × Unit) =>
              bif s.fst.snd.snd.snd.fst then some (Sum.inr (false, ()))
              else k ((s.fst.fst, s.fst.snd.fst, IntKind.wrap IntKind.i64 (s.fst.snd.snd.fst + (1 : Int)), ()), ())
          else none
        else some (Sum.inl ((s.fst.fst, ()), ())))
      ((a0, (↑(List.length a0) : Int), (0 : Int), ()), ()))
    fun (s : (List UInt8 × Unit) × Unit) =>
    Option.bind
      (Option.bind (m_impl_within (↑(List.length s.fst.fst) : Int) (1 : Int) (20 : Int)) fun (r : Bool × Unit) =>
        bif r.fst then
          bif !s.fst.fst == [(46 : UInt8)] then some ((!s.fst.fst == [(46 : UInt8), (46 : UInt8)], ()), ())
          else some ((false, ()), ())
        else some ((false, ()), ()))
      fun (s : (Bool × Unit) × Unit) => some s.fst
-- impl.Names
def m_impl_Names (a0 : List UInt8) : Option (List (List UInt8) × Unit) :=
  bif decide ((↑(List.length a0) : Int) > (168 : Int)) then some (nilOf (List UInt8), ())
  else
    Option.bind (m_strings_Split_2 a0) fun (r : List (List UInt8) × Unit) =>
      bif decide ((↑(List.length r.fst) : Int) > (8 : Int)) then some (nilOf (List UInt8), ())
      else
        joinC
          (loopC
            (List.length r.fst + List.length r.fst + Int.toNat (↑(List.length r.fst) : Int) + Int.toNat (0 : Int) +
              (300 : Nat))
            (fun (s : (List (List UInt8) × List (List UInt8) × Int × Int × Unit) × Unit)
                (k :
                  (List (List UInt8) × List (List UInt8) × Int × Int × Unit) × Unit →
                    Option ((List (List UInt8) × Unit) × Unit ⊕ List (List UInt8) × Unit)) =>
              bif decide (s.fst.snd.snd.snd.fst < s.fst.snd.snd.fst) then
                if (0 : Int) ≤ s.fst.snd.snd.snd.fst ∧ s.fst.snd.snd.snd.fst < (↑(List.length s.fst.snd.fst) : Int) then
                  Option.bind (m_impl_NameOk (List.getD s.fst.snd.fst (Int.toNat s.fst.snd.snd.snd.fst) (nilOf UInt8)))
                    fun (r : Bool × Unit) =>
                    bif !r.fst then some (Sum.inr (nilOf (List UInt8), ()))
                    else
                      k
                        ((s.fst.fst, s.fst.snd.fst, s.fst.snd.snd.fst,
                            IntKind.wrap IntKind.i64 (s.fst.snd.snd.snd.fst + (1 : Int)), ()),
                          ())
                else none
              else some (Sum.inl ((s.fst.fst, ()), ())))
            ((r.fst, r.fst, (↑(List.length r.fst) : Int), (0 : Int), ()), ()))
          fun (s : (List (List UInt8) × Unit) × Unit) => some s.fst
-- impl.PathOk
def m_impl_PathOk (a0 : List UInt8) : Option (Bool × Unit) :=
  Option.bind (m_impl_Names a0) fun (r : List (List UInt8) × Unit) =>
    some (decide ((↑(List.length r.fst) : Int) > (0 : Int)), ())
-- (*impl.piece).isMany
def m_impl_piece_isMany (a0 : (Int × (Bool × List Bool))) : Option (Bool × Unit) :=
  Option.bind (bif a0.fst == (2 : Int) then some ((true, ()), ()) else some ((a0.fst == (3 : Int), ()), ()))
    fun (s : (Bool × PUnit) × PUnit) => some (s.fst.fst, ())
-- (*impl.piece).takes
def m_impl_piece_takes (a0 : (Int × (Bool × List Bool))) (a1 : Int) : Option (Bool × Unit) :=
  bif a0.fst == (0 : Int) then
    if (0 : Int) ≤ a1 ∧ a1 < (↑(256 : Nat) : Int) ∧ a1 < (↑(List.length a0.snd.snd) : Int) then
      some (List.getD a0.snd.snd (Int.toNat a1) false, ())
    else none
  else
    bif a0.fst == (3 : Int) then some (true, ())
    else
      bif a0.fst == (4 : Int) then
        Option.bind
          (bif a1 != (47 : Int) then
            if (0 : Int) ≤ a1 ∧ a1 < (↑(256 : Nat) : Int) ∧ a1 < (↑(List.length a0.snd.snd) : Int) then
              some ((!List.getD a0.snd.snd (Int.toNat a1) false == a0.snd.fst, ()), ())
            else none
          else some ((false, ()), ()))
          fun (s : (Bool × PUnit) × PUnit) => some (s.fst.fst, ())
      else some (a1 != (47 : Int), ())
-- impl.match
def m_impl_match (a0 : List (Int × (Bool × List Bool))) (a1 : List UInt8) : Option (Bool × Unit) :=
  if
      (0 : Int) ≤ IntKind.wrap IntKind.i64 ((↑(List.length a1) : Int) + (1 : Int)) ∧
        IntKind.wrap IntKind.i64 ((↑(List.length a1) : Int) + (1 : Int)) ≤
            IntKind.wrap IntKind.i64 ((↑(List.length a1) : Int) + (1 : Int)) ∧
          (↑(1 : Nat) : Int) * IntKind.wrap IntKind.i64 ((↑(List.length a1) : Int) + (1 : Int)) ≤
              (140737488355328 : Int) ∧
            IntKind.wrap IntKind.i64 ((↑(List.length a1) : Int) + (1 : Int)) < (2 : Int) ^ (62 : Nat) then
    if
        (0 : Int) ≤ (0 : Int) ∧
          (0 : Int) <
            (↑(List.length
                  (List.replicate (Int.toNat (IntKind.wrap IntKind.i64 ((↑(List.length a1) : Int) + (1 : Int))))
                    false)) :
              Int) then
      if
          Int.toNat (0 : Int) <
            List.length
              (List.replicate (Int.toNat (IntKind.wrap IntKind.i64 ((↑(List.length a1) : Int) + (1 : Int)))) false) then
        Option.bind
          (loopC
            (List.length a1 + List.length a0 + Int.toNat (↑(List.length a0) : Int) + Int.toNat (0 : Int) +
                List.length
                  (List.set
                    (List.replicate (Int.toNat (IntKind.wrap IntKind.i64 ((↑(List.length a1) : Int) + (1 : Int))))
                      false)
                    (Int.toNat (0 : Int)) true) +
              (300 : Nat))
            (fun (s : (List UInt8 × PUnit × List (Int × Bool × List Bool) × Int × Int × PUnit) × List Bool × PUnit)
                (k :
                  (List UInt8 × PUnit × List (Int × Bool × List Bool) × Int × Int × PUnit) × List Bool × PUnit →
                    Option ((List UInt8 × PUnit × PUnit) × List Bool × PUnit)) =>
              bif decide (s.fst.snd.snd.snd.snd.fst < s.fst.snd.snd.snd.fst) then
                if
                    (0 : Int) ≤ s.fst.snd.snd.snd.snd.fst ∧
                      s.fst.snd.snd.snd.snd.fst < (↑(List.length s.fst.snd.snd.fst) : Int) then
                  if
                      (0 : Int) ≤ IntKind.wrap IntKind.i64 ((↑(List.length s.fst.fst) : Int) + (1 : Int)) ∧
                        IntKind.wrap IntKind.i64 ((↑(List.length s.fst.fst) : Int) + (1 : Int)) ≤
                            IntKind.wrap IntKind.i64 ((↑(List.length s.fst.fst) : Int) + (1 : Int)) ∧
                          (↑(1 : Nat) : Int) * IntKind.wrap IntKind.i64 ((↑(List.length s.fst.fst) : Int) + (1 : Int)) ≤
                              (140737488355328 : Int) ∧
                            IntKind.wrap IntKind.i64 ((↑(List.length s.fst.fst) : Int) + (1 : Int)) <
                              (2 : Int) ^ (62 : Nat) then
                    Option.bind
                      (loopC
                        (List.length s.fst.fst + List.length s.fst.snd.snd.fst + Int.toNat s.fst.snd.snd.snd.fst +
                                    Int.toNat s.fst.snd.snd.snd.snd.fst +
                                  Int.toNat
                                    (↑(List.length
                                          (List.replicate
                                            (Int.toNat
                                              (IntKind.wrap IntKind.i64 ((↑(List.length s.fst.fst) : Int) + (1 : Int))))
                                            false)) :
                                      Int) +
                                Int.toNat (0 : Int) +
                              List.length s.snd.fst +
                            List.length
                              (List.replicate
                                (Int.toNat (IntKind.wrap IntKind.i64 ((↑(List.length s.fst.fst) : Int) + (1 : Int))))
                                false) +
                          (300 : Nat))
                        (fun
                            (s :
                              (List UInt8 ×
                                  PUnit ×
                                    (Int × Bool × List Bool) ×
                                      PUnit × List (Int × Bool × List Bool) × Int × Int × Int × Int × PUnit) ×
                                List Bool × List Bool × PUnit)
                            (k :
                              (List UInt8 ×
                                    PUnit ×
                                      (Int × Bool × List Bool) ×
                                        PUnit × List (Int × Bool × List Bool) × Int × Int × Int × Int × PUnit) ×
                                  List Bool × List Bool × PUnit →
                                Option
                                  ((List UInt8 × PUnit × List (Int × Bool × List Bool) × Int × Int × PUnit) ×
                                    List Bool × PUnit)) =>
                          bif
                              decide
                                (s.fst.snd.snd.snd.snd.snd.snd.snd.snd.fst < s.fst.snd.snd.snd.snd.snd.snd.snd.fst) then
                            Option.bind (m_impl_piece_isMany s.fst.snd.snd.fst) fun (r : Bool × PUnit) =>
                              Option.bind
                                (bif r.fst then
                                  Option.bind
                                    (if
                                        (0 : Int) ≤ s.fst.snd.snd.snd.snd.snd.snd.snd.snd.fst ∧
                                          s.fst.snd.snd.snd.snd.snd.snd.snd.snd.fst <
                                            (↑(List.length s.snd.fst) : Int) then
                                      if
                                          Int.toNat s.fst.snd.snd.snd.snd.snd.snd.snd.snd.fst <
                                            List.length s.snd.fst then
                                        bif
                                            List.getD s.snd.fst (Int.toNat s.fst.snd.snd.snd.snd.snd.snd.snd.snd.fst)
                                              false then
                                          if
                                              (0 : Int) ≤ s.fst.snd.snd.snd.snd.snd.snd.snd.snd.fst ∧
                                                s.fst.snd.snd.snd.snd.snd.snd.snd.snd.fst <
                                                  (↑(List.length s.snd.snd.fst) : Int) then
                                            if
                                                Int.toNat s.fst.snd.snd.snd.snd.snd.snd.snd.snd.fst <
                                                  List.length s.snd.snd.fst then
                                              some
                                                ((s.fst.fst, (), s.fst.snd.snd.fst, (), s.fst.snd.snd.snd.snd.fst,
                                                    s.fst.snd.snd.snd.snd.snd.fst, s.fst.snd.snd.snd.snd.snd.snd.fst,
                                                    s.fst.snd.snd.snd.snd.snd.snd.snd.fst,
                                                    s.fst.snd.snd.snd.snd.snd.snd.snd.snd.fst, ()),
                                                  s.snd.fst,
                                                  List.set s.snd.snd.fst
                                                    (Int.toNat s.fst.snd.snd.snd.snd.snd.snd.snd.snd.fst) true,
                                                  ())
                                            else none
                                          else none
                                        else
                                          bif decide (s.fst.snd.snd.snd.snd.snd.snd.snd.snd.fst > (0 : Int)) then
                                            if
                                                (0 : Int) ≤
                                                    IntKind.wrap IntKind.i64
                                                      (s.fst.snd.snd.snd.snd.snd.snd.snd.snd.fst - (1 : Int)) ∧
                                                  IntKind.wrap IntKind.i64
                                                      (s.fst.snd.snd.snd.snd.snd.snd.snd.snd.fst - (1 : Int)) <
                                                    (↑(List.length s.snd.snd.fst) : Int) then
                                              if
                                                  Int.toNat
                                                      (IntKind.wrap IntKind.i64
                                                        (s.fst.snd.snd.snd.snd.snd.snd.snd.snd.fst - (1 : Int))) <
                                                    List.length s.snd.snd.fst then
                                                bif
                                                    List.getD s.snd.snd.fst
                                                      (Int.toNat
                                                        (IntKind.wrap IntKind.i64
                                                          (s.fst.snd.snd.snd.snd.snd.snd.snd.snd.fst - (1 : Int))))
                                                      false then
                                                  if
                                                      (0 : Int) ≤
                                                          IntKind.wrap IntKind.i64
                                                            (s.fst.snd.snd.snd.snd.snd.snd.snd.snd.fst - (1 : Int)) ∧
                                                        IntKind.wrap IntKind.i64
                                                            (s.fst.snd.snd.snd.snd.snd.snd.snd.snd.fst - (1 : Int)) <
                                                          (↑(List.length s.fst.fst) : Int) then
                                                    Option.bind
                                                      (m_impl_piece_takes s.fst.snd.snd.fst
                                                        (↑(UInt8.toNat
                                                              (List.getD s.fst.fst
                                                                (Int.toNat
                                                                  (IntKind.wrap IntKind.i64
                                                                    (s.fst.snd.snd.snd.snd.snd.snd.snd.snd.fst -
                                                                      (1 : Int))))
                                                                (0 : UInt8))) :
                                                          Int))
                                                      fun (r : Bool × PUnit) =>
                                                      if
                                                          (0 : Int) ≤ s.fst.snd.snd.snd.snd.snd.snd.snd.snd.fst ∧
                                                            s.fst.snd.snd.snd.snd.snd.snd.snd.snd.fst <
                                                              (↑(List.length s.snd.snd.fst) : Int) then
                                                        if
                                                            Int.toNat s.fst.snd.snd.snd.snd.snd.snd.snd.snd.fst <
                                                              List.length s.snd.snd.fst then
                                                          some
                                                            ((s.fst.fst, (), s.fst.snd.snd.fst, (),
                                                                s.fst.snd.snd.snd.snd.fst,
                                                                s.fst.snd.snd.snd.snd.snd.fst,
                                                                s.fst.snd.snd.snd.snd.snd.snd.fst,
                                                                s.fst.snd.snd.snd.snd.snd.snd.snd.fst,
                                                                s.fst.snd.snd.snd.snd.snd.snd.snd.snd.fst, ()),
                                                              s.snd.fst,
                                                              List.set s.snd.snd.fst
                                                                (Int.toNat s.fst.snd.snd.snd.snd.snd.snd.snd.snd.fst)
                                                                r.fst,
                                                              ())
                                                        else none
                                                      else none
                                                  else none
                                                else
                                                  if
                                                      (0 : Int) ≤ s.fst.snd.snd.snd.snd.snd.snd.snd.snd.fst ∧
                                                        s.fst.snd.snd.snd.snd.snd.snd.snd.snd.fst <
                                                          (↑(List.length s.snd.snd.fst) : Int) then
                                                    if
                                                        Int.toNat s.fst.snd.snd.snd.snd.snd.snd.snd.snd.fst <
                                                          List.length s.snd.snd.fst then
                                                      some
                                                        ((s.fst.fst, (), s.fst.snd.snd.fst, (),
                                                            s.fst.snd.snd.snd.snd.fst, s.fst.snd.snd.snd.snd.snd.fst,
                                                            s.fst.snd.snd.snd.snd.snd.snd.fst,
                                                            s.fst.snd.snd.snd.snd.snd.snd.snd.fst,
                                                            s.fst.snd.snd.snd.snd.snd.snd.snd.snd.fst, ()),
                                                          s.snd.fst,
                                                          List.set s.snd.snd.fst
                                                            (Int.toNat s.fst.snd.snd.snd.snd.snd.snd.snd.snd.fst) false,
                                                          ())
                                                    else none
                                                  else none
                                              else none
                                            else none
                                          else
                                            if
                                                (0 : Int) ≤ s.fst.snd.snd.snd.snd.snd.snd.snd.snd.fst ∧
                                                  s.fst.snd.snd.snd.snd.snd.snd.snd.snd.fst <
                                                    (↑(List.length s.snd.snd.fst) : Int) then
                                              if
                                                  Int.toNat s.fst.snd.snd.snd.snd.snd.snd.snd.snd.fst <
                                                    List.length s.snd.snd.fst then
                                                some
                                                  ((s.fst.fst, (), s.fst.snd.snd.fst, (), s.fst.snd.snd.snd.snd.fst,
                                                      s.fst.snd.snd.snd.snd.snd.fst, s.fst.snd.snd.snd.snd.snd.snd.fst,
                                                      s.fst.snd.snd.snd.snd.snd.snd.snd.fst,
                                                      s.fst.snd.snd.snd.snd.snd.snd.snd.snd.fst, ()),
                                                    s.snd.fst,
                                                    List.set s.snd.snd.fst
                                                      (Int.toNat s.fst.snd.snd.snd.snd.snd.snd.snd.snd.fst) false,
                                                    ())
                                              else none
                                            else none
                                      else none
                                    else none)
                                    fun
                                      (s :
                                        (List UInt8 ×
                                            PUnit ×
                                              (Int × Bool × List Bool) ×
                                                PUnit × List (Int × Bool × List Bool) × Int × Int × Int × Int × PUnit) ×
                                          List Bool × List Bool × PUnit) =>
                                    some
                                      ((s.fst.fst, (), s.fst.snd.snd.fst, (), s.fst.snd.snd.snd.snd.fst,
                                          s.fst.snd.snd.snd.snd.snd.fst, s.fst.snd.snd.snd.snd.snd.snd.fst,
                                          s.fst.snd.snd.snd.snd.snd.snd.snd.fst,
                                          s.fst.snd.snd.snd.snd.snd.snd.snd.snd.fst, ()),
                                        s.snd.fst, s.snd.snd.fst, ())
                                else
                                  Option.bind
                                    (bif decide (s.fst.snd.snd.snd.snd.snd.snd.snd.snd.fst > (0 : Int)) then
                                      Option.bind
                                        (if
                                            (0 : Int) ≤
                                                IntKind.wrap IntKind.i64
                                                  (s.fst.snd.snd.snd.snd.snd.snd.snd.snd.fst - (1 : Int)) ∧
                                              IntKind.wrap IntKind.i64
                                                  (s.fst.snd.snd.snd.snd.snd.snd.snd.snd.fst - (1 : Int)) <
                                                (↑(List.length s.snd.fst) : Int) then
                                          if
                                              Int.toNat
                                                  (IntKind.wrap IntKind.i64
                                                    (s.fst.snd.snd.snd.snd.snd.snd.snd.snd.fst - (1 : Int))) <
                                                List.length s.snd.fst then
                                            bif
                                                List.getD s.snd.fst
                                                  (Int.toNat
                                                    (IntKind.wrap IntKind.i64
                                                      (s.fst.snd.snd.snd.snd.snd.snd.snd.snd.fst - (1 : Int))))
                                                  false then
                                              if
                                                  (0 : Int) ≤
                                                      IntKind.wrap IntKind.i64
                                                        (s.fst.snd.snd.snd.snd.snd.snd.snd.snd.fst - (1 : Int)) ∧
                                                    IntKind.wrap IntKind.i64
                                                        (s.fst.snd.snd.snd.snd.snd.snd.snd.snd.fst - (1 : Int)) <
                                                      (↑(List.length s.fst.fst) : Int) then
                                                Option.bind
                                                  (m_impl_piece_takes s.fst.snd.snd.fst
                                                    (↑(UInt8.toNat
                                                          (List.getD s.fst.fst
                                                            (Int.toNat
                                                              (IntKind.wrap IntKind.i64
                                                                (s.fst.snd.snd.snd.snd.snd.snd.snd.snd.fst -
                                                                  (1 : Int))))
                                                            (0 : UInt8))) :
                                                      Int))
                                                  fun (r : Bool × PUnit) =>
                                                  if
                                                      (0 : Int) ≤ s.fst.snd.snd.snd.snd.snd.snd.snd.snd.fst ∧
                                                        s.fst.snd.snd.snd.snd.snd.snd.snd.snd.fst <
                                                          (↑(List.length s.snd.snd.fst) : Int) then
                                                    if
                                                        Int.toNat s.fst.snd.snd.snd.snd.snd.snd.snd.snd.fst <
                                                          List.length s.snd.snd.fst then
                                                      some
                                                        ((s.fst.fst, (), s.fst.snd.snd.fst, (),
                                                            s.fst.snd.snd.snd.snd.fst, s.fst.snd.snd.snd.snd.snd.fst,
                                                            s.fst.snd.snd.snd.snd.snd.snd.fst,
                                                            s.fst.snd.snd.snd.snd.snd.snd.snd.fst,
                                                            s.fst.snd.snd.snd.snd.snd.snd.snd.snd.fst, ()),
                                                          s.snd.fst,
                                                          List.set s.snd.snd.fst
                                                            (Int.toNat s.fst.snd.snd.snd.snd.snd.snd.snd.snd.fst) r.fst,
                                                          ())
                                                    else none
                                                  else none
                                              else none
                                            else
                                              if
                                                  (0 : Int) ≤ s.fst.snd.snd.snd.snd.snd.snd.snd.snd.fst ∧
                                                    s.fst.snd.snd.snd.snd.snd.snd.snd.snd.fst <
                                                      (↑(List.length s.snd.snd.fst) : Int) then
                                                if
                                                    Int.toNat s.fst.snd.snd.snd.snd.snd.snd.snd.snd.fst <
                                                      List.length s.snd.snd.fst then
                                                  some
                                                    ((s.fst.fst, (), s.fst.snd.snd.fst, (), s.fst.snd.snd.snd.snd.fst,
                                                        s.fst.snd.snd.snd.snd.snd.fst,
                                                        s.fst.snd.snd.snd.snd.snd.snd.fst,
                                                        s.fst.snd.snd.snd.snd.snd.snd.snd.fst,
                                                        s.fst.snd.snd.snd.snd.snd.snd.snd.snd.fst, ()),
                                                      s.snd.fst,
                                                      List.set s.snd.snd.fst
                                                        (Int.toNat s.fst.snd.snd.snd.snd.snd.snd.snd.snd.fst) false,
                                                      ())
                                                else none
                                              else none
                                          else none
                                        else none)
                                        fun
                                          (s :
                                            (List UInt8 ×
                                                PUnit ×
                                                  (Int × Bool × List Bool) ×
                                                    PUnit ×
                                                      List (Int × Bool × List Bool) × Int × Int × Int × Int × PUnit) ×
                                              List Bool × List Bool × PUnit) =>
                                        some
                                          ((s.fst.fst, (), s.fst.snd.snd.fst, (), s.fst.snd.snd.snd.snd.fst,
                                              s.fst.snd.snd.snd.snd.snd.fst, s.fst.snd.snd.snd.snd.snd.snd.fst,
                                              s.fst.snd.snd.snd.snd.snd.snd.snd.fst,
                                              s.fst.snd.snd.snd.snd.snd.snd.snd.snd.fst, ()),
                                            s.snd.fst, s.snd.snd.fst, ())
                                    else
                                      some
                                        ((s.fst.fst, (), s.fst.snd.snd.fst, (), s.fst.snd.snd.snd.snd.fst,
                                            s.fst.snd.snd.snd.snd.snd.fst, s.fst.snd.snd.snd.snd.snd.snd.fst,
                                            s.fst.snd.snd.snd.snd.snd.snd.snd.fst,
                                            s.fst.snd.snd.snd.snd.snd.snd.snd.snd.fst, ()),
                                          s.snd.fst, s.snd.snd.fst, ()))
                                    fun
                                      (s :
                                        (List UInt8 ×
                                            PUnit ×
                                              (Int × Bool × List Bool) ×
                                                PUnit × List (Int × Bool × List Bool) × Int × Int × Int × Int × PUnit) ×
                                          List Bool × List Bool × PUnit) =>
                                    some
                                      ((s.fst.fst, (), s.fst.snd.snd.fst, (), s.fst.snd.snd.snd.snd.fst,
                                          s.fst.snd.snd.snd.snd.snd.fst, s.fst.snd.snd.snd.snd.snd.snd.fst,
                                          s.fst.snd.snd.snd.snd.snd.snd.snd.fst,
                                          s.fst.snd.snd.snd.snd.snd.snd.snd.snd.fst, ()),
                                        s.snd.fst, s.snd.snd.fst, ()))
                                fun
                                  (s :
                                    (List UInt8 ×
                                        PUnit ×
                                          (Int × Bool × List Bool) ×
                                            PUnit × List (Int × Bool × List Bool) × Int × Int × Int × Int × PUnit) ×
                                      List Bool × List Bool × PUnit) =>
                                k
                                  ((s.fst.fst, (), s.fst.snd.snd.fst, (), s.fst.snd.snd.snd.snd.fst,
                                      s.fst.snd.snd.snd.snd.snd.fst, s.fst.snd.snd.snd.snd.snd.snd.fst,
                                      s.fst.snd.snd.snd.snd.snd.snd.snd.fst,
                                      IntKind.wrap IntKind.i64 (s.fst.snd.snd.snd.snd.snd.snd.snd.snd.fst + (1 : Int)),
                                      ()),
                                    s.snd.fst, s.snd.snd.fst, ())
                          else
                            some
                              ((s.fst.fst, (), s.fst.snd.snd.snd.snd.fst, s.fst.snd.snd.snd.snd.snd.fst,
                                  s.fst.snd.snd.snd.snd.snd.snd.fst, ()),
                                s.snd.snd.fst, ()))
                        ((s.fst.fst, (),
                            List.getD s.fst.snd.snd.fst (Int.toNat s.fst.snd.snd.snd.snd.fst)
                              (Int.ofNat (nat_lit 0), false, false :: List.replicate (nat_lit 255) false),
                            (), s.fst.snd.snd.fst, s.fst.snd.snd.snd.fst, s.fst.snd.snd.snd.snd.fst,
                            (↑(List.length
                                  (List.replicate
                                    (Int.toNat
                                      (IntKind.wrap IntKind.i64 ((↑(List.length s.fst.fst) : Int) + (1 : Int))))
                                    false)) :
                              Int),
                            (0 : Int), ()),
                          s.snd.fst,
                          List.replicate
                            (Int.toNat (IntKind.wrap IntKind.i64 ((↑(List.length s.fst.fst) : Int) + (1 : Int)))) false,
                          ()))
                      fun
                        (s :
                          (List UInt8 × PUnit × List (Int × Bool × List Bool) × Int × Int × PUnit) ×
                            List Bool × PUnit) =>
                      k
                        ((s.fst.fst, (), s.fst.snd.snd.fst, s.fst.snd.snd.snd.fst,
                            IntKind.wrap IntKind.i64 (s.fst.snd.snd.snd.snd.fst + (1 : Int)), ()),
                          s.snd.fst, ())
                  else none
                else none
              else some ((s.fst.fst, (), ()), s.snd.fst, ()))
            ((a1, (), a0, (↑(List.length a0) : Int), (0 : Int), ()),
              List.set
                (List.replicate (Int.toNat (IntKind.wrap IntKind.i64 ((↑(List.length a1) : Int) + (1 : Int)))) false)
                (Int.toNat (0 : Int)) true,
              ()))
          fun (s : (List UInt8 × PUnit × PUnit) × List Bool × PUnit) =>
          if
              (0 : Int) ≤ (↑(List.length s.fst.fst) : Int) ∧
                (↑(List.length s.fst.fst) : Int) < (↑(List.length s.snd.fst) : Int) then
            if Int.toNat (↑(List.length s.fst.fst) : Int) < List.length s.snd.fst then
              some (List.getD s.snd.fst (Int.toNat (↑(List.length s.fst.fst) : Int)) false, ())
            else none
          else none
      else none
    else none
  else none
-- impl.Match
def m_impl_Match (a0 : List UInt8) (a1 : List UInt8) : Option (Bool × Unit) :=
  Option.bind (m_impl_pieces a0) fun (r : (List (Int × Bool × List Bool) × Bool × PUnit) × PUnit) =>
    Option.bind
      (bif r.fst.snd.fst then
        bif decide ((↑(List.length a1) : Int) ≤ (200 : Int)) then
          Option.bind (m_impl_match r.fst.fst a1) fun (r : Bool × PUnit) => some ((r.fst, ()), ())
        else some ((false, ()), ())
      else some ((false, ()), ()))
      fun (s : (Bool × PUnit) × PUnit) => some (s.fst.fst, ())
-- internal/stringslite.Cut
def m_stringslite_Cut_2 (a0 : List UInt8) : Option ((List UInt8 × List UInt8 × Bool × Unit) × Unit) :=
  Option.bind (m_stringslite_Index_3 a0) fun (r : Int × Unit) =>
    bif decide (r.fst ≥ (0 : Int)) then
      if (0 : Int) ≤ (0 : Int) ∧ (0 : Int) ≤ r.fst ∧ r.fst ≤ (↑(List.length a0) : Int) then
        if
            (0 : Int) ≤ IntKind.wrap IntKind.i64 (r.fst + (↑(List.length [(47 : UInt8)]) : Int)) ∧
              IntKind.wrap IntKind.i64 (r.fst + (↑(List.length [(47 : UInt8)]) : Int)) ≤ (↑(List.length a0) : Int) ∧
                (↑(List.length a0) : Int) ≤ (↑(List.length a0) : Int) then
          some
            ((List.drop (Int.toNat (0 : Int)) (List.take (Int.toNat r.fst) a0),
                List.drop (Int.toNat (IntKind.wrap IntKind.i64 (r.fst + (↑(List.length [(47 : UInt8)]) : Int))))
                  (List.take (Int.toNat (↑(List.length a0) : Int)) a0),
                true, ()),
              ())
        else none
      else none
    else some ((a0, nilOf UInt8, false, ()), ())
-- strings.Cut
def m_strings_Cut_2 (a0 : List UInt8) : Option ((List UInt8 × List UInt8 × Bool × Unit) × Unit) :=
  Option.bind (m_stringslite_Cut_2 a0) fun (r : (List UInt8 × List UInt8 × Bool × Unit) × Unit) => some r
-- (impl.Rule).means
def m_impl_Rule_means (a0 : (Int × (Bool × (Bool × List UInt8)))) (a1 : List UInt8) (a2 : Bool) : Option (Bool × Unit) :=
  Option.bind
    (bif a0.fst == (4 : Int) then
      some ((a1, (), true, ()), (a0.fst, a0.snd.fst, a0.snd.snd.fst, a0.snd.snd.snd, ()), ())
    else
      bif a0.snd.snd.fst then some ((a1, (), !a2, ()), (a0.fst, a0.snd.fst, a0.snd.snd.fst, a0.snd.snd.snd, ()), ())
      else some ((a1, (), false, ()), (a0.fst, a0.snd.fst, a0.snd.snd.fst, a0.snd.snd.snd, ()), ()))
    fun (s : (List UInt8 × Unit × Bool × Unit) × (Int × Bool × Bool × List UInt8 × Unit) × Unit) =>
    bif s.fst.snd.snd.fst then some (false, ())
    else
      loopC (List.length s.fst.fst + Int.toNat s.snd.fst.fst + List.length s.snd.fst.snd.snd.snd.fst + (300 : Nat))
        (fun (s : (List UInt8 × Unit × Unit) × (Int × Bool × Bool × List UInt8 × Unit) × Unit)
            (k :
              (List UInt8 × Unit × Unit) × (Int × Bool × Bool × List UInt8 × Unit) × Unit →
                Option (Bool × Unit)) =>
          Option.bind (m_impl_Match s.snd.fst.snd.snd.snd.fst s.fst.fst) fun (r : Bool × Unit) =>
            bif r.fst then some (true, ())
            else
              Option.bind (m_strings_Cut_2 s.fst.fst) fun (r : (List UInt8 × List UInt8 × Bool × Unit) × Unit) =>
                Option.bind
                  (bif s.snd.fst.snd.fst then some (((), r.fst.snd.fst, true, ()), s.snd)
                  else some (((), r.fst.snd.fst, !r.fst.snd.snd.fst, ()), s.snd))
                  fun (s : (Unit × List UInt8 × Bool × Unit) × (Int × Bool × Bool × List UInt8 × Unit) × Unit) =>
                  bif s.fst.snd.snd.fst then some (false, ()) else k ((s.fst.snd.fst, (), ()), s.snd))
        ((s.fst.fst, (), ()), s.snd)
-- impl.says
def m_impl_says (a0 : List (Int × (Bool × (Bool × List UInt8)))) (a1 : Int) (a2 : Int) (a3 : List UInt8) (a4 : Bool) : Option (Bool × Unit) :=
  joinC
    (loopC
      (Int.toNat a1 + Int.toNat a2 + List.length a3 + List.length a0 + Int.toNat (↑(List.length a0) : Int) +
          Int.toNat (0 : Int) +
        (300 : Nat))
      (fun (s : (Int × Int × List UInt8 × Bool × List (Int × Bool × Bool × List UInt8) × Int × Int × Unit) × Unit)
          (k :
            (Int × Int × List UInt8 × Bool × List (Int × Bool × Bool × List UInt8) × Int × Int × Unit) × Unit →
              Option (Unit × Unit ⊕ Bool × Unit)) =>
        bif decide (s.fst.snd.snd.snd.snd.snd.snd.fst < s.fst.snd.snd.snd.snd.snd.fst) then
          if
              (0 : Int) ≤ s.fst.snd.snd.snd.snd.snd.snd.fst ∧
                s.fst.snd.snd.snd.snd.snd.snd.fst < (↑(List.length s.fst.snd.snd.snd.snd.fst) : Int) then
            Option.bind
              (bif
                  (List.getD s.fst.snd.snd.snd.snd.fst (Int.toNat s.fst.snd.snd.snd.snd.snd.snd.fst)
                        (Int.ofNat (nat_lit 0), false, false, nilOf UInt8)).fst ==
                    s.fst.fst then
                Option.bind
                  (m_impl_Rule_means
                    (List.getD s.fst.snd.snd.snd.snd.fst (Int.toNat s.fst.snd.snd.snd.snd.snd.snd.fst)
                      (Int.ofNat (nat_lit 0), false, false, nilOf UInt8))
                    s.fst.snd.snd.fst s.fst.snd.snd.snd.fst)
                  fun (r : Bool × Unit) =>
                  some
                    ((s.fst.fst, s.fst.snd.fst, s.fst.snd.snd.fst, s.fst.snd.snd.snd.fst, (), s.fst.snd.snd.snd.snd.fst,
                        s.fst.snd.snd.snd.snd.snd.fst, s.fst.snd.snd.snd.snd.snd.snd.fst, r),
                      ((List.getD s.fst.snd.snd.snd.snd.fst (Int.toNat s.fst.snd.snd.snd.snd.snd.snd.fst)
                            (Int.ofNat (nat_lit 0), false, false, nilOf UInt8)).fst,
                        (List.getD s.fst.snd.snd.snd.snd.fst (Int.toNat s.fst.snd.snd.snd.snd.snd.snd.fst)
                              (Int.ofNat (nat_lit 0), false, false, nilOf UInt8)).snd.fst,
                        (List.getD s.fst.snd.snd.snd.snd.fst (Int.toNat s.fst.snd.snd.snd.snd.snd.snd.fst)
                                (Int.ofNat (nat_lit 0), false, false, nilOf UInt8)).snd.snd.fst,
                        (List.getD s.fst.snd.snd.snd.snd.fst (Int.toNat s.fst.snd.snd.snd.snd.snd.snd.fst)
                                (Int.ofNat (nat_lit 0), false, false, nilOf UInt8)).snd.snd.snd,
                        ()),
                      ())
              else
                bif
                    (List.getD s.fst.snd.snd.snd.snd.fst (Int.toNat s.fst.snd.snd.snd.snd.snd.snd.fst)
                          (Int.ofNat (nat_lit 0), false, false, nilOf UInt8)).fst ==
                      s.fst.snd.fst then
                  Option.bind
                    (m_impl_Rule_means
                      (List.getD s.fst.snd.snd.snd.snd.fst (Int.toNat s.fst.snd.snd.snd.snd.snd.snd.fst)
                        (Int.ofNat (nat_lit 0), false, false, nilOf UInt8))
                      s.fst.snd.snd.fst s.fst.snd.snd.snd.fst)
                    fun (r : Bool × Unit) =>
                    some
                      ((s.fst.fst, s.fst.snd.fst, s.fst.snd.snd.fst, s.fst.snd.snd.snd.fst, (),
                          s.fst.snd.snd.snd.snd.fst, s.fst.snd.snd.snd.snd.snd.fst, s.fst.snd.snd.snd.snd.snd.snd.fst,
                          r),
                        ((List.getD s.fst.snd.snd.snd.snd.fst (Int.toNat s.fst.snd.snd.snd.snd.snd.snd.fst)
                              (Int.ofNat (nat_lit 0), false, false, nilOf UInt8)).fst,
                          (List.getD s.fst.snd.snd.snd.snd.fst (Int.toNat s.fst.snd.snd.snd.snd.snd.snd.fst)
                                (Int.ofNat (nat_lit 0), false, false, nilOf UInt8)).snd.fst,
                          (List.getD s.fst.snd.snd.snd.snd.fst (Int.toNat s.fst.snd.snd.snd.snd.snd.snd.fst)
                                  (Int.ofNat (nat_lit 0), false, false, nilOf UInt8)).snd.snd.fst,
                          (List.getD s.fst.snd.snd.snd.snd.fst (Int.toNat s.fst.snd.snd.snd.snd.snd.snd.fst)
                                  (Int.ofNat (nat_lit 0), false, false, nilOf UInt8)).snd.snd.snd,
                          ()),
                        ())
                else
                  some
                    ((s.fst.fst, s.fst.snd.fst, s.fst.snd.snd.fst, s.fst.snd.snd.snd.fst, (), s.fst.snd.snd.snd.snd.fst,
                        s.fst.snd.snd.snd.snd.snd.fst, s.fst.snd.snd.snd.snd.snd.snd.fst, false, ()),
                      ((List.getD s.fst.snd.snd.snd.snd.fst (Int.toNat s.fst.snd.snd.snd.snd.snd.snd.fst)
                            (Int.ofNat (nat_lit 0), false, false, nilOf UInt8)).fst,
                        (List.getD s.fst.snd.snd.snd.snd.fst (Int.toNat s.fst.snd.snd.snd.snd.snd.snd.fst)
                              (Int.ofNat (nat_lit 0), false, false, nilOf UInt8)).snd.fst,
                        (List.getD s.fst.snd.snd.snd.snd.fst (Int.toNat s.fst.snd.snd.snd.snd.snd.snd.fst)
                                (Int.ofNat (nat_lit 0), false, false, nilOf UInt8)).snd.snd.fst,
                        (List.getD s.fst.snd.snd.snd.snd.fst (Int.toNat s.fst.snd.snd.snd.snd.snd.snd.fst)
                                (Int.ofNat (nat_lit 0), false, false, nilOf UInt8)).snd.snd.snd,
                        ()),
                      ()))
              fun
                (s :
                  (Int ×
                      Int ×
                        List UInt8 × Bool × Unit × List (Int × Bool × Bool × List UInt8) × Int × Int × Bool × Unit) ×
                    (Int × Bool × Bool × List UInt8 × Unit) × Unit) =>
              bif s.fst.snd.snd.snd.snd.snd.snd.snd.snd.fst then some (Sum.inr (s.snd.fst.fst == s.fst.fst, ()))
              else
                k
                  ((s.fst.fst, s.fst.snd.fst, s.fst.snd.snd.fst, s.fst.snd.snd.snd.fst, s.fst.snd.snd.snd.snd.snd.fst,
                      s.fst.snd.snd.snd.snd.snd.snd.fst,
                      IntKind.wrap IntKind.i64 (s.fst.snd.snd.snd.snd.snd.snd.snd.fst + (1 : Int)), ()),
                    ())
          else none
        else some (Sum.inl ((), ())))
      ((a1, a2, a3, a4, a0, (↑(List.length a0) : Int), (0 : Int), ()), ()))
    fun (s : Unit × Unit) => some (false, ())
-- impl.hidden
def m_impl_hidden (a0 : List (Int × (Bool × (Bool × List UInt8)))) (a1 : List UInt8) (a2 : Bool) : Option (Bool × Unit) :=
  joinC
    (loopC (List.length a0 + List.length a1 + Int.toNat (↑(List.length a1) : Int) + Int.toNat (0 : Int) + (300 : Nat))
      (fun (s : (List (Int × Bool × Bool × List UInt8) × List UInt8 × Bool × Int × Int × Unit) × Unit)
          (k :
            (List (Int × Bool × Bool × List UInt8) × List UInt8 × Bool × Int × Int × Unit) × Unit →
              Option ((List (Int × Bool × Bool × List UInt8) × List UInt8 × Bool × Unit) × Unit ⊕ Bool × Unit)) =>
        bif decide (s.fst.snd.snd.snd.snd.fst < s.fst.snd.snd.snd.fst) then
          Option.bind
            (if
                (0 : Int) ≤ s.fst.snd.snd.snd.snd.fst ∧
                  s.fst.snd.snd.snd.snd.fst < (↑(List.length s.fst.snd.fst) : Int) then
              bif
                  (↑(UInt8.toNat (List.getD s.fst.snd.fst (Int.toNat s.fst.snd.snd.snd.snd.fst) (0 : UInt8))) : Int) ==
                    (47 : Int) then
                if
                    (0 : Int) ≤ (0 : Int) ∧
                      (0 : Int) ≤ s.fst.snd.snd.snd.snd.fst ∧
                        s.fst.snd.snd.snd.snd.fst ≤ (↑(List.length s.fst.snd.fst) : Int) then
                  Option.bind
                    (m_impl_says s.fst.fst (0 : Int) (1 : Int)
                      (List.drop (Int.toNat (0 : Int)) (List.take (Int.toNat s.fst.snd.snd.snd.snd.fst) s.fst.snd.fst))
                      true)
                    fun (r : Bool × Unit) =>
                    some
                      ((s.fst.fst, s.fst.snd.fst, s.fst.snd.snd.fst, s.fst.snd.snd.snd.fst, s.fst.snd.snd.snd.snd.fst,
                          r),
                        ())
                else none
              else
                some
                  ((s.fst.fst, s.fst.snd.fst, s.fst.snd.snd.fst, s.fst.snd.snd.snd.fst, s.fst.snd.snd.snd.snd.fst,
                      false, ()),
                    ())
            else none)
            fun (s : (List (Int × Bool × Bool × List UInt8) × List UInt8 × Bool × Int × Int × Bool × Unit) × Unit) =>
            bif s.fst.snd.snd.snd.snd.snd.fst then some (Sum.inr (true, ()))
            else
              k
                ((s.fst.fst, s.fst.snd.fst, s.fst.snd.snd.fst, s.fst.snd.snd.snd.fst,
                    IntKind.wrap IntKind.i64 (s.fst.snd.snd.snd.snd.fst + (1 : Int)), ()),
                  ())
        else some (Sum.inl ((s.fst.fst, s.fst.snd.fst, s.fst.snd.snd.fst, ()), ())))
      ((a0, a1, a2, (↑(List.length a1) : Int), (0 : Int), ()), ()))
    fun (s : (List (Int × Bool × Bool × List UInt8) × List UInt8 × Bool × Unit) × Unit) =>
    Option.bind (m_impl_says s.fst.fst (0 : Int) (1 : Int) s.fst.snd.fst s.fst.snd.snd.fst) fun (r : Bool × Unit) =>
      some r
-- impl.Hidden
def m_impl_Hidden (a0 : List (Int × (Bool × (Bool × List UInt8)))) (a1 : List UInt8) (a2 : Bool) : Option (Bool × Unit) :=
  Option.bind
    (Option.bind (m_impl_areRules a0) fun (r : Bool × Unit) =>
      bif r.fst then
        Option.bind (m_impl_PathOk a1) fun (r : Bool × Unit) =>
          bif r.fst then Option.bind (m_impl_hidden a0 a1 a2) fun (r : Bool × Unit) => some (r, ())
          else some ((false, ()), ())
      else some ((false, ()), ()))
    fun (s : (Bool × Unit) × Unit) => some s.fst
-- laws.FnRuleLines
def m_laws_FnRuleLines (a0 : List Int) : Option (Bool × Unit) :=
  Option.bind (m_laws_big a0) fun (r : Bool × Unit) =>
    bif r.fst then some (true, ())
    else
      Option.bind (m_spec_DrawShowRule a0) fun (r : (Int × Bool × Bool × List UInt8) × Unit) =>
        Option.bind (m_impl_ShowRule r.fst) fun (r_1 : List UInt8 × Unit) =>
          Option.bind (m_spec_RuleOk r.fst) fun (r_2 : Bool × Unit) =>
            bif !r_2.fst == !r_1.fst == nilOf UInt8 then some (false, ())
            else
              Option.bind (m_impl_ParseRule r_1.fst)
                fun (r_3 : ((Int × Bool × Bool × List UInt8) × Bool × Unit) × Unit) =>
                Option.bind
                  (bif !r_1.fst == nilOf UInt8 then
                    bif !r_3.fst.snd.fst then some ((a0, true, ()), ())
                    else
                      bif
                          !(r_3.fst.fst.fst == r.fst.fst &&
                              (r_3.fst.fst.snd.fst == r.fst.snd.fst &&
                                (r_3.fst.fst.snd.snd.fst == r.fst.snd.snd.fst &&
                                  (r_3.fst.fst.snd.snd.snd == r.fst.snd.snd.snd && true)))) then
                        some ((a0, true, ()), ())
                      else bif r_1.fst == nilOf UInt8 then some ((a0, r_3.fst.snd), ()) else some ((a0, false, ()), ())
                  else bif r_1.fst == nilOf UInt8 then some ((a0, r_3.fst.snd), ()) else some ((a0, false, ()), ()))
                  fun (s : (List Int × Bool × Unit) × Unit) =>
                  bif s.fst.snd.fst then some (false, ())
                  else
                    Option.bind (m_spec_DrawHidden s.fst.fst)
                      fun (r : (List (Int × Bool × Bool × List UInt8) × List UInt8 × Bool × Unit) × Unit) =>
                      joinC
                        (loopC
                          (List.length r.fst.fst + List.length r.fst.snd.fst + List.length (nilOf UInt8) +
                              Int.toNat (0 : Int) +
                            (300 : Nat))
                          (fun
                              (s :
                                (List (Int × Bool × Bool × List UInt8) × List UInt8 × List UInt8 × Int × Unit) × Unit)
                              (k :
                                (List (Int × Bool × Bool × List UInt8) × List UInt8 × List UInt8 × Int × Unit) ×
                                    Unit →
                                  Option
                                    ((List (Int × Bool × Bool × List UInt8) × List UInt8 × List UInt8 × Unit) × Unit ⊕
                                      Bool × Unit)) =>
                            bif decide (s.fst.snd.snd.snd.fst < (↑(List.length s.fst.fst) : Int)) then
                              Option.bind
                                (if
                                    (0 : Int) ≤ s.fst.snd.snd.snd.fst ∧
                                      s.fst.snd.snd.snd.fst < (↑(List.length s.fst.fst) : Int) then
                                  Option.bind
                                    (m_spec_RuleOk
                                      (List.getD s.fst.fst (Int.toNat s.fst.snd.snd.snd.fst)
                                        (Int.ofNat (nat_lit 0), false, false, nilOf UInt8)))
                                    fun (r : Bool × Unit) =>
                                    bif !r.fst then
                                      some
                                        ((s.fst.fst, s.fst.snd.fst, s.fst.snd.snd.fst, s.fst.snd.snd.snd.fst, true, ()),
                                          ())
                                    else
                                      if
                                          (0 : Int) ≤ s.fst.snd.snd.snd.fst ∧
                                            s.fst.snd.snd.snd.fst < (↑(List.length s.fst.fst) : Int) then
                                        some
                                          ((s.fst.fst, s.fst.snd.fst, s.fst.snd.snd.fst, s.fst.snd.snd.snd.fst,
                                              (List.getD s.fst.fst (Int.toNat s.fst.snd.snd.snd.fst)
                                                    (Int.ofNat (nat_lit 0), false, false, nilOf UInt8)).fst ==
                                                (4 : Int),
                                              ()),
                                            ())
                                      else none
                                else none)
                                fun
                                  (s :
                                    (List (Int × Bool × Bool × List UInt8) ×
                                        List UInt8 × List UInt8 × Int × Bool × Unit) ×
                                      Unit) =>
                                bif s.fst.snd.snd.snd.snd.fst then some (Sum.inr (true, ()))
                                else
                                  if
                                      (0 : Int) ≤ s.fst.snd.snd.snd.fst ∧
                                        s.fst.snd.snd.snd.fst < (↑(List.length s.fst.fst) : Int) then
                                    Option.bind
                                      (m_impl_ShowRule
                                        (List.getD s.fst.fst (Int.toNat s.fst.snd.snd.snd.fst)
                                          (Int.ofNat (nat_lit 0), false, false, nilOf UInt8)))
                                      fun (r : List UInt8 × Unit) =>
                                      if List.length s.fst.snd.snd.fst + List.length r.fst < (2 : Nat) ^ (63 : Nat) then
                                        if
                                            List.length (s.fst.snd.snd.fst ++ r.fst) + List.length [(10 : UInt8)] <
                                              (2 : Nat) ^ (63 : Nat) then
                                          k
                                            ((s.fst.fst, s.fst.snd.fst, s.fst.snd.snd.fst ++ r.fst ++ [(10 : UInt8)],
                                                IntKind.wrap IntKind.i64 (s.fst.snd.snd.snd.fst + (1 : Int)), ()),
                                              ())
                                        else none
                                      else none
                                  else none
                            else some (Sum.inl ((s.fst.fst, s.fst.snd.fst, s.fst.snd.snd.fst, ()), ())))
                          ((r.fst.fst, r.fst.snd.fst, nilOf UInt8, (0 : Int), ()), ()))
                        fun (s : (List (Int × Bool × Bool × List UInt8) × List UInt8 × List UInt8 × Unit) × Unit) =>
                        if
                            List.length s.fst.snd.snd.fst + List.length [(33 : UInt8), (10 : UInt8)] <
                              (2 : Nat) ^ (63 : Nat) then
                          if
                              List.length (s.fst.snd.snd.fst ++ [(33 : UInt8), (10 : UInt8)]) +
                                  List.length s.fst.snd.snd.fst <
                                (2 : Nat) ^ (63 : Nat) then
                            Option.bind
                              (m_impl_ParseRules
                                (s.fst.snd.snd.fst ++ [(33 : UInt8), (10 : UInt8)] ++ s.fst.snd.snd.fst))
                              fun (r : (List (Int × Bool × Bool × List UInt8) × Int × Bool × Unit) × Unit) =>
                              Option.bind
                                (bif !r.fst.snd.snd.fst then some ((s.fst.fst, s.fst.snd.fst, r.fst.fst, true, ()), ())
                                else
                                  bif r.fst.snd.fst != (0 : Int) then
                                    some ((s.fst.fst, s.fst.snd.fst, r.fst.fst, true, ()), ())
                                  else
                                    some
                                      ((s.fst.fst, s.fst.snd.fst, r.fst.fst,
                                          (↑(List.length r.fst.fst) : Int) != (↑(List.length s.fst.fst) : Int), ()),
                                        ()))
                                fun
                                  (s :
                                    (List (Int × Bool × Bool × List UInt8) ×
                                        List UInt8 × List (Int × Bool × Bool × List UInt8) × Bool × Unit) ×
                                      Unit) =>
                                bif s.fst.snd.snd.snd.fst then some (false, ())
                                else
                                  joinC
                                    (loopC
                                      (List.length s.fst.fst + List.length s.fst.snd.fst +
                                            List.length s.fst.snd.snd.fst +
                                          Int.toNat (0 : Int) +
                                        (300 : Nat))
                                      (fun
                                          (s :
                                            (List (Int × Bool × Bool × List UInt8) ×
                                                List UInt8 × List (Int × Bool × Bool × List UInt8) × Int × Unit) ×
                                              Unit)
                                          (k :
                                            (List (Int × Bool × Bool × List UInt8) ×
                                                  List UInt8 × List (Int × Bool × Bool × List UInt8) × Int × Unit) ×
                                                Unit →
                                              Option
                                                ((List (Int × Bool × Bool × List UInt8) ×
                                                      List UInt8 × List (Int × Bool × Bool × List UInt8) × Unit) ×
                                                    Unit ⊕
                                                  Bool × Unit)) =>
                                        bif
                                            decide
                                              (s.fst.snd.snd.snd.fst < (↑(List.length s.fst.snd.snd.fst) : Int)) then
                                          if
                                              (0 : Int) ≤ s.fst.snd.snd.snd.fst ∧
                                                s.fst.snd.snd.snd.fst < (↑(List.length s.fst.snd.snd.fst) : Int) then
                                            if
                                                (0 : Int) ≤ s.fst.snd.snd.snd.fst ∧
                                                  s.fst.snd.snd.snd.fst < (↑(List.length s.fst.fst) : Int) then
                                              bif
                                                  !((List.getD s.fst.snd.snd.fst (Int.toNat s.fst.snd.snd.snd.fst)
                                                            (Int.ofNat (nat_lit 0), false, false, nilOf UInt8)).fst ==
                                                        (List.getD s.fst.fst (Int.toNat s.fst.snd.snd.snd.fst)
                                                            (Int.ofNat (nat_lit 0), false, false, nilOf UInt8)).fst &&
                                                      ((List.getD s.fst.snd.snd.fst (Int.toNat s.fst.snd.snd.snd.fst)
                                                                (Int.ofNat (nat_lit 0), false, false,
                                                                  nilOf UInt8)).snd.fst ==
                                                          (List.getD s.fst.fst (Int.toNat s.fst.snd.snd.snd.fst)
                                                                (Int.ofNat (nat_lit 0), false, false,
                                                                  nilOf UInt8)).snd.fst &&
                                                        ((List.getD s.fst.snd.snd.fst (Int.toNat s.fst.snd.snd.snd.fst)
                                                                    (Int.ofNat (nat_lit 0), false, false,
                                                                      nilOf UInt8)).snd.snd.fst ==
                                                            (List.getD s.fst.fst (Int.toNat s.fst.snd.snd.snd.fst)
                                                                    (Int.ofNat (nat_lit 0), false, false,
                                                                      nilOf UInt8)).snd.snd.fst &&
                                                          ((List.getD s.fst.snd.snd.fst
                                                                      (Int.toNat s.fst.snd.snd.snd.fst)
                                                                      (Int.ofNat (nat_lit 0), false, false,
                                                                        nilOf UInt8)).snd.snd.snd ==
                                                              (List.getD s.fst.fst (Int.toNat s.fst.snd.snd.snd.fst)
                                                                      (Int.ofNat (nat_lit 0), false, false,
                                                                        nilOf UInt8)).snd.snd.snd &&
                                                            true)))) then
                                                some (Sum.inr (false, ()))
                                              else
                                                k
                                                  ((s.fst.fst, s.fst.snd.fst, s.fst.snd.snd.fst,
                                                      IntKind.wrap IntKind.i64 (s.fst.snd.snd.snd.fst + (1 : Int)), ()),
                                                    ())
                                            else none
                                          else none
                                        else some (Sum.inl ((s.fst.fst, s.fst.snd.fst, s.fst.snd.snd.fst, ()), ())))
                                      ((s.fst.fst, s.fst.snd.fst, s.fst.snd.snd.fst, (0 : Int), ()), ()))
                                    fun
                                      (s :
                                        (List (Int × Bool × Bool × List UInt8) ×
                                            List UInt8 × List (Int × Bool × Bool × List UInt8) × Unit) ×
                                          Unit) =>
                                    Option.bind (m_impl_Hidden s.fst.snd.snd.fst s.fst.snd.fst true)
                                      fun (r : Bool × Unit) =>
                                      Option.bind (m_impl_Hidden s.fst.fst s.fst.snd.fst true)
                                        fun (r_4 : Bool × Unit) => some (r.fst == r_4.fst, ())
                          else none
                        else none
end Go.AM
