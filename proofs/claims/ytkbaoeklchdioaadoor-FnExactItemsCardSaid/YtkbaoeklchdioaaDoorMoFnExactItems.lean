/- What each function computes, in plain Lean. -/
import Derived.Test.YtkbaoeklchdioaaDoorAmE
set_option linter.unusedVariables false
set_option maxRecDepth 100000
namespace Go.AM
open Go
-- laws.szNode
def m_laws_szNode (a0 : (List UInt8 × (Int × (Int × (Int × (List UInt8 × (List UInt8 × Int))))))) (a1 : Int) : Option (Int × Unit) :=
  bif decide (IntKind.wrap IntKind.i64 (a1 - (↑(List.length a0.fst) : Int)) < (0 : Int)) then some ((-1 : Int), ())
  else
    bif
        decide
          (IntKind.wrap IntKind.i64
              (IntKind.wrap IntKind.i64 (a1 - (↑(List.length a0.fst) : Int)) -
                (↑(List.length a0.snd.snd.snd.snd.fst) : Int)) <
            (0 : Int)) then
      some ((-1 : Int), ())
    else
      bif
          decide
            (IntKind.wrap IntKind.i64
                (IntKind.wrap IntKind.i64
                    (IntKind.wrap IntKind.i64 (a1 - (↑(List.length a0.fst) : Int)) -
                      (↑(List.length a0.snd.snd.snd.snd.fst) : Int)) -
                  (↑(List.length a0.snd.snd.snd.snd.snd.fst) : Int)) <
              (0 : Int)) then
        some ((-1 : Int), ())
      else
        some
          (IntKind.wrap IntKind.i64
              (IntKind.wrap IntKind.i64
                  (IntKind.wrap IntKind.i64 (a1 - (↑(List.length a0.fst) : Int)) -
                    (↑(List.length a0.snd.snd.snd.snd.fst) : Int)) -
                (↑(List.length a0.snd.snd.snd.snd.snd.fst) : Int)),
            ())
-- laws.szChange
def m_laws_szChange (a0 : (Int × (List UInt8 × ((List UInt8 × (Int × (Int × (Int × (List UInt8 × (List UInt8 × Int)))))) × (List UInt8 × (Int × (Int × (Int × (List UInt8 × (List UInt8 × Int)))))))))) (a1 : Int) : Option (Int × Unit) :=
  bif decide (IntKind.wrap IntKind.i64 (a1 - (↑(List.length a0.snd.fst) : Int)) < (0 : Int)) then some ((-1 : Int), ())
  else
    Option.bind (m_laws_szNode a0.snd.snd.fst (IntKind.wrap IntKind.i64 (a1 - (↑(List.length a0.snd.fst) : Int))))
      fun (r : Int × Unit) =>
      bif decide (r.fst < (0 : Int)) then some ((-1 : Int), ())
      else
        Option.bind (m_laws_szNode a0.snd.snd.snd r.fst) fun (r : Int × Unit) =>
          bif decide (r.fst < (0 : Int)) then some ((-1 : Int), ()) else some r
-- laws.szChangeS
def m_laws_szChangeS (a0 : List (Int × (List UInt8 × ((List UInt8 × (Int × (Int × (Int × (List UInt8 × (List UInt8 × Int)))))) × (List UInt8 × (Int × (Int × (Int × (List UInt8 × (List UInt8 × Int)))))))))) (a1 : Int) : Option (Int × Unit) :=
  bif decide (IntKind.wrap IntKind.i64 (a1 - (↑(List.length a0) : Int)) < (0 : Int)) then some ((-1 : Int), ())
  else
    joinC
      (loopC
        (List.length a0 + Int.toNat (IntKind.wrap IntKind.i64 (a1 - (↑(List.length a0) : Int))) + Int.toNat (0 : Int) +
          (300 : Nat))
        (fun
            (s :
              (List
                    (Int ×
                      List UInt8 ×
                        (List UInt8 × Int × Int × Int × List UInt8 × List UInt8 × Int) ×
                          List UInt8 × Int × Int × Int × List UInt8 × List UInt8 × Int) ×
                  Int × Int × Unit) ×
                Unit)
            (k :
              (List
                      (Int ×
                        List UInt8 ×
                          (List UInt8 × Int × Int × Int × List UInt8 × List UInt8 × Int) ×
                            List UInt8 × Int × Int × Int × List UInt8 × List UInt8 × Int) ×
                    Int × Int × Unit) ×
                  Unit →
                Option ((Int × Unit) × Unit ⊕ Int × Unit)) =>
          bif decide (s.fst.snd.snd.fst < (↑(List.length s.fst.fst) : Int)) then
            if (0 : Int) ≤ s.fst.snd.snd.fst ∧ s.fst.snd.snd.fst < (↑(List.length s.fst.fst) : Int) then
              Option.bind
                (m_laws_szChange
                  (List.getD s.fst.fst (Int.toNat s.fst.snd.snd.fst)
                    (Int.ofNat (nat_lit 0), nilOf UInt8,
                      (nilOf UInt8, Int.ofNat (nat_lit 0), Int.ofNat (nat_lit 0), Int.ofNat (nat_lit 0), nilOf UInt8,
                        nilOf UInt8, Int.ofNat (nat_lit 0)),
                      nilOf UInt8, Int.ofNat (nat_lit 0), Int.ofNat (nat_lit 0), Int.ofNat (nat_lit 0), nilOf UInt8,
                      nilOf UInt8, Int.ofNat (nat_lit 0)))
                  s.fst.snd.fst)
                fun (r : Int × Unit) =>
                bif decide (r.fst < (0 : Int)) then some (Sum.inr ((-1 : Int), ()))
                else k ((s.fst.fst, r.fst, IntKind.wrap IntKind.i64 (s.fst.snd.snd.fst + (1 : Int)), ()), ())
            else none
          else some (Sum.inl ((s.fst.snd.fst, ()), ())))
        ((a0, IntKind.wrap IntKind.i64 (a1 - (↑(List.length a0) : Int)), (0 : Int), ()), ()))
      fun (s : (Int × Unit) × Unit) => some s.fst
-- laws.szOpts
def m_laws_szOpts (a0 : (Bool × (Bool × (Bool × (Bool × (Bool × (Bool × (Bool × (Bool × (Bool × (Bool × (Bool × (Bool × (Bool × (Int × (Bool × (List UInt8 × List UInt8))))))))))))))))) (a1 : Int) : Option (Int × Unit) :=
  bif
      decide
        (IntKind.wrap IntKind.i64
            (a1 - (↑(List.length a0.snd.snd.snd.snd.snd.snd.snd.snd.snd.snd.snd.snd.snd.snd.snd.fst) : Int)) <
          (0 : Int)) then
    some ((-1 : Int), ())
  else
    bif
        decide
          (IntKind.wrap IntKind.i64
              (IntKind.wrap IntKind.i64
                  (a1 - (↑(List.length a0.snd.snd.snd.snd.snd.snd.snd.snd.snd.snd.snd.snd.snd.snd.snd.fst) : Int)) -
                (↑(List.length a0.snd.snd.snd.snd.snd.snd.snd.snd.snd.snd.snd.snd.snd.snd.snd.snd) : Int)) <
            (0 : Int)) then
      some ((-1 : Int), ())
    else
      some
        (IntKind.wrap IntKind.i64
            (IntKind.wrap IntKind.i64
                (a1 - (↑(List.length a0.snd.snd.snd.snd.snd.snd.snd.snd.snd.snd.snd.snd.snd.snd.snd.fst) : Int)) -
              (↑(List.length a0.snd.snd.snd.snd.snd.snd.snd.snd.snd.snd.snd.snd.snd.snd.snd.snd) : Int)),
          ())
-- laws.toNode
def m_laws_toNode (a0 : (List UInt8 × (Int × (Int × (Int × (List UInt8 × (List UInt8 × Int))))))) : Option ((List UInt8 × (Int × (Int × (Int × (List UInt8 × (List UInt8 × Int)))))) × Unit) :=
  some (a0, ())
-- laws.toChange
def m_laws_toChange (a0 : (Int × (List UInt8 × ((List UInt8 × (Int × (Int × (Int × (List UInt8 × (List UInt8 × Int)))))) × (List UInt8 × (Int × (Int × (Int × (List UInt8 × (List UInt8 × Int)))))))))) : Option ((Int × (List UInt8 × ((List UInt8 × (Int × (Int × (Int × (List UInt8 × (List UInt8 × Int)))))) × (List UInt8 × (Int × (Int × (Int × (List UInt8 × (List UInt8 × Int))))))))) × Unit) :=
  Option.bind (m_laws_toNode a0.snd.snd.fst)
    fun (r : (List UInt8 × Int × Int × Int × List UInt8 × List UInt8 × Int) × Unit) =>
    Option.bind (m_laws_toNode a0.snd.snd.snd)
      fun (r_1 : (List UInt8 × Int × Int × Int × List UInt8 × List UInt8 × Int) × Unit) =>
      some ((a0.fst, a0.snd.fst, r.fst, r_1.fst), ())
-- laws.toChangeS
def m_laws_toChangeS (a0 : List (Int × (List UInt8 × ((List UInt8 × (Int × (Int × (Int × (List UInt8 × (List UInt8 × Int)))))) × (List UInt8 × (Int × (Int × (Int × (List UInt8 × (List UInt8 × Int)))))))))) : Option (List (Int × (List UInt8 × ((List UInt8 × (Int × (Int × (Int × (List UInt8 × (List UInt8 × Int)))))) × (List UInt8 × (Int × (Int × (Int × (List UInt8 × (List UInt8 × Int))))))))) × Unit) :=
  if
      (0 : Int) ≤ (↑(List.length a0) : Int) ∧
        (↑(List.length a0) : Int) ≤ (↑(List.length a0) : Int) ∧
          (↑(184 : Nat) : Int) * (↑(List.length a0) : Int) ≤ (140737488355328 : Int) ∧
            (↑(List.length a0) : Int) < (2 : Int) ^ (62 : Nat) then
    Option.bind
      (loopC
        (List.length a0 + Int.toNat (0 : Int) +
            List.length
              (List.replicate (Int.toNat (↑(List.length a0) : Int))
                (Int.ofNat (nat_lit 0), nilOf UInt8,
                  (nilOf UInt8, Int.ofNat (nat_lit 0), Int.ofNat (nat_lit 0), Int.ofNat (nat_lit 0), nilOf UInt8,
                    nilOf UInt8, Int.ofNat (nat_lit 0)),
                  nilOf UInt8, Int.ofNat (nat_lit 0), Int.ofNat (nat_lit 0), Int.ofNat (nat_lit 0), nilOf UInt8,
                  nilOf UInt8, Int.ofNat (nat_lit 0))) +
          (300 : Nat))
        (fun
            (s :
              (List
                    (Int ×
                      List UInt8 ×
                        (List UInt8 × Int × Int × Int × List UInt8 × List UInt8 × Int) ×
                          List UInt8 × Int × Int × Int × List UInt8 × List UInt8 × Int) ×
                  Unit × Int × Unit) ×
                List
                    (Int ×
                      List UInt8 ×
                        (List UInt8 × Int × Int × Int × List UInt8 × List UInt8 × Int) ×
                          List UInt8 × Int × Int × Int × List UInt8 × List UInt8 × Int) ×
                  Unit)
            (k :
              (List
                      (Int ×
                        List UInt8 ×
                          (List UInt8 × Int × Int × Int × List UInt8 × List UInt8 × Int) ×
                            List UInt8 × Int × Int × Int × List UInt8 × List UInt8 × Int) ×
                    Unit × Int × Unit) ×
                  List
                      (Int ×
                        List UInt8 ×
                          (List UInt8 × Int × Int × Int × List UInt8 × List UInt8 × Int) ×
                            List UInt8 × Int × Int × Int × List UInt8 × List UInt8 × Int) ×
                    Unit →
                Option
                  ((Unit × Unit) ×
                    List
                        (Int ×
                          List UInt8 ×
                            (List UInt8 × Int × Int × Int × List UInt8 × List UInt8 × Int) ×
                              List UInt8 × Int × Int × Int × List UInt8 × List UInt8 × Int) ×
                      Unit)) =>
          bif decide (s.fst.snd.snd.fst < (↑(List.length s.fst.fst) : Int)) then
            if (0 : Int) ≤ s.fst.snd.snd.fst ∧ s.fst.snd.snd.fst < (↑(List.length s.fst.fst) : Int) then
              Option.bind
                (m_laws_toChange
                  (List.getD s.fst.fst (Int.toNat s.fst.snd.snd.fst)
                    (Int.ofNat (nat_lit 0), nilOf UInt8,
                      (nilOf UInt8, Int.ofNat (nat_lit 0), Int.ofNat (nat_lit 0), Int.ofNat (nat_lit 0), nilOf UInt8,
                        nilOf UInt8, Int.ofNat (nat_lit 0)),
                      nilOf UInt8, Int.ofNat (nat_lit 0), Int.ofNat (nat_lit 0), Int.ofNat (nat_lit 0), nilOf UInt8,
                      nilOf UInt8, Int.ofNat (nat_lit 0))))
                fun
                  (r :
                    (Int ×
                        List UInt8 ×
                          (List UInt8 × Int × Int × Int × List UInt8 × List UInt8 × Int) ×
                            List UInt8 × Int × Int × Int × List UInt8 × List UInt8 × Int) ×
                      Unit) =>
                if (0 : Int) ≤ s.fst.snd.snd.fst ∧ s.fst.snd.snd.fst < (↑(List.length s.snd.fst) : Int) then
                  if Int.toNat s.fst.snd.snd.fst < List.length s.snd.fst then
                    k
                      ((s.fst.fst, (), IntKind.wrap IntKind.i64 (s.fst.snd.snd.fst + (1 : Int)), ()),
                        List.set s.snd.fst (Int.toNat s.fst.snd.snd.fst) r.fst, ())
                  else none
                else none
            else none
          else some (((), ()), s.snd))
        ((a0, (), (0 : Int), ()),
          List.replicate (Int.toNat (↑(List.length a0) : Int))
            (Int.ofNat (nat_lit 0), nilOf UInt8,
              (nilOf UInt8, Int.ofNat (nat_lit 0), Int.ofNat (nat_lit 0), Int.ofNat (nat_lit 0), nilOf UInt8,
                nilOf UInt8, Int.ofNat (nat_lit 0)),
              nilOf UInt8, Int.ofNat (nat_lit 0), Int.ofNat (nat_lit 0), Int.ofNat (nat_lit 0), nilOf UInt8,
              nilOf UInt8, Int.ofNat (nat_lit 0)),
          ()))
      fun
        (s :
          (Unit × Unit) ×
            List
                (Int ×
                  List UInt8 ×
                    (List UInt8 × Int × Int × Int × List UInt8 × List UInt8 × Int) ×
                      List UInt8 × Int × Int × Int × List UInt8 × List UInt8 × Int) ×
              Unit) =>
      some s.snd
  else none
-- laws.toOpts
def m_laws_toOpts (a0 : (Bool × (Bool × (Bool × (Bool × (Bool × (Bool × (Bool × (Bool × (Bool × (Bool × (Bool × (Bool × (Bool × (Int × (Bool × (List UInt8 × List UInt8))))))))))))))))) : Option ((Bool × (Bool × (Bool × (Bool × (Bool × (Bool × (Bool × (Bool × (Bool × (Bool × (Bool × (Bool × (Bool × (Int × (Bool × (List UInt8 × List UInt8)))))))))))))))) × Unit) :=
  some (a0, ())
-- spec.l01In
def m_spec_l01In (a0 : Int) (a1 : Int) (a2 : Int) : Option (Bool × Unit) :=
  Option.bind (bif decide (a0 ≥ a1) then some ((decide (a0 ≤ a2), ()), ()) else some ((false, ()), ()))
    fun (s : (Bool × PUnit) × PUnit) => some (s.fst.fst, ())
-- spec.NameOk
def m_spec_NameOk (a0 : List UInt8) : Option (Bool × Unit) :=
  Option.bind
    (Option.bind (m_spec_l01In (↑(List.length a0) : Int) (1 : Int) (20 : Int)) fun (r : Bool × Unit) =>
      bif !r.fst then some ((a0, true, ()), ())
      else
        bif a0 == [(46 : UInt8)] then some ((a0, true, ()), ())
        else some ((a0, a0 == [(46 : UInt8), (46 : UInt8)], ()), ()))
    fun (s : (List UInt8 × Bool × Unit) × Unit) =>
    bif s.fst.snd.fst then some (false, ())
    else
      joinC
        (loopC (List.length s.fst.fst + Int.toNat (0 : Int) + (300 : Nat))
          (fun (s : (List UInt8 × Int × Unit) × Unit)
              (k : (List UInt8 × Int × Unit) × Unit → Option (Unit × Unit ⊕ Bool × Unit)) =>
            bif decide (s.fst.snd.fst < (↑(List.length s.fst.fst) : Int)) then
              if (0 : Int) ≤ s.fst.snd.fst ∧ s.fst.snd.fst < (↑(List.length s.fst.fst) : Int) then
                Option.bind
                  (Option.bind
                    (m_spec_l01In
                      (IntKind.wrap IntKind.i64
                        (↑(UInt8.toNat (List.getD s.fst.fst (Int.toNat s.fst.snd.fst) (0 : UInt8))) : Int))
                      (97 : Int) (122 : Int))
                    fun (r : Bool × Unit) =>
                    bif !r.fst then
                      Option.bind
                        (m_spec_l01In
                          (IntKind.wrap IntKind.i64
                            (↑(UInt8.toNat (List.getD s.fst.fst (Int.toNat s.fst.snd.fst) (0 : UInt8))) : Int))
                          (65 : Int) (90 : Int))
                        fun (r : Bool × Unit) =>
                        bif !r.fst then
                          Option.bind
                            (m_spec_l01In
                              (IntKind.wrap IntKind.i64
                                (↑(UInt8.toNat (List.getD s.fst.fst (Int.toNat s.fst.snd.fst) (0 : UInt8))) : Int))
                              (48 : Int) (57 : Int))
                            fun (r : Bool × Unit) =>
                            bif !r.fst then
                              if (0 : Int) ≤ s.fst.snd.fst ∧ s.fst.snd.fst < (↑(List.length s.fst.fst) : Int) then
                                bif
                                    (↑(UInt8.toNat (List.getD s.fst.fst (Int.toNat s.fst.snd.fst) (0 : UInt8))) :
                                        Int) !=
                                      (46 : Int) then
                                  if (0 : Int) ≤ s.fst.snd.fst ∧ s.fst.snd.fst < (↑(List.length s.fst.fst) : Int) then
                                    bif
                                        (↑(UInt8.toNat (List.getD s.fst.fst (Int.toNat s.fst.snd.fst) (0 : UInt8))) :
                                            Int) !=
                                          (95 : Int) then
                                      if
                                          (0 : Int) ≤ s.fst.snd.fst ∧
                                            s.fst.snd.fst < (↑(List.length s.fst.fst) : Int) then
                                        some
                                          ((s.fst.fst, s.fst.snd.fst,
                                              (↑(UInt8.toNat
                                                      (List.getD s.fst.fst (Int.toNat s.fst.snd.fst) (0 : UInt8))) :
                                                  Int) !=
                                                (45 : Int),
                                              ()),
                                            ())
                                      else none
                                    else some ((s.fst.fst, s.fst.snd.fst, false, ()), ())
                                  else none
                                else some ((s.fst.fst, s.fst.snd.fst, false, ()), ())
                              else none
                            else some ((s.fst.fst, s.fst.snd.fst, false, ()), ())
                        else some ((s.fst.fst, s.fst.snd.fst, false, ()), ())
                    else some ((s.fst.fst, s.fst.snd.fst, false, ()), ()))
                  fun (s : (List UInt8 × Int × Bool × Unit) × Unit) =>
                  bif s.fst.snd.snd.fst then some (Sum.inr (false, ()))
                  else k ((s.fst.fst, IntKind.wrap IntKind.i64 (s.fst.snd.fst + (1 : Int)), ()), ())
              else none
            else some (Sum.inl ((), ())))
          ((s.fst.fst, (0 : Int), ()), ()))
        fun (s : Unit × Unit) => some (true, ())
-- spec.l11Suffix
def m_spec_l11Suffix (a0 : List UInt8) : Option (Bool × Unit) :=
  Option.bind
    (bif a0 == nilOf UInt8 then some ((true, ()), ())
    else
      bif decide ((↑(List.length a0) : Int) ≤ (8 : Int)) then
        if List.length [(120 : UInt8)] + List.length a0 < (2 : Nat) ^ (63 : Nat) then
          Option.bind (m_spec_NameOk ([(120 : UInt8)] ++ a0)) fun (r : Bool × Unit) => some (r, ())
        else none
      else some ((false, ()), ()))
    fun (s : (Bool × Unit) × Unit) => some s.fst
-- spec.l02Names
def m_spec_l02Names (a0 : List UInt8) : Option (List (List UInt8) × Unit) :=
  Option.bind
    (loopC (List.length a0 + Int.toNat (0 : Int) + Int.toNat (0 : Int) + List.length (nilOf (List UInt8)) + (300 : Nat))
      (fun (s : (List UInt8 × Unit × Int × Int × Unit) × List (List UInt8) × Unit)
          (k :
            (List UInt8 × Unit × Int × Int × Unit) × List (List UInt8) × Unit →
              Option ((List UInt8 × Unit × Int × Unit) × List (List UInt8) × Unit)) =>
        bif decide (s.fst.snd.snd.snd.fst < (↑(List.length s.fst.fst) : Int)) then
          if (0 : Int) ≤ s.fst.snd.snd.snd.fst ∧ s.fst.snd.snd.snd.fst < (↑(List.length s.fst.fst) : Int) then
            Option.bind
              (bif
                  (↑(UInt8.toNat (List.getD s.fst.fst (Int.toNat s.fst.snd.snd.snd.fst) (0 : UInt8))) : Int) ==
                    (47 : Int) then
                if
                    (0 : Int) ≤ s.fst.snd.snd.fst ∧
                      s.fst.snd.snd.fst ≤ s.fst.snd.snd.snd.fst ∧
                        s.fst.snd.snd.snd.fst ≤ (↑(List.length s.fst.fst) : Int) then
                  if
                      (List.length s.snd.fst +
                            List.length
                              [List.drop (Int.toNat s.fst.snd.snd.fst)
                                  (List.take (Int.toNat s.fst.snd.snd.snd.fst) s.fst.fst)]) *
                          (16 : Nat) ≤
                        (140737488355328 : Nat) then
                    some
                      ((s.fst.fst, (), IntKind.wrap IntKind.i64 (s.fst.snd.snd.snd.fst + (1 : Int)), s.fst.snd.snd.snd),
                        s.snd.fst ++
                          [List.drop (Int.toNat s.fst.snd.snd.fst)
                              (List.take (Int.toNat s.fst.snd.snd.snd.fst) s.fst.fst)],
                        ())
                  else none
                else none
              else some ((s.fst.fst, (), s.fst.snd.snd), s.snd))
              fun (s : (List UInt8 × Unit × Int × Int × Unit) × List (List UInt8) × Unit) =>
              k
                ((s.fst.fst, (), s.fst.snd.snd.fst, IntKind.wrap IntKind.i64 (s.fst.snd.snd.snd.fst + (1 : Int)), ()),
                  s.snd)
          else none
        else some ((s.fst.fst, (), s.fst.snd.snd.fst, ()), s.snd))
      ((a0, (), (0 : Int), (0 : Int), ()), nilOf (List UInt8), ()))
    fun (s : (List UInt8 × Unit × Int × Unit) × List (List UInt8) × Unit) =>
    if
        (0 : Int) ≤ s.fst.snd.snd.fst ∧
          s.fst.snd.snd.fst ≤ (↑(List.length s.fst.fst) : Int) ∧
            (↑(List.length s.fst.fst) : Int) ≤ (↑(List.length s.fst.fst) : Int) then
      if
          (List.length s.snd.fst +
                List.length
                  [List.drop (Int.toNat s.fst.snd.snd.fst)
                      (List.take (Int.toNat (↑(List.length s.fst.fst) : Int)) s.fst.fst)]) *
              (16 : Nat) ≤
            (140737488355328 : Nat) then
        some
          (s.snd.fst ++
              [List.drop (Int.toNat s.fst.snd.snd.fst)
                  (List.take (Int.toNat (↑(List.length s.fst.fst) : Int)) s.fst.fst)],
            ())
      else none
    else none
-- spec.PathOk
def m_spec_PathOk (a0 : List UInt8) : Option (Bool × Unit) :=
  bif decide ((↑(List.length a0) : Int) > (200 : Int)) then some (false, ())
  else
    Option.bind (m_spec_l02Names a0) fun (r : List (List UInt8) × Unit) =>
      joinC
        (loopC (List.length r.fst + Int.toNat (0 : Int) + (300 : Nat))
          (fun (s : (List (List UInt8) × Int × Unit) × Unit)
              (k :
                (List (List UInt8) × Int × Unit) × Unit →
                  Option ((List (List UInt8) × Unit) × Unit ⊕ Bool × Unit)) =>
            bif decide (s.fst.snd.fst < (↑(List.length s.fst.fst) : Int)) then
              if (0 : Int) ≤ s.fst.snd.fst ∧ s.fst.snd.fst < (↑(List.length s.fst.fst) : Int) then
                Option.bind (m_spec_NameOk (List.getD s.fst.fst (Int.toNat s.fst.snd.fst) (nilOf UInt8)))
                  fun (r : Bool × Unit) =>
                  bif !r.fst then some (Sum.inr (false, ()))
                  else k ((s.fst.fst, IntKind.wrap IntKind.i64 (s.fst.snd.fst + (1 : Int)), ()), ())
              else none
            else some (Sum.inl ((s.fst.fst, ()), ())))
          ((r.fst, (0 : Int), ()), ()))
        fun (s : (List (List UInt8) × Unit) × Unit) =>
        some (decide ((↑(List.length s.fst.fst) : Int) ≤ (8 : Int)), ())
-- spec.OptsOk
def m_spec_OptsOk (a0 : (Bool × (Bool × (Bool × (Bool × (Bool × (Bool × (Bool × (Bool × (Bool × (Bool × (Bool × (Bool × (Bool × (Int × (Bool × (List UInt8 × List UInt8))))))))))))))))) : Option (Bool × Unit) :=
  Option.bind
    (Option.bind (m_spec_l01In a0.snd.snd.snd.snd.snd.snd.snd.snd.snd.snd.snd.snd.snd.fst (0 : Int) (3 : Int))
      fun (r : Bool × Unit) =>
      bif !r.fst then
        some
          (((), true, ()),
            (a0.fst, a0.snd.fst, a0.snd.snd.fst, a0.snd.snd.snd.fst, a0.snd.snd.snd.snd.fst, a0.snd.snd.snd.snd.snd.fst,
              a0.snd.snd.snd.snd.snd.snd.fst, a0.snd.snd.snd.snd.snd.snd.snd.fst,
              a0.snd.snd.snd.snd.snd.snd.snd.snd.fst, a0.snd.snd.snd.snd.snd.snd.snd.snd.snd.fst,
              a0.snd.snd.snd.snd.snd.snd.snd.snd.snd.snd.fst, a0.snd.snd.snd.snd.snd.snd.snd.snd.snd.snd.snd.fst,
              a0.snd.snd.snd.snd.snd.snd.snd.snd.snd.snd.snd.snd.fst,
              a0.snd.snd.snd.snd.snd.snd.snd.snd.snd.snd.snd.snd.snd.fst,
              a0.snd.snd.snd.snd.snd.snd.snd.snd.snd.snd.snd.snd.snd.snd.fst,
              a0.snd.snd.snd.snd.snd.snd.snd.snd.snd.snd.snd.snd.snd.snd.snd.fst,
              a0.snd.snd.snd.snd.snd.snd.snd.snd.snd.snd.snd.snd.snd.snd.snd.snd, ()),
            ())
      else
        bif a0.snd.snd.snd.snd.snd.snd.snd.snd.snd.snd.snd.snd.snd.fst != (0 : Int) then
          bif !a0.fst then
            some
              (((), true, ()),
                (a0.fst, a0.snd.fst, a0.snd.snd.fst, a0.snd.snd.snd.fst, a0.snd.snd.snd.snd.fst,
                  a0.snd.snd.snd.snd.snd.fst, a0.snd.snd.snd.snd.snd.snd.fst, a0.snd.snd.snd.snd.snd.snd.snd.fst,
                  a0.snd.snd.snd.snd.snd.snd.snd.snd.fst, a0.snd.snd.snd.snd.snd.snd.snd.snd.snd.fst,
                  a0.snd.snd.snd.snd.snd.snd.snd.snd.snd.snd.fst, a0.snd.snd.snd.snd.snd.snd.snd.snd.snd.snd.snd.fst,
                  a0.snd.snd.snd.snd.snd.snd.snd.snd.snd.snd.snd.snd.fst,
                  a0.snd.snd.snd.snd.snd.snd.snd.snd.snd.snd.snd.snd.snd.fst,
                  a0.snd.snd.snd.snd.snd.snd.snd.snd.snd.snd.snd.snd.snd.snd.fst,
                  a0.snd.snd.snd.snd.snd.snd.snd.snd.snd.snd.snd.snd.snd.snd.snd.fst,
                  a0.snd.snd.snd.snd.snd.snd.snd.snd.snd.snd.snd.snd.snd.snd.snd.snd, ()),
                ())
          else
            bif a0.snd.snd.snd.snd.snd.fst then
              some
                (((), a0.snd.snd.snd.snd.snd.snd.fst, ()),
                  (a0.fst, a0.snd.fst, a0.snd.snd.fst, a0.snd.snd.snd.fst, a0.snd.snd.snd.snd.fst,
                    a0.snd.snd.snd.snd.snd.fst, a0.snd.snd.snd.snd.snd.snd.fst, a0.snd.snd.snd.snd.snd.snd.snd.fst,
                    a0.snd.snd.snd.snd.snd.snd.snd.snd.fst, a0.snd.snd.snd.snd.snd.snd.snd.snd.snd.fst,
                    a0.snd.snd.snd.snd.snd.snd.snd.snd.snd.snd.fst, a0.snd.snd.snd.snd.snd.snd.snd.snd.snd.snd.snd.fst,
                    a0.snd.snd.snd.snd.snd.snd.snd.snd.snd.snd.snd.snd.fst,
                    a0.snd.snd.snd.snd.snd.snd.snd.snd.snd.snd.snd.snd.snd.fst,
                    a0.snd.snd.snd.snd.snd.snd.snd.snd.snd.snd.snd.snd.snd.snd.fst,
                    a0.snd.snd.snd.snd.snd.snd.snd.snd.snd.snd.snd.snd.snd.snd.snd.fst,
                    a0.snd.snd.snd.snd.snd.snd.snd.snd.snd.snd.snd.snd.snd.snd.snd.snd, ()),
                  ())
            else
              some
                (((), false, ()),
                  (a0.fst, a0.snd.fst, a0.snd.snd.fst, a0.snd.snd.snd.fst, a0.snd.snd.snd.snd.fst,
                    a0.snd.snd.snd.snd.snd.fst, a0.snd.snd.snd.snd.snd.snd.fst, a0.snd.snd.snd.snd.snd.snd.snd.fst,
                    a0.snd.snd.snd.snd.snd.snd.snd.snd.fst, a0.snd.snd.snd.snd.snd.snd.snd.snd.snd.fst,
                    a0.snd.snd.snd.snd.snd.snd.snd.snd.snd.snd.fst, a0.snd.snd.snd.snd.snd.snd.snd.snd.snd.snd.snd.fst,
                    a0.snd.snd.snd.snd.snd.snd.snd.snd.snd.snd.snd.snd.fst,
                    a0.snd.snd.snd.snd.snd.snd.snd.snd.snd.snd.snd.snd.snd.fst,
                    a0.snd.snd.snd.snd.snd.snd.snd.snd.snd.snd.snd.snd.snd.snd.fst,
                    a0.snd.snd.snd.snd.snd.snd.snd.snd.snd.snd.snd.snd.snd.snd.snd.fst,
                    a0.snd.snd.snd.snd.snd.snd.snd.snd.snd.snd.snd.snd.snd.snd.snd.snd, ()),
                  ())
        else
          bif a0.snd.snd.snd.snd.snd.fst then
            some
              (((), a0.snd.snd.snd.snd.snd.snd.fst, ()),
                (a0.fst, a0.snd.fst, a0.snd.snd.fst, a0.snd.snd.snd.fst, a0.snd.snd.snd.snd.fst,
                  a0.snd.snd.snd.snd.snd.fst, a0.snd.snd.snd.snd.snd.snd.fst, a0.snd.snd.snd.snd.snd.snd.snd.fst,
                  a0.snd.snd.snd.snd.snd.snd.snd.snd.fst, a0.snd.snd.snd.snd.snd.snd.snd.snd.snd.fst,
                  a0.snd.snd.snd.snd.snd.snd.snd.snd.snd.snd.fst, a0.snd.snd.snd.snd.snd.snd.snd.snd.snd.snd.snd.fst,
                  a0.snd.snd.snd.snd.snd.snd.snd.snd.snd.snd.snd.snd.fst,
                  a0.snd.snd.snd.snd.snd.snd.snd.snd.snd.snd.snd.snd.snd.fst,
                  a0.snd.snd.snd.snd.snd.snd.snd.snd.snd.snd.snd.snd.snd.snd.fst,
                  a0.snd.snd.snd.snd.snd.snd.snd.snd.snd.snd.snd.snd.snd.snd.snd.fst,
                  a0.snd.snd.snd.snd.snd.snd.snd.snd.snd.snd.snd.snd.snd.snd.snd.snd, ()),
                ())
          else
            some
              (((), false, ()),
                (a0.fst, a0.snd.fst, a0.snd.snd.fst, a0.snd.snd.snd.fst, a0.snd.snd.snd.snd.fst,
                  a0.snd.snd.snd.snd.snd.fst, a0.snd.snd.snd.snd.snd.snd.fst, a0.snd.snd.snd.snd.snd.snd.snd.fst,
                  a0.snd.snd.snd.snd.snd.snd.snd.snd.fst, a0.snd.snd.snd.snd.snd.snd.snd.snd.snd.fst,
                  a0.snd.snd.snd.snd.snd.snd.snd.snd.snd.snd.fst, a0.snd.snd.snd.snd.snd.snd.snd.snd.snd.snd.snd.fst,
                  a0.snd.snd.snd.snd.snd.snd.snd.snd.snd.snd.snd.snd.fst,
                  a0.snd.snd.snd.snd.snd.snd.snd.snd.snd.snd.snd.snd.snd.fst,
                  a0.snd.snd.snd.snd.snd.snd.snd.snd.snd.snd.snd.snd.snd.snd.fst,
                  a0.snd.snd.snd.snd.snd.snd.snd.snd.snd.snd.snd.snd.snd.snd.snd.fst,
                  a0.snd.snd.snd.snd.snd.snd.snd.snd.snd.snd.snd.snd.snd.snd.snd.snd, ()),
                ()))
    fun
      (s :
        (Unit × Bool × Unit) ×
          (Bool ×
              Bool ×
                Bool ×
                  Bool ×
                    Bool ×
                      Bool ×
                        Bool × Bool × Bool × Bool × Bool × Bool × Bool × Int × Bool × List UInt8 × List UInt8 × Unit) ×
            Unit) =>
    bif s.fst.snd.fst then some (false, ())
    else
      bif !s.snd.fst.snd.snd.snd.snd.snd.snd.snd.snd.snd.snd.snd.snd.snd.snd.fst then
        Option.bind
          (bif s.snd.fst.snd.snd.snd.snd.snd.snd.snd.snd.snd.snd.snd.snd.snd.snd.snd.fst == nilOf UInt8 then
            some
              ((s.snd.fst.snd.snd.snd.snd.snd.snd.snd.snd.snd.snd.snd.snd.snd.snd.snd.snd.fst == nilOf UInt8, ()), ())
          else some ((false, ()), ()))
          fun (s : (Bool × Unit) × Unit) => some s.fst
      else
        Option.bind
          (Option.bind (m_spec_l11Suffix s.snd.fst.snd.snd.snd.snd.snd.snd.snd.snd.snd.snd.snd.snd.snd.snd.snd.fst)
            fun (r : Bool × Unit) =>
            bif r.fst then
              bif s.snd.fst.snd.snd.snd.snd.snd.snd.snd.snd.snd.snd.snd.snd.snd.snd.snd.snd.fst == nilOf UInt8 then
                if
                    List.length s.snd.fst.snd.snd.snd.snd.snd.snd.snd.snd.snd.snd.snd.snd.snd.snd.snd.fst +
                        List.length s.snd.fst.snd.snd.snd.snd.snd.snd.snd.snd.snd.snd.snd.snd.snd.snd.snd.snd.fst <
                      (2 : Nat) ^ (63 : Nat) then
                  some
                    ((!s.snd.fst.snd.snd.snd.snd.snd.snd.snd.snd.snd.snd.snd.snd.snd.snd.snd.fst ++
                              s.snd.fst.snd.snd.snd.snd.snd.snd.snd.snd.snd.snd.snd.snd.snd.snd.snd.snd.fst ==
                            nilOf UInt8,
                        ()),
                      ())
                else none
              else
                Option.bind
                  (m_spec_PathOk s.snd.fst.snd.snd.snd.snd.snd.snd.snd.snd.snd.snd.snd.snd.snd.snd.snd.snd.fst)
                  fun (r : Bool × Unit) =>
                  bif r.fst then
                    if
                        List.length s.snd.fst.snd.snd.snd.snd.snd.snd.snd.snd.snd.snd.snd.snd.snd.snd.snd.fst +
                            List.length s.snd.fst.snd.snd.snd.snd.snd.snd.snd.snd.snd.snd.snd.snd.snd.snd.snd.snd.fst <
                          (2 : Nat) ^ (63 : Nat) then
                      some
                        ((!s.snd.fst.snd.snd.snd.snd.snd.snd.snd.snd.snd.snd.snd.snd.snd.snd.snd.fst ++
                                  s.snd.fst.snd.snd.snd.snd.snd.snd.snd.snd.snd.snd.snd.snd.snd.snd.snd.snd.fst ==
                                nilOf UInt8,
                            ()),
                          ())
                    else none
                  else some ((false, ()), ())
            else some ((false, ()), ()))
          fun (s : (Bool × Unit) × Unit) => some s.fst
-- spec.NodeOk
def m_spec_NodeOk (a0 : (List UInt8 × (Int × (Int × (Int × (List UInt8 × (List UInt8 × Int))))))) : Option (Bool × Unit) :=
  Option.bind
    (Option.bind (m_spec_PathOk a0.fst) fun (r : Bool × Unit) =>
      bif !r.fst then
        some
          (((), true, ()),
            (a0.fst, a0.snd.fst, a0.snd.snd.fst, a0.snd.snd.snd.fst, a0.snd.snd.snd.snd.fst, a0.snd.snd.snd.snd.snd.fst,
              a0.snd.snd.snd.snd.snd.snd, ()),
            ())
      else
        Option.bind (m_spec_l01In a0.snd.snd.fst (0 : Int) (511 : Int)) fun (r : Bool × Unit) =>
          bif !r.fst then
            some
              (((), true, ()),
                (a0.fst, a0.snd.fst, a0.snd.snd.fst, a0.snd.snd.snd.fst, a0.snd.snd.snd.snd.fst,
                  a0.snd.snd.snd.snd.snd.fst, a0.snd.snd.snd.snd.snd.snd, ()),
                ())
          else
            Option.bind (m_spec_l01In a0.snd.snd.snd.fst (0 : Int) (1000000000 : Int)) fun (r : Bool × Unit) =>
              some
                (((), !r.fst, ()),
                  (a0.fst, a0.snd.fst, a0.snd.snd.fst, a0.snd.snd.snd.fst, a0.snd.snd.snd.snd.fst,
                    a0.snd.snd.snd.snd.snd.fst, a0.snd.snd.snd.snd.snd.snd, ()),
                  ()))
    fun (s : (Unit × Bool × Unit) × (List UInt8 × Int × Int × Int × List UInt8 × List UInt8 × Int × Unit) × Unit) =>
    bif s.fst.snd.fst then some (false, ())
    else
      bif s.snd.fst.snd.fst == (0 : Int) then
        Option.bind
          (bif s.snd.fst.snd.snd.snd.snd.fst == nilOf UInt8 then
            bif s.snd.fst.snd.snd.snd.snd.snd.fst == nilOf UInt8 then
              some ((s.snd.fst.snd.snd.snd.snd.snd.snd.fst == (0 : Int), ()), ())
            else some ((false, ()), ())
          else some ((false, ()), ()))
          fun (s : (Bool × Unit) × Unit) => some s.fst
      else
        bif s.snd.fst.snd.fst == (1 : Int) then
          Option.bind
            (bif decide ((↑(List.length s.snd.fst.snd.snd.snd.snd.fst) : Int) ≤ (20000 : Int)) then
              bif s.snd.fst.snd.snd.snd.snd.snd.fst == nilOf UInt8 then
                Option.bind (m_spec_l01In s.snd.fst.snd.snd.snd.snd.snd.snd.fst (0 : Int) (200 : Int))
                  fun (r : Bool × Unit) => some (r, ())
              else some ((false, ()), ())
            else some ((false, ()), ()))
            fun (s : (Bool × Unit) × Unit) => some s.fst
        else
          bif s.snd.fst.snd.fst == (2 : Int) then
            Option.bind
              (bif !s.snd.fst.snd.snd.snd.snd.fst == nilOf UInt8 then some (((), true, ()), s.snd)
              else
                bif s.snd.fst.snd.snd.fst != (0 : Int) then some (((), true, ()), s.snd)
                else
                  bif s.snd.fst.snd.snd.snd.snd.snd.snd.fst != (0 : Int) then some (((), true, ()), s.snd)
                  else
                    Option.bind
                      (m_spec_l01In (↑(List.length s.snd.fst.snd.snd.snd.snd.snd.fst) : Int) (1 : Int) (60 : Int))
                      fun (r : Bool × Unit) => some (((), !r.fst, ()), s.snd))
              fun
                (s :
                  (Unit × Bool × Unit) ×
                    (List UInt8 × Int × Int × Int × List UInt8 × List UInt8 × Int × Unit) × Unit) =>
              bif s.fst.snd.fst then some (false, ())
              else
                joinC
                  (loopC
                    (Int.toNat (0 : Int) + List.length s.snd.fst.fst + Int.toNat s.snd.fst.snd.fst +
                                Int.toNat s.snd.fst.snd.snd.fst +
                              Int.toNat s.snd.fst.snd.snd.snd.fst +
                            List.length s.snd.fst.snd.snd.snd.snd.fst +
                          List.length s.snd.fst.snd.snd.snd.snd.snd.fst +
                        Int.toNat s.snd.fst.snd.snd.snd.snd.snd.snd.fst +
                      (300 : Nat))
                    (fun
                        (s :
                          (Unit × Int × Unit) ×
                            (List UInt8 × Int × Int × Int × List UInt8 × List UInt8 × Int × Unit) × Unit)
                        (k :
                          (Unit × Int × Unit) ×
                              (List UInt8 × Int × Int × Int × List UInt8 × List UInt8 × Int × Unit) × Unit →
                            Option (Unit × Unit ⊕ Bool × Unit)) =>
                      bif decide (s.fst.snd.fst < (↑(List.length s.snd.fst.snd.snd.snd.snd.snd.fst) : Int)) then
                        if
                            (0 : Int) ≤ s.fst.snd.fst ∧
                              s.fst.snd.fst < (↑(List.length s.snd.fst.snd.snd.snd.snd.snd.fst) : Int) then
                          bif
                              (↑(UInt8.toNat
                                      (List.getD s.snd.fst.snd.snd.snd.snd.snd.fst (Int.toNat s.fst.snd.fst)
                                        (0 : UInt8))) :
                                  Int) ==
                                (10 : Int) then
                            some (Sum.inr (false, ()))
                          else k (((), IntKind.wrap IntKind.i64 (s.fst.snd.fst + (1 : Int)), ()), s.snd)
                        else none
                      else some (Sum.inl ((), ())))
                    (((), (0 : Int), ()), s.snd))
                  fun (s : Unit × Unit) => some (true, ())
          else some (false, ())
-- spec.l15Sign
def m_spec_l15Sign (a0 : Bool) (a1 : List UInt8) : Option (List UInt8 × Unit) :=
  bif a0 then some (a1, ()) else some ([(46 : UInt8)], ())
-- spec.Item
def m_spec_Item (a0 : (Int × (List UInt8 × ((List UInt8 × (Int × (Int × (Int × (List UInt8 × (List UInt8 × Int)))))) × (List UInt8 × (Int × (Int × (Int × (List UInt8 × (List UInt8 × Int)))))))))) (a1 : (Bool × (Bool × (Bool × (Bool × (Bool × (Bool × (Bool × (Bool × (Bool × (Bool × (Bool × (Bool × (Bool × (Int × (Bool × (List UInt8 × List UInt8))))))))))))))))) : Option (List UInt8 × Unit) :=
  Option.bind
    (bif a0.fst == (0 : Int) then
      some
        (((), (), (), (), ()),
          (a0.fst, a0.snd.fst, a0.snd.snd.fst.fst, a0.snd.snd.fst.snd.fst, a0.snd.snd.fst.snd.snd.fst,
            a0.snd.snd.fst.snd.snd.snd.fst, a0.snd.snd.fst.snd.snd.snd.snd.fst, a0.snd.snd.fst.snd.snd.snd.snd.snd.fst,
            a0.snd.snd.fst.snd.snd.snd.snd.snd.snd, a0.snd.snd.snd.fst, a0.snd.snd.snd.snd.fst,
            a0.snd.snd.snd.snd.snd.fst, a0.snd.snd.snd.snd.snd.snd.fst, a0.snd.snd.snd.snd.snd.snd.snd.fst,
            a0.snd.snd.snd.snd.snd.snd.snd.snd.fst, a0.snd.snd.snd.snd.snd.snd.snd.snd.snd, ()),
          (a1.fst, a1.snd.fst, a1.snd.snd.fst, a1.snd.snd.snd.fst, a1.snd.snd.snd.snd.fst, a1.snd.snd.snd.snd.snd.fst,
            a1.snd.snd.snd.snd.snd.snd.fst, a1.snd.snd.snd.snd.snd.snd.snd.fst, a1.snd.snd.snd.snd.snd.snd.snd.snd.fst,
            a1.snd.snd.snd.snd.snd.snd.snd.snd.snd.fst, a1.snd.snd.snd.snd.snd.snd.snd.snd.snd.snd.fst,
            a1.snd.snd.snd.snd.snd.snd.snd.snd.snd.snd.snd.fst, a1.snd.snd.snd.snd.snd.snd.snd.snd.snd.snd.snd.snd.fst,
            a1.snd.snd.snd.snd.snd.snd.snd.snd.snd.snd.snd.snd.snd.fst,
            a1.snd.snd.snd.snd.snd.snd.snd.snd.snd.snd.snd.snd.snd.snd.fst,
            a1.snd.snd.snd.snd.snd.snd.snd.snd.snd.snd.snd.snd.snd.snd.snd.fst,
            a1.snd.snd.snd.snd.snd.snd.snd.snd.snd.snd.snd.snd.snd.snd.snd.snd, ()),
          (a0.snd.snd.fst.fst, a0.snd.snd.fst.snd.fst, a0.snd.snd.fst.snd.snd.fst, a0.snd.snd.fst.snd.snd.snd.fst,
            a0.snd.snd.fst.snd.snd.snd.snd.fst, a0.snd.snd.fst.snd.snd.snd.snd.snd.fst,
            a0.snd.snd.fst.snd.snd.snd.snd.snd.snd, ()),
          (a0.snd.snd.fst.fst, a0.snd.snd.fst.snd.fst, a0.snd.snd.fst.snd.snd.fst, a0.snd.snd.fst.snd.snd.snd.fst,
            a0.snd.snd.fst.snd.snd.snd.snd.fst, a0.snd.snd.fst.snd.snd.snd.snd.snd.fst,
            a0.snd.snd.fst.snd.snd.snd.snd.snd.snd, ()),
          ())
    else
      some
        (((), (), (), (), ()),
          (a0.fst, a0.snd.fst, a0.snd.snd.fst.fst, a0.snd.snd.fst.snd.fst, a0.snd.snd.fst.snd.snd.fst,
            a0.snd.snd.fst.snd.snd.snd.fst, a0.snd.snd.fst.snd.snd.snd.snd.fst, a0.snd.snd.fst.snd.snd.snd.snd.snd.fst,
            a0.snd.snd.fst.snd.snd.snd.snd.snd.snd, a0.snd.snd.snd.fst, a0.snd.snd.snd.snd.fst,
            a0.snd.snd.snd.snd.snd.fst, a0.snd.snd.snd.snd.snd.snd.fst, a0.snd.snd.snd.snd.snd.snd.snd.fst,
            a0.snd.snd.snd.snd.snd.snd.snd.snd.fst, a0.snd.snd.snd.snd.snd.snd.snd.snd.snd, ()),
          (a1.fst, a1.snd.fst, a1.snd.snd.fst, a1.snd.snd.snd.fst, a1.snd.snd.snd.snd.fst, a1.snd.snd.snd.snd.snd.fst,
            a1.snd.snd.snd.snd.snd.snd.fst, a1.snd.snd.snd.snd.snd.snd.snd.fst, a1.snd.snd.snd.snd.snd.snd.snd.snd.fst,
            a1.snd.snd.snd.snd.snd.snd.snd.snd.snd.fst, a1.snd.snd.snd.snd.snd.snd.snd.snd.snd.snd.fst,
            a1.snd.snd.snd.snd.snd.snd.snd.snd.snd.snd.snd.fst, a1.snd.snd.snd.snd.snd.snd.snd.snd.snd.snd.snd.snd.fst,
            a1.snd.snd.snd.snd.snd.snd.snd.snd.snd.snd.snd.snd.snd.fst,
            a1.snd.snd.snd.snd.snd.snd.snd.snd.snd.snd.snd.snd.snd.snd.fst,
            a1.snd.snd.snd.snd.snd.snd.snd.snd.snd.snd.snd.snd.snd.snd.snd.fst,
            a1.snd.snd.snd.snd.snd.snd.snd.snd.snd.snd.snd.snd.snd.snd.snd.snd, ()),
          (a0.snd.snd.snd.fst, a0.snd.snd.snd.snd.fst, a0.snd.snd.snd.snd.snd.fst, a0.snd.snd.snd.snd.snd.snd.fst,
            a0.snd.snd.snd.snd.snd.snd.snd.fst, a0.snd.snd.snd.snd.snd.snd.snd.snd.fst,
            a0.snd.snd.snd.snd.snd.snd.snd.snd.snd, ()),
          (a0.snd.snd.fst.fst, a0.snd.snd.fst.snd.fst, a0.snd.snd.fst.snd.snd.fst, a0.snd.snd.fst.snd.snd.snd.fst,
            a0.snd.snd.fst.snd.snd.snd.snd.fst, a0.snd.snd.fst.snd.snd.snd.snd.snd.fst,
            a0.snd.snd.fst.snd.snd.snd.snd.snd.snd, ()),
          ()))
    fun
      (s :
        (Unit × Unit × Unit × Unit × Unit) ×
          (Int ×
              List UInt8 ×
                List UInt8 ×
                  Int ×
                    Int ×
                      Int ×
                        List UInt8 ×
                          List UInt8 × Int × List UInt8 × Int × Int × Int × List UInt8 × List UInt8 × Int × Unit) ×
            (Bool ×
                Bool ×
                  Bool ×
                    Bool ×
                      Bool ×
                        Bool ×
                          Bool ×
                            Bool × Bool × Bool × Bool × Bool × Bool × Int × Bool × List UInt8 × List UInt8 × Unit) ×
              (List UInt8 × Int × Int × Int × List UInt8 × List UInt8 × Int × Unit) ×
                (List UInt8 × Int × Int × Int × List UInt8 × List UInt8 × Int × Unit) × Unit) =>
    Option.bind
      (Option.bind (m_spec_l01In s.snd.fst.fst (0 : Int) (4 : Int)) fun (r : Bool × Unit) =>
        bif !r.fst then some (((), (), (), (), true, ()), s.snd)
        else
          Option.bind
            (m_spec_OptsOk
              (s.snd.snd.fst.fst, s.snd.snd.fst.snd.fst, s.snd.snd.fst.snd.snd.fst, s.snd.snd.fst.snd.snd.snd.fst,
                s.snd.snd.fst.snd.snd.snd.snd.fst, s.snd.snd.fst.snd.snd.snd.snd.snd.fst,
                s.snd.snd.fst.snd.snd.snd.snd.snd.snd.fst, s.snd.snd.fst.snd.snd.snd.snd.snd.snd.snd.fst,
                s.snd.snd.fst.snd.snd.snd.snd.snd.snd.snd.snd.fst,
                s.snd.snd.fst.snd.snd.snd.snd.snd.snd.snd.snd.snd.fst,
                s.snd.snd.fst.snd.snd.snd.snd.snd.snd.snd.snd.snd.snd.fst,
                s.snd.snd.fst.snd.snd.snd.snd.snd.snd.snd.snd.snd.snd.snd.fst,
                s.snd.snd.fst.snd.snd.snd.snd.snd.snd.snd.snd.snd.snd.snd.snd.fst,
                s.snd.snd.fst.snd.snd.snd.snd.snd.snd.snd.snd.snd.snd.snd.snd.snd.fst,
                s.snd.snd.fst.snd.snd.snd.snd.snd.snd.snd.snd.snd.snd.snd.snd.snd.snd.fst,
                s.snd.snd.fst.snd.snd.snd.snd.snd.snd.snd.snd.snd.snd.snd.snd.snd.snd.snd.fst,
                s.snd.snd.fst.snd.snd.snd.snd.snd.snd.snd.snd.snd.snd.snd.snd.snd.snd.snd.snd.fst))
            fun (r : Bool × Unit) =>
            bif !r.fst then some (((), (), (), (), true, ()), s.snd)
            else
              Option.bind
                (m_spec_NodeOk
                  (s.snd.snd.snd.fst.fst, s.snd.snd.snd.fst.snd.fst, s.snd.snd.snd.fst.snd.snd.fst,
                    s.snd.snd.snd.fst.snd.snd.snd.fst, s.snd.snd.snd.fst.snd.snd.snd.snd.fst,
                    s.snd.snd.snd.fst.snd.snd.snd.snd.snd.fst, s.snd.snd.snd.fst.snd.snd.snd.snd.snd.snd.fst))
                fun (r : Bool × Unit) => some (((), (), (), (), !r.fst, ()), s.snd))
      fun
        (s :
          (Unit × Unit × Unit × Unit × Bool × Unit) ×
            (Int ×
                List UInt8 ×
                  List UInt8 ×
                    Int ×
                      Int ×
                        Int ×
                          List UInt8 ×
                            List UInt8 × Int × List UInt8 × Int × Int × Int × List UInt8 × List UInt8 × Int × Unit) ×
              (Bool ×
                  Bool ×
                    Bool ×
                      Bool ×
                        Bool ×
                          Bool ×
                            Bool ×
                              Bool × Bool × Bool × Bool × Bool × Bool × Int × Bool × List UInt8 × List UInt8 × Unit) ×
                (List UInt8 × Int × Int × Int × List UInt8 × List UInt8 × Int × Unit) ×
                  (List UInt8 × Int × Int × Int × List UInt8 × List UInt8 × Int × Unit) × Unit) =>
      bif s.fst.snd.snd.snd.snd.fst then some (nilOf UInt8, ())
      else
        bif s.snd.fst.fst == (0 : Int) then
          some
            ([(42 : UInt8), (100 : UInt8), (101 : UInt8), (108 : UInt8), (101 : UInt8), (116 : UInt8), (105 : UInt8),
                (110 : UInt8), (103 : UInt8), (32 : UInt8), (32 : UInt8)],
              ())
        else
          Option.bind
            (bif s.snd.snd.snd.fst.snd.fst == (1 : Int) then some (((), (), (), (), [(62 : UInt8)], ()), s.snd)
            else some (((), (), (), (), [(99 : UInt8)], ()), s.snd))
            fun
              (s :
                (Unit × Unit × Unit × Unit × List UInt8 × Unit) ×
                  (Int ×
                      List UInt8 ×
                        List UInt8 ×
                          Int ×
                            Int ×
                              Int ×
                                List UInt8 ×
                                  List UInt8 ×
                                    Int × List UInt8 × Int × Int × Int × List UInt8 × List UInt8 × Int × Unit) ×
                    (Bool ×
                        Bool ×
                          Bool ×
                            Bool ×
                              Bool ×
                                Bool ×
                                  Bool ×
                                    Bool ×
                                      Bool × Bool × Bool × Bool × Bool × Int × Bool × List UInt8 × List UInt8 × Unit) ×
                      (List UInt8 × Int × Int × Int × List UInt8 × List UInt8 × Int × Unit) ×
                        (List UInt8 × Int × Int × Int × List UInt8 × List UInt8 × Int × Unit) × Unit) =>
            Option.bind
              (bif s.snd.fst.fst == (3 : Int) then some (((), (), (), (), [(46 : UInt8)], ()), s.snd)
              else some (((), (), (), (), s.fst.snd.snd.snd.snd), s.snd))
              fun
                (s :
                  (Unit × Unit × Unit × Unit × List UInt8 × Unit) ×
                    (Int ×
                        List UInt8 ×
                          List UInt8 ×
                            Int ×
                              Int ×
                                Int ×
                                  List UInt8 ×
                                    List UInt8 ×
                                      Int × List UInt8 × Int × Int × Int × List UInt8 × List UInt8 × Int × Unit) ×
                      (Bool ×
                          Bool ×
                            Bool ×
                              Bool ×
                                Bool ×
                                  Bool ×
                                    Bool ×
                                      Bool ×
                                        Bool ×
                                          Bool × Bool × Bool × Bool × Int × Bool × List UInt8 × List UInt8 × Unit) ×
                        (List UInt8 × Int × Int × Int × List UInt8 × List UInt8 × Int × Unit) ×
                          (List UInt8 × Int × Int × Int × List UInt8 × List UInt8 × Int × Unit) × Unit) =>
              if
                  (0 : Int) ≤ s.snd.snd.snd.fst.snd.fst ∧
                    s.snd.snd.snd.fst.snd.fst ≤ IntKind.wrap IntKind.i64 (s.snd.snd.snd.fst.snd.fst + (1 : Int)) ∧
                      IntKind.wrap IntKind.i64 (s.snd.snd.snd.fst.snd.fst + (1 : Int)) ≤
                        (↑(List.length [(100 : UInt8), (102 : UInt8), (76 : UInt8)]) : Int) then
                if
                    List.length s.fst.snd.snd.snd.snd.fst +
                        List.length
                          (List.drop (Int.toNat s.snd.snd.snd.fst.snd.fst)
                            (List.take (Int.toNat (IntKind.wrap IntKind.i64 (s.snd.snd.snd.fst.snd.fst + (1 : Int))))
                              [(100 : UInt8), (102 : UInt8), (76 : UInt8)])) <
                      (2 : Nat) ^ (63 : Nat) then
                  Option.bind
                    (bif s.snd.fst.fst == (1 : Int) then
                      some
                        (((), (), (),
                            s.fst.snd.snd.snd.snd.fst ++
                              List.drop (Int.toNat s.snd.snd.snd.fst.snd.fst)
                                (List.take
                                  (Int.toNat (IntKind.wrap IntKind.i64 (s.snd.snd.snd.fst.snd.fst + (1 : Int))))
                                  [(100 : UInt8), (102 : UInt8), (76 : UInt8)]),
                            true, ()),
                          s.snd.snd)
                    else
                      some
                        (((), (), (),
                            s.fst.snd.snd.snd.snd.fst ++
                              List.drop (Int.toNat s.snd.snd.snd.fst.snd.fst)
                                (List.take
                                  (Int.toNat (IntKind.wrap IntKind.i64 (s.snd.snd.snd.fst.snd.fst + (1 : Int))))
                                  [(100 : UInt8), (102 : UInt8), (76 : UInt8)]),
                            s.snd.fst.fst == (4 : Int), ()),
                          s.snd.snd))
                    fun
                      (s :
                        (Unit × Unit × Unit × List UInt8 × Bool × Unit) ×
                          (Bool ×
                              Bool ×
                                Bool ×
                                  Bool ×
                                    Bool ×
                                      Bool ×
                                        Bool ×
                                          Bool ×
                                            Bool ×
                                              Bool ×
                                                Bool × Bool × Bool × Int × Bool × List UInt8 × List UInt8 × Unit) ×
                            (List UInt8 × Int × Int × Int × List UInt8 × List UInt8 × Int × Unit) ×
                              (List UInt8 × Int × Int × Int × List UInt8 × List UInt8 × Int × Unit) × Unit) =>
                    bif s.fst.snd.snd.snd.snd.fst then
                      if
                          List.length s.fst.snd.snd.snd.fst +
                              List.length
                                [(43 : UInt8), (43 : UInt8), (43 : UInt8), (43 : UInt8), (43 : UInt8), (43 : UInt8),
                                  (43 : UInt8), (43 : UInt8), (43 : UInt8)] <
                            (2 : Nat) ^ (63 : Nat) then
                        some
                          (s.fst.snd.snd.snd.fst ++
                              [(43 : UInt8), (43 : UInt8), (43 : UInt8), (43 : UInt8), (43 : UInt8), (43 : UInt8),
                                (43 : UInt8), (43 : UInt8), (43 : UInt8)],
                            ())
                      else none
                    else
                      Option.bind
                        (Option.bind
                          (m_spec_NodeOk
                            (s.snd.snd.snd.fst.fst, s.snd.snd.snd.fst.snd.fst, s.snd.snd.snd.fst.snd.snd.fst,
                              s.snd.snd.snd.fst.snd.snd.snd.fst, s.snd.snd.snd.fst.snd.snd.snd.snd.fst,
                              s.snd.snd.snd.fst.snd.snd.snd.snd.snd.fst, s.snd.snd.snd.fst.snd.snd.snd.snd.snd.snd.fst))
                          fun (r : Bool × Unit) =>
                          bif !r.fst then some (((), (), (), s.fst.snd.snd.snd.fst, true, ()), s.snd)
                          else
                            some
                              (((), (), (), s.fst.snd.snd.snd.fst, s.snd.snd.snd.fst.snd.fst != s.snd.snd.fst.snd.fst,
                                  ()),
                                s.snd))
                        fun
                          (s :
                            (Unit × Unit × Unit × List UInt8 × Bool × Unit) ×
                              (Bool ×
                                  Bool ×
                                    Bool ×
                                      Bool ×
                                        Bool ×
                                          Bool ×
                                            Bool ×
                                              Bool ×
                                                Bool ×
                                                  Bool ×
                                                    Bool × Bool × Bool × Int × Bool × List UInt8 × List UInt8 × Unit) ×
                                (List UInt8 × Int × Int × Int × List UInt8 × List UInt8 × Int × Unit) ×
                                  (List UInt8 × Int × Int × Int × List UInt8 × List UInt8 × Int × Unit) × Unit) =>
                        bif s.fst.snd.snd.snd.snd.fst then some (nilOf UInt8, ())
                        else
                          Option.bind
                            (bif s.snd.fst.snd.snd.snd.snd.snd.fst then
                              bif !s.snd.snd.fst.snd.snd.snd.snd.fst == s.snd.snd.snd.fst.snd.snd.snd.snd.fst then
                                Option.bind (m_spec_l15Sign true [(99 : UInt8)]) fun (r : List UInt8 × Unit) =>
                                  if List.length s.fst.snd.snd.snd.fst + List.length r.fst < (2 : Nat) ^ (63 : Nat) then
                                    Option.bind
                                      (m_spec_l15Sign
                                        ((↑(List.length s.snd.snd.fst.snd.snd.snd.snd.fst) : Int) !=
                                          (↑(List.length s.snd.snd.snd.fst.snd.snd.snd.snd.fst) : Int))
                                        [(115 : UInt8)])
                                      fun (r_1 : List UInt8 × Unit) =>
                                      if
                                          List.length (s.fst.snd.snd.snd.fst ++ r.fst) + List.length r_1.fst <
                                            (2 : Nat) ^ (63 : Nat) then
                                        some (((), (), (), s.fst.snd.snd.snd.fst ++ r.fst ++ r_1.fst, ()), s.snd)
                                      else none
                                  else none
                              else
                                Option.bind
                                  (m_spec_l15Sign
                                    (!s.snd.snd.fst.snd.snd.snd.snd.snd.fst ==
                                        s.snd.snd.snd.fst.snd.snd.snd.snd.snd.fst)
                                    [(99 : UInt8)])
                                  fun (r : List UInt8 × Unit) =>
                                  if List.length s.fst.snd.snd.snd.fst + List.length r.fst < (2 : Nat) ^ (63 : Nat) then
                                    Option.bind
                                      (m_spec_l15Sign
                                        ((↑(List.length s.snd.snd.fst.snd.snd.snd.snd.fst) : Int) !=
                                          (↑(List.length s.snd.snd.snd.fst.snd.snd.snd.snd.fst) : Int))
                                        [(115 : UInt8)])
                                      fun (r_1 : List UInt8 × Unit) =>
                                      if
                                          List.length (s.fst.snd.snd.snd.fst ++ r.fst) + List.length r_1.fst <
                                            (2 : Nat) ^ (63 : Nat) then
                                        some (((), (), (), s.fst.snd.snd.snd.fst ++ r.fst ++ r_1.fst, ()), s.snd)
                                      else none
                                  else none
                            else
                              Option.bind
                                (m_spec_l15Sign
                                  (!s.snd.snd.fst.snd.snd.snd.snd.snd.fst == s.snd.snd.snd.fst.snd.snd.snd.snd.snd.fst)
                                  [(99 : UInt8)])
                                fun (r : List UInt8 × Unit) =>
                                if List.length s.fst.snd.snd.snd.fst + List.length r.fst < (2 : Nat) ^ (63 : Nat) then
                                  Option.bind
                                    (m_spec_l15Sign
                                      ((↑(List.length s.snd.snd.fst.snd.snd.snd.snd.fst) : Int) !=
                                        (↑(List.length s.snd.snd.snd.fst.snd.snd.snd.snd.fst) : Int))
                                      [(115 : UInt8)])
                                    fun (r_1 : List UInt8 × Unit) =>
                                    if
                                        List.length (s.fst.snd.snd.snd.fst ++ r.fst) + List.length r_1.fst <
                                          (2 : Nat) ^ (63 : Nat) then
                                      some (((), (), (), s.fst.snd.snd.snd.fst ++ r.fst ++ r_1.fst, ()), s.snd)
                                    else none
                                else none)
                            fun
                              (s :
                                (Unit × Unit × Unit × List UInt8 × Unit) ×
                                  (Bool ×
                                      Bool ×
                                        Bool ×
                                          Bool ×
                                            Bool ×
                                              Bool ×
                                                Bool ×
                                                  Bool ×
                                                    Bool ×
                                                      Bool ×
                                                        Bool ×
                                                          Bool × Bool × Int × Bool × List UInt8 × List UInt8 × Unit) ×
                                    (List UInt8 × Int × Int × Int × List UInt8 × List UInt8 × Int × Unit) ×
                                      (List UInt8 × Int × Int × Int × List UInt8 × List UInt8 × Int × Unit) × Unit) =>
                            Option.bind
                              (bif s.snd.fst.snd.snd.snd.fst then
                                Option.bind
                                  (m_spec_l15Sign (s.snd.snd.fst.snd.snd.snd.fst != s.snd.snd.snd.fst.snd.snd.snd.fst)
                                    [(116 : UInt8)])
                                  fun (r : List UInt8 × Unit) =>
                                  if List.length s.fst.snd.snd.snd.fst + List.length r.fst < (2 : Nat) ^ (63 : Nat) then
                                    some (((), (), s.fst.snd.snd.snd.fst ++ r.fst, ()), s.snd.snd)
                                  else none
                              else
                                Option.bind
                                  (m_spec_l15Sign (s.snd.snd.fst.snd.snd.snd.fst != s.snd.snd.snd.fst.snd.snd.snd.fst)
                                    [(84 : UInt8)])
                                  fun (r : List UInt8 × Unit) =>
                                  if List.length s.fst.snd.snd.snd.fst + List.length r.fst < (2 : Nat) ^ (63 : Nat) then
                                    some (((), (), s.fst.snd.snd.snd.fst ++ r.fst, ()), s.snd.snd)
                                  else none)
                              fun
                                (s :
                                  (Unit × Unit × List UInt8 × Unit) ×
                                    (List UInt8 × Int × Int × Int × List UInt8 × List UInt8 × Int × Unit) ×
                                      (List UInt8 × Int × Int × Int × List UInt8 × List UInt8 × Int × Unit) × Unit) =>
                              Option.bind
                                (m_spec_l15Sign (s.snd.fst.snd.snd.fst != s.snd.snd.fst.snd.snd.fst) [(112 : UInt8)])
                                fun (r : List UInt8 × Unit) =>
                                if List.length s.fst.snd.snd.fst + List.length r.fst < (2 : Nat) ^ (63 : Nat) then
                                  if
                                      List.length (s.fst.snd.snd.fst ++ r.fst) +
                                          List.length
                                            [(46 : UInt8), (46 : UInt8), (46 : UInt8), (46 : UInt8), (46 : UInt8)] <
                                        (2 : Nat) ^ (63 : Nat) then
                                    some
                                      (s.fst.snd.snd.fst ++ r.fst ++
                                          [(46 : UInt8), (46 : UInt8), (46 : UInt8), (46 : UInt8), (46 : UInt8)],
                                        ())
                                  else none
                                else none
                else none
              else none
-- spec.ItemLine
def m_spec_ItemLine (a0 : (Int × (List UInt8 × ((List UInt8 × (Int × (Int × (Int × (List UInt8 × (List UInt8 × Int)))))) × (List UInt8 × (Int × (Int × (Int × (List UInt8 × (List UInt8 × Int)))))))))) (a1 : (Bool × (Bool × (Bool × (Bool × (Bool × (Bool × (Bool × (Bool × (Bool × (Bool × (Bool × (Bool × (Bool × (Int × (Bool × (List UInt8 × List UInt8))))))))))))))))) : Option (List UInt8 × Unit) :=
  Option.bind (m_spec_Item a0 a1) fun (r : List UInt8 × Unit) =>
    bif r.fst == nilOf UInt8 then some (nilOf UInt8, ())
    else
      Option.bind
        (bif a0.fst == (0 : Int) then
          some
            (((), r.fst, (), ()),
              (a0.fst, a0.snd.fst, a0.snd.snd.fst.fst, a0.snd.snd.fst.snd.fst, a0.snd.snd.fst.snd.snd.fst,
                a0.snd.snd.fst.snd.snd.snd.fst, a0.snd.snd.fst.snd.snd.snd.snd.fst,
                a0.snd.snd.fst.snd.snd.snd.snd.snd.fst, a0.snd.snd.fst.snd.snd.snd.snd.snd.snd, a0.snd.snd.snd.fst,
                a0.snd.snd.snd.snd.fst, a0.snd.snd.snd.snd.snd.fst, a0.snd.snd.snd.snd.snd.snd.fst,
                a0.snd.snd.snd.snd.snd.snd.snd.fst, a0.snd.snd.snd.snd.snd.snd.snd.snd.fst,
                a0.snd.snd.snd.snd.snd.snd.snd.snd.snd, ()),
              (a0.snd.snd.fst.fst, a0.snd.snd.fst.snd.fst, a0.snd.snd.fst.snd.snd.fst, a0.snd.snd.fst.snd.snd.snd.fst,
                a0.snd.snd.fst.snd.snd.snd.snd.fst, a0.snd.snd.fst.snd.snd.snd.snd.snd.fst,
                a0.snd.snd.fst.snd.snd.snd.snd.snd.snd, ()),
              ())
        else
          some
            (((), r.fst, (), ()),
              (a0.fst, a0.snd.fst, a0.snd.snd.fst.fst, a0.snd.snd.fst.snd.fst, a0.snd.snd.fst.snd.snd.fst,
                a0.snd.snd.fst.snd.snd.snd.fst, a0.snd.snd.fst.snd.snd.snd.snd.fst,
                a0.snd.snd.fst.snd.snd.snd.snd.snd.fst, a0.snd.snd.fst.snd.snd.snd.snd.snd.snd, a0.snd.snd.snd.fst,
                a0.snd.snd.snd.snd.fst, a0.snd.snd.snd.snd.snd.fst, a0.snd.snd.snd.snd.snd.snd.fst,
                a0.snd.snd.snd.snd.snd.snd.snd.fst, a0.snd.snd.snd.snd.snd.snd.snd.snd.fst,
                a0.snd.snd.snd.snd.snd.snd.snd.snd.snd, ()),
              (a0.snd.snd.snd.fst, a0.snd.snd.snd.snd.fst, a0.snd.snd.snd.snd.snd.fst, a0.snd.snd.snd.snd.snd.snd.fst,
                a0.snd.snd.snd.snd.snd.snd.snd.fst, a0.snd.snd.snd.snd.snd.snd.snd.snd.fst,
                a0.snd.snd.snd.snd.snd.snd.snd.snd.snd, ()),
              ()))
        fun
          (s :
            (Unit × List UInt8 × Unit × Unit) ×
              (Int ×
                  List UInt8 ×
                    List UInt8 ×
                      Int ×
                        Int ×
                          Int ×
                            List UInt8 ×
                              List UInt8 × Int × List UInt8 × Int × Int × Int × List UInt8 × List UInt8 × Int × Unit) ×
                (List UInt8 × Int × Int × Int × List UInt8 × List UInt8 × Int × Unit) × Unit) =>
        if List.length s.fst.snd.fst + List.length [(32 : UInt8)] < (2 : Nat) ^ (63 : Nat) then
          if List.length (s.fst.snd.fst ++ [(32 : UInt8)]) + List.length s.snd.fst.snd.fst < (2 : Nat) ^ (63 : Nat) then
            Option.bind
              (bif s.snd.snd.fst.snd.fst == (0 : Int) then
                if
                    List.length (s.fst.snd.fst ++ [(32 : UInt8)] ++ s.snd.fst.snd.fst) + List.length [(47 : UInt8)] <
                      (2 : Nat) ^ (63 : Nat) then
                  some ((s.fst.snd.fst ++ [(32 : UInt8)] ++ s.snd.fst.snd.fst ++ [(47 : UInt8)], ()), ())
                else none
              else some ((s.fst.snd.fst ++ [(32 : UInt8)] ++ s.snd.fst.snd.fst, ()), ()))
              fun (s : (List UInt8 × Unit) × Unit) => some s.fst
          else none
        else none
-- spec.Items
def m_spec_Items (a0 : List (Int × (List UInt8 × ((List UInt8 × (Int × (Int × (Int × (List UInt8 × (List UInt8 × Int)))))) × (List UInt8 × (Int × (Int × (Int × (List UInt8 × (List UInt8 × Int)))))))))) (a1 : (Bool × (Bool × (Bool × (Bool × (Bool × (Bool × (Bool × (Bool × (Bool × (Bool × (Bool × (Bool × (Bool × (Int × (Bool × (List UInt8 × List UInt8))))))))))))))))) : Option (List UInt8 × Unit) :=
  bif decide ((↑(List.length a0) : Int) > (1000 : Int)) then some (nilOf UInt8, ())
  else
    Option.bind
      (loopC
        (List.length a0 + List.length (nilOf UInt8) + List.length (nilOf UInt8) + Int.toNat (0 : Int) +
                Int.toNat a1.snd.snd.snd.snd.snd.snd.snd.snd.snd.snd.snd.snd.snd.fst +
              List.length a1.snd.snd.snd.snd.snd.snd.snd.snd.snd.snd.snd.snd.snd.snd.snd.fst +
            List.length a1.snd.snd.snd.snd.snd.snd.snd.snd.snd.snd.snd.snd.snd.snd.snd.snd +
          (300 : Nat))
        (fun
            (s :
              (List
                    (Int ×
                      List UInt8 ×
                        (List UInt8 × Int × Int × Int × List UInt8 × List UInt8 × Int) ×
                          List UInt8 × Int × Int × Int × List UInt8 × List UInt8 × Int) ×
                  Unit × List UInt8 × List UInt8 × Int × Unit) ×
                (Bool ×
                    Bool ×
                      Bool ×
                        Bool ×
                          Bool ×
                            Bool ×
                              Bool ×
                                Bool ×
                                  Bool × Bool × Bool × Bool × Bool × Int × Bool × List UInt8 × List UInt8 × Unit) ×
                  Unit)
            (k :
              (List
                      (Int ×
                        List UInt8 ×
                          (List UInt8 × Int × Int × Int × List UInt8 × List UInt8 × Int) ×
                            List UInt8 × Int × Int × Int × List UInt8 × List UInt8 × Int) ×
                    Unit × List UInt8 × List UInt8 × Int × Unit) ×
                  (Bool ×
                      Bool ×
                        Bool ×
                          Bool ×
                            Bool ×
                              Bool ×
                                Bool ×
                                  Bool ×
                                    Bool × Bool × Bool × Bool × Bool × Int × Bool × List UInt8 × List UInt8 × Unit) ×
                    Unit →
                Option ((List UInt8 × List UInt8 × Unit) × Unit)) =>
          bif decide (s.fst.snd.snd.snd.snd.fst < (↑(List.length s.fst.fst) : Int)) then
            Option.bind
              (if
                  (0 : Int) ≤ s.fst.snd.snd.snd.snd.fst ∧
                    s.fst.snd.snd.snd.snd.fst < (↑(List.length s.fst.fst) : Int) then
                Option.bind
                  (m_spec_ItemLine
                    (List.getD s.fst.fst (Int.toNat s.fst.snd.snd.snd.snd.fst)
                      (Int.ofNat (nat_lit 0), nilOf UInt8,
                        (nilOf UInt8, Int.ofNat (nat_lit 0), Int.ofNat (nat_lit 0), Int.ofNat (nat_lit 0), nilOf UInt8,
                          nilOf UInt8, Int.ofNat (nat_lit 0)),
                        nilOf UInt8, Int.ofNat (nat_lit 0), Int.ofNat (nat_lit 0), Int.ofNat (nat_lit 0), nilOf UInt8,
                        nilOf UInt8, Int.ofNat (nat_lit 0)))
                    (s.snd.fst.fst, s.snd.fst.snd.fst, s.snd.fst.snd.snd.fst, s.snd.fst.snd.snd.snd.fst,
                      s.snd.fst.snd.snd.snd.snd.fst, s.snd.fst.snd.snd.snd.snd.snd.fst,
                      s.snd.fst.snd.snd.snd.snd.snd.snd.fst, s.snd.fst.snd.snd.snd.snd.snd.snd.snd.fst,
                      s.snd.fst.snd.snd.snd.snd.snd.snd.snd.snd.fst, s.snd.fst.snd.snd.snd.snd.snd.snd.snd.snd.snd.fst,
                      s.snd.fst.snd.snd.snd.snd.snd.snd.snd.snd.snd.snd.fst,
                      s.snd.fst.snd.snd.snd.snd.snd.snd.snd.snd.snd.snd.snd.fst,
                      s.snd.fst.snd.snd.snd.snd.snd.snd.snd.snd.snd.snd.snd.snd.fst,
                      s.snd.fst.snd.snd.snd.snd.snd.snd.snd.snd.snd.snd.snd.snd.snd.fst,
                      s.snd.fst.snd.snd.snd.snd.snd.snd.snd.snd.snd.snd.snd.snd.snd.snd.fst,
                      s.snd.fst.snd.snd.snd.snd.snd.snd.snd.snd.snd.snd.snd.snd.snd.snd.snd.fst,
                      s.snd.fst.snd.snd.snd.snd.snd.snd.snd.snd.snd.snd.snd.snd.snd.snd.snd.snd.fst))
                  fun (r : List UInt8 × Unit) =>
                  bif r.fst == nilOf UInt8 then some ((s.fst.fst, (), s.fst.snd.snd), s.snd)
                  else
                    Option.bind
                      (bif s.snd.fst.snd.snd.snd.snd.snd.snd.snd.snd.snd.snd.snd.snd.snd.fst == (3 : Int) then
                        if
                            (0 : Int) ≤ s.fst.snd.snd.snd.snd.fst ∧
                              s.fst.snd.snd.snd.snd.fst < (↑(List.length s.fst.fst) : Int) then
                          some
                            ((s.fst.fst, (), s.fst.snd.snd.fst, s.fst.snd.snd.snd.fst, s.fst.snd.snd.snd.snd.fst, r.fst,
                                (List.getD s.fst.fst (Int.toNat s.fst.snd.snd.snd.snd.fst)
                                      (Int.ofNat (nat_lit 0), nilOf UInt8,
                                        (nilOf UInt8, Int.ofNat (nat_lit 0), Int.ofNat (nat_lit 0),
                                          Int.ofNat (nat_lit 0), nilOf UInt8, nilOf UInt8, Int.ofNat (nat_lit 0)),
                                        nilOf UInt8, Int.ofNat (nat_lit 0), Int.ofNat (nat_lit 0),
                                        Int.ofNat (nat_lit 0), nilOf UInt8, nilOf UInt8, Int.ofNat (nat_lit 0))).fst ==
                                  (0 : Int),
                                ()),
                              s.snd)
                        else none
                      else
                        some
                          ((s.fst.fst, (), s.fst.snd.snd.fst, s.fst.snd.snd.snd.fst, s.fst.snd.snd.snd.snd.fst, r.fst,
                              false, ()),
                            s.snd))
                      fun
                        (s :
                          (List
                                (Int ×
                                  List UInt8 ×
                                    (List UInt8 × Int × Int × Int × List UInt8 × List UInt8 × Int) ×
                                      List UInt8 × Int × Int × Int × List UInt8 × List UInt8 × Int) ×
                              Unit × List UInt8 × List UInt8 × Int × List UInt8 × Bool × Unit) ×
                            (Bool ×
                                Bool ×
                                  Bool ×
                                    Bool ×
                                      Bool ×
                                        Bool ×
                                          Bool ×
                                            Bool ×
                                              Bool ×
                                                Bool ×
                                                  Bool × Bool × Bool × Int × Bool × List UInt8 × List UInt8 × Unit) ×
                              Unit) =>
                      Option.bind
                        (bif s.fst.snd.snd.snd.snd.snd.snd.fst then
                          if
                              List.length s.fst.snd.snd.snd.fst + List.length s.fst.snd.snd.snd.snd.snd.fst <
                                (2 : Nat) ^ (63 : Nat) then
                            if
                                List.length (s.fst.snd.snd.snd.fst ++ s.fst.snd.snd.snd.snd.snd.fst) +
                                    List.length [(10 : UInt8)] <
                                  (2 : Nat) ^ (63 : Nat) then
                              some
                                ((s.fst.fst, (), s.fst.snd.snd.fst,
                                    s.fst.snd.snd.snd.fst ++ s.fst.snd.snd.snd.snd.snd.fst ++ [(10 : UInt8)],
                                    s.fst.snd.snd.snd.snd.fst, ()),
                                  s.snd)
                            else none
                          else none
                        else
                          if
                              List.length s.fst.snd.snd.fst + List.length s.fst.snd.snd.snd.snd.snd.fst <
                                (2 : Nat) ^ (63 : Nat) then
                            if
                                List.length (s.fst.snd.snd.fst ++ s.fst.snd.snd.snd.snd.snd.fst) +
                                    List.length [(10 : UInt8)] <
                                  (2 : Nat) ^ (63 : Nat) then
                              some
                                ((s.fst.fst, (), s.fst.snd.snd.fst ++ s.fst.snd.snd.snd.snd.snd.fst ++ [(10 : UInt8)],
                                    s.fst.snd.snd.snd.fst, s.fst.snd.snd.snd.snd.fst, ()),
                                  s.snd)
                            else none
                          else none)
                        fun
                          (s :
                            (List
                                  (Int ×
                                    List UInt8 ×
                                      (List UInt8 × Int × Int × Int × List UInt8 × List UInt8 × Int) ×
                                        List UInt8 × Int × Int × Int × List UInt8 × List UInt8 × Int) ×
                                Unit × List UInt8 × List UInt8 × Int × Unit) ×
                              (Bool ×
                                  Bool ×
                                    Bool ×
                                      Bool ×
                                        Bool ×
                                          Bool ×
                                            Bool ×
                                              Bool ×
                                                Bool ×
                                                  Bool ×
                                                    Bool × Bool × Bool × Int × Bool × List UInt8 × List UInt8 × Unit) ×
                                Unit) =>
                        some ((s.fst.fst, (), s.fst.snd.snd), s.snd)
              else none)
              fun
                (s :
                  (List
                        (Int ×
                          List UInt8 ×
                            (List UInt8 × Int × Int × Int × List UInt8 × List UInt8 × Int) ×
                              List UInt8 × Int × Int × Int × List UInt8 × List UInt8 × Int) ×
                      Unit × List UInt8 × List UInt8 × Int × Unit) ×
                    (Bool ×
                        Bool ×
                          Bool ×
                            Bool ×
                              Bool ×
                                Bool ×
                                  Bool ×
                                    Bool ×
                                      Bool × Bool × Bool × Bool × Bool × Int × Bool × List UInt8 × List UInt8 × Unit) ×
                      Unit) =>
              k
                ((s.fst.fst, (), s.fst.snd.snd.fst, s.fst.snd.snd.snd.fst,
                    IntKind.wrap IntKind.i64 (s.fst.snd.snd.snd.snd.fst + (1 : Int)), ()),
                  s.snd)
          else some ((s.fst.snd.snd.fst, s.fst.snd.snd.snd.fst, ()), ()))
        ((a0, (), nilOf UInt8, nilOf UInt8, (0 : Int), ()),
          (a1.fst, a1.snd.fst, a1.snd.snd.fst, a1.snd.snd.snd.fst, a1.snd.snd.snd.snd.fst, a1.snd.snd.snd.snd.snd.fst,
            a1.snd.snd.snd.snd.snd.snd.fst, a1.snd.snd.snd.snd.snd.snd.snd.fst, a1.snd.snd.snd.snd.snd.snd.snd.snd.fst,
            a1.snd.snd.snd.snd.snd.snd.snd.snd.snd.fst, a1.snd.snd.snd.snd.snd.snd.snd.snd.snd.snd.fst,
            a1.snd.snd.snd.snd.snd.snd.snd.snd.snd.snd.snd.fst, a1.snd.snd.snd.snd.snd.snd.snd.snd.snd.snd.snd.snd.fst,
            a1.snd.snd.snd.snd.snd.snd.snd.snd.snd.snd.snd.snd.snd.fst,
            a1.snd.snd.snd.snd.snd.snd.snd.snd.snd.snd.snd.snd.snd.snd.fst,
            a1.snd.snd.snd.snd.snd.snd.snd.snd.snd.snd.snd.snd.snd.snd.snd.fst,
            a1.snd.snd.snd.snd.snd.snd.snd.snd.snd.snd.snd.snd.snd.snd.snd.snd, ()),
          ()))
      fun (s : (List UInt8 × List UInt8 × Unit) × Unit) =>
      if List.length s.fst.fst + List.length s.fst.snd.fst < (2 : Nat) ^ (63 : Nat) then
        some (s.fst.fst ++ s.fst.snd.fst, ())
      else none
-- impl.within
def m_impl_within (a0 : Int) (a1 : Int) (a2 : Int) : Option (Bool × Unit) :=
  Option.bind (bif decide (a0 ≥ a1) then some ((decide (a0 ≤ a2), ()), ()) else some ((false, ()), ()))
    fun (s : (Bool × PUnit) × PUnit) => some (s.fst.fst, ())
-- impl.NameOk
def m_impl_NameOk (a0 : List UInt8) : Option (Bool × Unit) :=
  joinC
    (loopC (List.length a0 + Int.toNat (↑(List.length a0) : Int) + Int.toNat (0 : Int) + (300 : Nat))
      (fun (s : (List UInt8 × Int × Int × Unit) × Unit)
          (k : (List UInt8 × Int × Int × Unit) × Unit → Option ((List UInt8 × Unit) × Unit ⊕ Bool × Unit)) =>
        bif decide (s.fst.snd.snd.fst < s.fst.snd.fst) then
          if (0 : Int) ≤ s.fst.snd.snd.fst ∧ s.fst.snd.snd.fst < (↑(List.length s.fst.fst) : Int) then
            Option.bind
              (bif
                  decide
                    ((↑(UInt8.toNat (List.getD s.fst.fst (Int.toNat s.fst.snd.snd.fst) (0 : UInt8))) : Int) ≥
                      (97 : Int)) then
                bif
                    decide
                      ((↑(UInt8.toNat (List.getD s.fst.fst (Int.toNat s.fst.snd.snd.fst) (0 : UInt8))) : Int) ≤
                        (122 : Int)) then
                  some ((s.fst.fst, s.fst.snd.fst, s.fst.snd.snd.fst, !true, ()), ())
                else
                  bif
                      decide
                        ((↑(UInt8.toNat (List.getD s.fst.fst (Int.toNat s.fst.snd.snd.fst) (0 : UInt8))) : Int) ≥
                          (65 : Int)) then
                    bif
                        decide
                          ((↑(UInt8.toNat (List.getD s.fst.fst (Int.toNat s.fst.snd.snd.fst) (0 : UInt8))) : Int) ≤
                            (90 : Int)) then
                      some ((s.fst.fst, s.fst.snd.fst, s.fst.snd.snd.fst, !true, ()), ())
                    else
                      bif
                          decide
                            ((↑(UInt8.toNat (List.getD s.fst.fst (Int.toNat s.fst.snd.snd.fst) (0 : UInt8))) : Int) ≥
                              (48 : Int)) then
                        bif
                            decide
                              ((↑(UInt8.toNat (List.getD s.fst.fst (Int.toNat s.fst.snd.snd.fst) (0 : UInt8))) : Int) ≤
                                (57 : Int)) then
                          some ((s.fst.fst, s.fst.snd.fst, s.fst.snd.snd.fst, !true, ()), ())
                        else
                          bif
                              (↑(UInt8.toNat (List.getD s.fst.fst (Int.toNat s.fst.snd.snd.fst) (0 : UInt8))) : Int) ==
                                (46 : Int) then
                            some ((s.fst.fst, s.fst.snd.fst, s.fst.snd.snd.fst, !true, ()), ())
                          else
                            bif
                                (↑(UInt8.toNat (List.getD s.fst.fst (Int.toNat s.fst.snd.snd.fst) (0 : UInt8))) :
                                    Int) ==
                                  (95 : Int) then
                              some ((s.fst.fst, s.fst.snd.fst, s.fst.snd.snd.fst, !true, ()), ())
                            else
                              some
                                ((s.fst.fst, s.fst.snd.fst, s.fst.snd.snd.fst,
                                    !(↑(UInt8.toNat (List.getD s.fst.fst (Int.toNat s.fst.snd.snd.fst) (0 : UInt8))) :
                                          Int) ==
                                        (45 : Int),
                                    ()),
                                  ())
                      else
                        bif
                            (↑(UInt8.toNat (List.getD s.fst.fst (Int.toNat s.fst.snd.snd.fst) (0 : UInt8))) : Int) ==
                              (46 : Int) then
                          some ((s.fst.fst, s.fst.snd.fst, s.fst.snd.snd.fst, !true, ()), ())
                        else
                          bif
                              (↑(UInt8.toNat (List.getD s.fst.fst (Int.toNat s.fst.snd.snd.fst) (0 : UInt8))) : Int) ==
                                (95 : Int) then
                            some ((s.fst.fst, s.fst.snd.fst, s.fst.snd.snd.fst, !true, ()), ())
                          else
                            some
                              ((s.fst.fst, s.fst.snd.fst, s.fst.snd.snd.fst,
                                  !(↑(UInt8.toNat (List.getD s.fst.fst (Int.toNat s.fst.snd.snd.fst) (0 : UInt8))) :
                                        Int) ==
                                      (45 : Int),
                                  ()),
                                ())
                  else
                    bif
                        decide
                          ((↑(UInt8.toNat (List.getD s.fst.fst (Int.toNat s.fst.snd.snd.fst) (0 : UInt8))) : Int) ≥
                            (48 : Int)) then
                      bif
                          decide
                            ((↑(UInt8.toNat (List.getD s.fst.fst (Int.toNat s.fst.snd.snd.fst) (0 : UInt8))) : Int) ≤
                              (57 : Int)) then
                        some ((s.fst.fst, s.fst.snd.fst, s.fst.snd.snd.fst, !true, ()), ())
                      else
                        bif
                            (↑(UInt8.toNat (List.getD s.fst.fst (Int.toNat s.fst.snd.snd.fst) (0 : UInt8))) : Int) ==
                              (46 : Int) then
                          some ((s.fst.fst, s.fst.snd.fst, s.fst.snd.snd.fst, !true, ()), ())
                        else
                          bif
                              (↑(UInt8.toNat (List.getD s.fst.fst (Int.toNat s.fst.snd.snd.fst) (0 : UInt8))) : Int) ==
                                (95 : Int) then
                            some ((s.fst.fst, s.fst.snd.fst, s.fst.snd.snd.fst, !true, ()), ())
                          else
                            some
                              ((s.fst.fst, s.fst.snd.fst, s.fst.snd.snd.fst,
                                  !(↑(UInt8.toNat (List.getD s.fst.fst (Int.toNat s.fst.snd.snd.fst) (0 : UInt8))) :
                                        Int) ==
                                      (45 : Int),
                                  ()),
                                ())
                    else
                      bif
                          (↑(UInt8.toNat (List.getD s.fst.fst (Int.toNat s.fst.snd.snd.fst) (0 : UInt8))) : Int) ==
                            (46 : Int) then
                        some ((s.fst.fst, s.fst.snd.fst, s.fst.snd.snd.fst, !true, ()), ())
                      else
                        bif
                            (↑(UInt8.toNat (List.getD s.fst.fst (Int.toNat s.fst.snd.snd.fst) (0 : UInt8))) : Int) ==
                              (95 : Int) then
                          some ((s.fst.fst, s.fst.snd.fst, s.fst.snd.snd.fst, !true, ()), ())
                        else
                          some
                            ((s.fst.fst, s.fst.snd.fst, s.fst.snd.snd.fst,
                                !(↑(UInt8.toNat (List.getD s.fst.fst (Int.toNat s.fst.snd.snd.fst) (0 : UInt8))) :
                                      Int) ==
                                    (45 : Int),
                                ()),
                              ())
              else
                bif
                    decide
                      ((↑(UInt8.toNat (List.getD s.fst.fst (Int.toNat s.fst.snd.snd.fst) (0 : UInt8))) : Int) ≥
                        (65 : Int)) then
                  bif
                      decide
                        ((↑(UInt8.toNat (List.getD s.fst.fst (Int.toNat s.fst.snd.snd.fst) (0 : UInt8))) : Int) ≤
                          (90 : Int)) then
                    some ((s.fst.fst, s.fst.snd.fst, s.fst.snd.snd.fst, !true, ()), ())
                  else
                    bif
                        decide
                          ((↑(UInt8.toNat (List.getD s.fst.fst (Int.toNat s.fst.snd.snd.fst) (0 : UInt8))) : Int) ≥
                            (48 : Int)) then
                      bif
                          decide
                            ((↑(UInt8.toNat (List.getD s.fst.fst (Int.toNat s.fst.snd.snd.fst) (0 : UInt8))) : Int) ≤
                              (57 : Int)) then
                        some ((s.fst.fst, s.fst.snd.fst, s.fst.snd.snd.fst, !true, ()), ())
                      else
                        bif
                            (↑(UInt8.toNat (List.getD s.fst.fst (Int.toNat s.fst.snd.snd.fst) (0 : UInt8))) : Int) ==
                              (46 : Int) then
                          some ((s.fst.fst, s.fst.snd.fst, s.fst.snd.snd.fst, !true, ()), ())
                        else
                          bif
                              (↑(UInt8.toNat (List.getD s.fst.fst (Int.toNat s.fst.snd.snd.fst) (0 : UInt8))) : Int) ==
                                (95 : Int) then
                            some ((s.fst.fst, s.fst.snd.fst, s.fst.snd.snd.fst, !true, ()), ())
                          else
                            some
                              ((s.fst.fst, s.fst.snd.fst, s.fst.snd.snd.fst,
                                  !(↑(UInt8.toNat (List.getD s.fst.fst (Int.toNat s.fst.snd.snd.fst) (0 : UInt8))) :
                                        Int) ==
                                      (45 : Int),
                                  ()),
                                ())
                    else
                      bif
                          (↑(UInt8.toNat (List.getD s.fst.fst (Int.toNat s.fst.snd.snd.fst) (0 : UInt8))) : Int) ==
                            (46 : Int) then
                        some ((s.fst.fst, s.fst.snd.fst, s.fst.snd.snd.fst, !true, ()), ())
                      else
                        bif
                            (↑(UInt8.toNat (List.getD s.fst.fst (Int.toNat s.fst.snd.snd.fst) (0 : UInt8))) : Int) ==
                              (95 : Int) then
                          some ((s.fst.fst, s.fst.snd.fst, s.fst.snd.snd.fst, !true, ()), ())
                        else
                          some
                            ((s.fst.fst, s.fst.snd.fst, s.fst.snd.snd.fst,
                                !(↑(UInt8.toNat (List.getD s.fst.fst (Int.toNat s.fst.snd.snd.fst) (0 : UInt8))) :
                                      Int) ==
                                    (45 : Int),
                                ()),
                              ())
                else
                  bif
                      decide
                        ((↑(UInt8.toNat (List.getD s.fst.fst (Int.toNat s.fst.snd.snd.fst) (0 : UInt8))) : Int) ≥
                          (48 : Int)) then
                    bif
                        decide
                          ((↑(UInt8.toNat (List.getD s.fst.fst (Int.toNat s.fst.snd.snd.fst) (0 : UInt8))) : Int) ≤
                            (57 : Int)) then
                      some ((s.fst.fst, s.fst.snd.fst, s.fst.snd.snd.fst, !true, ()), ())
                    else
                      bif
                          (↑(UInt8.toNat (List.getD s.fst.fst (Int.toNat s.fst.snd.snd.fst) (0 : UInt8))) : Int) ==
                            (46 : Int) then
                        some ((s.fst.fst, s.fst.snd.fst, s.fst.snd.snd.fst, !true, ()), ())
                      else
                        bif
                            (↑(UInt8.toNat (List.getD s.fst.fst (Int.toNat s.fst.snd.snd.fst) (0 : UInt8))) : Int) ==
                              (95 : Int) then
                          some ((s.fst.fst, s.fst.snd.fst, s.fst.snd.snd.fst, !true, ()), ())
                        else
                          some
                            ((s.fst.fst, s.fst.snd.fst, s.fst.snd.snd.fst,
                                !(↑(UInt8.toNat (List.getD s.fst.fst (Int.toNat s.fst.snd.snd.fst) (0 : UInt8))) :
                                      Int) ==
                                    (45 : Int),
                                ()),
                              ())
                  else
                    bif
                        (↑(UInt8.toNat (List.getD s.fst.fst (Int.toNat s.fst.snd.snd.fst) (0 : UInt8))) : Int) ==
                          (46 : Int) then
                      some ((s.fst.fst, s.fst.snd.fst, s.fst.snd.snd.fst, !true, ()), ())
                    else
                      bif
                          (↑(UInt8.toNat (List.getD s.fst.fst (Int.toNat s.fst.snd.snd.fst) (0 : UInt8))) : Int) ==
                            (95 : Int) then
                        some ((s.fst.fst, s.fst.snd.fst, s.fst.snd.snd.fst, !true, ()), ())
                      else
                        some
                          ((s.fst.fst, s.fst.snd.fst, s.fst.snd.snd.fst,
                              !(↑(UInt8.toNat (List.getD s.fst.fst (Int.toNat s.fst.snd.snd.fst) (0 : UInt8))) : Int) ==
                                  (45 : Int),
                              ()),
                            ()))
              fun (s : (List UInt8 × Int × Int × Bool × Unit) × Unit) =>
              bif s.fst.snd.snd.snd.fst then some (Sum.inr (false, ()))
              else k ((s.fst.fst, s.fst.snd.fst, IntKind.wrap IntKind.i64 (s.fst.snd.snd.fst + (1 : Int)), ()), ())
          else none
        else some (Sum.inl ((s.fst.fst, ()), ())))
      ((a0, (↑(List.length a0) : Int), (0 : Int), ()), ()))
    fun (s : (List UInt8 × Unit) × Unit) =>
    Option.bind
      (Option.bind (m_impl_within (↑(List.length s.fst.fst) : Int) (1 : Int) (20 : Int)) fun (r : Bool × Unit) =>
        bif r.fst then
          bif !s.fst.fst == [(46 : UInt8)] then some ((!s.fst.fst == [(46 : UInt8), (46 : UInt8)], ()), ())
          else some ((false, ()), ())
        else some ((false, ()), ()))
      fun (s : (Bool × Unit) × Unit) => some s.fst
-- impl.isSuffix
def m_impl_isSuffix (a0 : List UInt8) : Option (Bool × Unit) :=
  Option.bind
    (Option.bind (m_impl_within (↑(List.length a0) : Int) (1 : Int) (8 : Int)) fun (r : Bool × Unit) =>
      bif r.fst then
        if List.length [(120 : UInt8)] + List.length a0 < (2 : Nat) ^ (63 : Nat) then
          Option.bind (m_impl_NameOk ([(120 : UInt8)] ++ a0)) fun (r : Bool × Unit) => some (r, ())
        else none
      else some ((false, ()), ()))
    fun (s : (Bool × Unit) × Unit) => some s.fst
-- internal/bytealg.CountString
def m_bytealg_CountString (a0 : List UInt8) (a1 : Int) : Option (Int × Unit) := some ((Go.Lib.countByte a0 a1.toNat.toUInt8 : Nat), ())
-- strings.Count
def m_strings_Count (a0 : List UInt8) : Option (Int × Unit) :=
  if (0 : Int) ≤ (0 : Int) ∧ (0 : Int) < (↑(List.length [(47 : UInt8)]) : Int) then
    Option.bind
      (m_bytealg_CountString a0 (↑(UInt8.toNat (List.getD [(47 : UInt8)] (Int.toNat (0 : Int)) (0 : UInt8))) : Int))
      fun (r : Int × Unit) => some r
  else none
-- internal/bytealg.IndexByteString
def m_bytealg_IndexByteString (a0 : List UInt8) (a1 : Int) : Option (Int × Unit) := some (Go.Lib.indexByte a0 a1.toNat.toUInt8, ())
-- internal/stringslite.IndexByte
def m_stringslite_IndexByte (a0 : List UInt8) (a1 : Int) : Option (Int × Unit) :=
  Option.bind (m_bytealg_IndexByteString a0 a1) fun (r : Int × Unit) => some r
-- internal/stringslite.Index
def m_stringslite_Index (a0 : List UInt8) : Option (Int × Unit) :=
  bif [(47 : UInt8)] == a0 then some ((0 : Int), ())
  else
    if (0 : Int) ≤ (0 : Int) ∧ (0 : Int) < (↑(List.length [(47 : UInt8)]) : Int) then
      Option.bind
        (m_stringslite_IndexByte a0 (↑(UInt8.toNat (List.getD [(47 : UInt8)] (Int.toNat (0 : Int)) (0 : UInt8))) : Int))
        fun (r : Int × Unit) => some r
    else none
-- strings.Index
def m_strings_Index (a0 : List UInt8) : Option (Int × Unit) := Option.bind (m_stringslite_Index a0) fun (r : Int × Unit) => some r
-- strings.genSplit
def m_strings_genSplit (a0 : List UInt8) : Option (List (List UInt8) × Unit) :=
  Option.bind (m_strings_Count a0) fun (r : Int × Unit) =>
    if
        ((0 : Int) ≤
            if
                IntKind.wrap IntKind.i64 ((↑(List.length a0) : Int) + (1 : Int)) <
                  IntKind.wrap IntKind.i64 (r.fst + (1 : Int)) then
              IntKind.wrap IntKind.i64 ((↑(List.length a0) : Int) + (1 : Int))
            else IntKind.wrap IntKind.i64 (r.fst + (1 : Int))) ∧
          ((if
                  IntKind.wrap IntKind.i64 ((↑(List.length a0) : Int) + (1 : Int)) <
                    IntKind.wrap IntKind.i64 (r.fst + (1 : Int)) then
                IntKind.wrap IntKind.i64 ((↑(List.length a0) : Int) + (1 : Int))
              else IntKind.wrap IntKind.i64 (r.fst + (1 : Int))) ≤
              if
                  IntKind.wrap IntKind.i64 ((↑(List.length a0) : Int) + (1 : Int)) <
                    IntKind.wrap IntKind.i64 (r.fst + (1 : Int)) then
                IntKind.wrap IntKind.i64 ((↑(List.length a0) : Int) + (1 : Int))
              else IntKind.wrap IntKind.i64 (r.fst + (1 : Int))) ∧
            ((↑(16 : Nat) : Int) *
                  if
                      IntKind.wrap IntKind.i64 ((↑(List.length a0) : Int) + (1 : Int)) <
                        IntKind.wrap IntKind.i64 (r.fst + (1 : Int)) then
                    IntKind.wrap IntKind.i64 ((↑(List.length a0) : Int) + (1 : Int))
                  else IntKind.wrap IntKind.i64 (r.fst + (1 : Int))) ≤
                (140737488355328 : Int) ∧
              (if
                    IntKind.wrap IntKind.i64 ((↑(List.length a0) : Int) + (1 : Int)) <
                      IntKind.wrap IntKind.i64 (r.fst + (1 : Int)) then
                  IntKind.wrap IntKind.i64 ((↑(List.length a0) : Int) + (1 : Int))
                else IntKind.wrap IntKind.i64 (r.fst + (1 : Int))) <
                (2 : Int) ^ (62 : Nat) then
      Option.bind
        (loopC
          (List.length a0 +
                  Int.toNat
                    (IntKind.wrap IntKind.i64
                      ((if
                            IntKind.wrap IntKind.i64 ((↑(List.length a0) : Int) + (1 : Int)) <
                              IntKind.wrap IntKind.i64 (r.fst + (1 : Int)) then
                          IntKind.wrap IntKind.i64 ((↑(List.length a0) : Int) + (1 : Int))
                        else IntKind.wrap IntKind.i64 (r.fst + (1 : Int))) -
                        (1 : Int))) +
                Int.toNat (0 : Int) +
              List.length
                (List.replicate
                  (Int.toNat
                    (if
                        IntKind.wrap IntKind.i64 ((↑(List.length a0) : Int) + (1 : Int)) <
                          IntKind.wrap IntKind.i64 (r.fst + (1 : Int)) then
                      IntKind.wrap IntKind.i64 ((↑(List.length a0) : Int) + (1 : Int))
                    else IntKind.wrap IntKind.i64 (r.fst + (1 : Int))))
                  (nilOf UInt8)) +
            (300 : Nat))
          (fun (s : (List UInt8 × Unit × Unit × Int × Unit × Int × Unit) × List (List UInt8) × Unit)
              (k :
                (List UInt8 × Unit × Unit × Int × Unit × Int × Unit) × List (List UInt8) × Unit →
                  Option ((List UInt8 × Unit × Int × Unit) × List (List UInt8) × Unit)) =>
            bif decide (s.fst.snd.snd.snd.snd.snd.fst < s.fst.snd.snd.snd.fst) then
              Option.bind (m_strings_Index s.fst.fst) fun (r : Int × Unit) =>
                bif decide (r.fst < (0 : Int)) then some ((s.fst.fst, (), s.fst.snd.snd.snd.snd.snd), s.snd)
                else
                  if
                      (0 : Int) ≤ (0 : Int) ∧
                        (0 : Int) ≤ IntKind.wrap IntKind.i64 (r.fst + (0 : Int)) ∧
                          IntKind.wrap IntKind.i64 (r.fst + (0 : Int)) ≤ (↑(List.length s.fst.fst) : Int) then
                    if
                        (0 : Int) ≤ s.fst.snd.snd.snd.snd.snd.fst ∧
                          s.fst.snd.snd.snd.snd.snd.fst < (↑(List.length s.snd.fst) : Int) then
                      if Int.toNat s.fst.snd.snd.snd.snd.snd.fst < List.length s.snd.fst then
                        if
                            (0 : Int) ≤ IntKind.wrap IntKind.i64 (r.fst + (↑(List.length [(47 : UInt8)]) : Int)) ∧
                              IntKind.wrap IntKind.i64 (r.fst + (↑(List.length [(47 : UInt8)]) : Int)) ≤
                                  (↑(List.length s.fst.fst) : Int) ∧
                                (↑(List.length s.fst.fst) : Int) ≤ (↑(List.length s.fst.fst) : Int) then
                          k
                            ((List.drop
                                  (Int.toNat (IntKind.wrap IntKind.i64 (r.fst + (↑(List.length [(47 : UInt8)]) : Int))))
                                  (List.take (Int.toNat (↑(List.length s.fst.fst) : Int)) s.fst.fst),
                                (), (), s.fst.snd.snd.snd.fst, (),
                                IntKind.wrap IntKind.i64 (s.fst.snd.snd.snd.snd.snd.fst + (1 : Int)), ()),
                              List.set s.snd.fst (Int.toNat s.fst.snd.snd.snd.snd.snd.fst)
                                (List.drop (Int.toNat (0 : Int))
                                  (List.take (Int.toNat (IntKind.wrap IntKind.i64 (r.fst + (0 : Int)))) s.fst.fst)),
                              ())
                        else none
                      else none
                    else none
                  else none
            else some ((s.fst.fst, (), s.fst.snd.snd.snd.snd.snd), s.snd))
          ((a0, (), (),
              IntKind.wrap IntKind.i64
                ((if
                      IntKind.wrap IntKind.i64 ((↑(List.length a0) : Int) + (1 : Int)) <
                        IntKind.wrap IntKind.i64 (r.fst + (1 : Int)) then
                    IntKind.wrap IntKind.i64 ((↑(List.length a0) : Int) + (1 : Int))
                  else IntKind.wrap IntKind.i64 (r.fst + (1 : Int))) -
                  (1 : Int)),
              (), (0 : Int), ()),
            List.replicate
              (Int.toNat
                (if
                    IntKind.wrap IntKind.i64 ((↑(List.length a0) : Int) + (1 : Int)) <
                      IntKind.wrap IntKind.i64 (r.fst + (1 : Int)) then
                  IntKind.wrap IntKind.i64 ((↑(List.length a0) : Int) + (1 : Int))
                else IntKind.wrap IntKind.i64 (r.fst + (1 : Int))))
              (nilOf UInt8),
            ()))
        fun (s : (List UInt8 × Unit × Int × Unit) × List (List UInt8) × Unit) =>
        if (0 : Int) ≤ s.fst.snd.snd.fst ∧ s.fst.snd.snd.fst < (↑(List.length s.snd.fst) : Int) then
          if Int.toNat s.fst.snd.snd.fst < List.length s.snd.fst then
            if
                (0 : Int) ≤ (0 : Int) ∧
                  (0 : Int) ≤ IntKind.wrap IntKind.i64 (s.fst.snd.snd.fst + (1 : Int)) ∧
                    IntKind.wrap IntKind.i64 (s.fst.snd.snd.fst + (1 : Int)) ≤
                      (↑(List.length (List.set s.snd.fst (Int.toNat s.fst.snd.snd.fst) s.fst.fst)) : Int) then
              some
                (List.drop (Int.toNat (0 : Int))
                    (List.take (Int.toNat (IntKind.wrap IntKind.i64 (s.fst.snd.snd.fst + (1 : Int))))
                      (List.set s.snd.fst (Int.toNat s.fst.snd.snd.fst) s.fst.fst)),
                  ())
            else none
          else none
        else none
    else none
-- strings.Split
def m_strings_Split (a0 : List UInt8) : Option (List (List UInt8) × Unit) :=
  Option.bind (m_strings_genSplit a0) fun (r : List (List UInt8) × Unit) => some r
-- impl.Names
def m_impl_Names (a0 : List UInt8) : Option (List (List UInt8) × Unit) :=
  bif decide ((↑(List.length a0) : Int) > (168 : Int)) then some (nilOf (List UInt8), ())
  else
    Option.bind (m_strings_Split a0) fun (r : List (List UInt8) × Unit) =>
      bif decide ((↑(List.length r.fst) : Int) > (8 : Int)) then some (nilOf (List UInt8), ())
      else
        joinC
          (loopC
            (List.length r.fst + List.length r.fst + Int.toNat (↑(List.length r.fst) : Int) + Int.toNat (0 : Int) +
              (300 : Nat))
            (fun (s : (List (List UInt8) × List (List UInt8) × Int × Int × Unit) × Unit)
                (k :
                  (List (List UInt8) × List (List UInt8) × Int × Int × Unit) × Unit →
                    Option ((List (List UInt8) × Unit) × Unit ⊕ List (List UInt8) × Unit)) =>
              bif decide (s.fst.snd.snd.snd.fst < s.fst.snd.snd.fst) then
                if (0 : Int) ≤ s.fst.snd.snd.snd.fst ∧ s.fst.snd.snd.snd.fst < (↑(List.length s.fst.snd.fst) : Int) then
                  Option.bind (m_impl_NameOk (List.getD s.fst.snd.fst (Int.toNat s.fst.snd.snd.snd.fst) (nilOf UInt8)))
                    fun (r : Bool × Unit) =>
                    bif !r.fst then some (Sum.inr (nilOf (List UInt8), ()))
                    else
                      k
                        ((s.fst.fst, s.fst.snd.fst, s.fst.snd.snd.fst,
                            IntKind.wrap IntKind.i64 (s.fst.snd.snd.snd.fst + (1 : Int)), ()),
                          ())
                else none
              else some (Sum.inl ((s.fst.fst, ()), ())))
            ((r.fst, r.fst, (↑(List.length r.fst) : Int), (0 : Int), ()), ()))
          fun (s : (List (List UInt8) × Unit) × Unit) => some s.fst
-- impl.PathOk
def m_impl_PathOk (a0 : List UInt8) : Option (Bool × Unit) :=
  Option.bind (m_impl_Names a0) fun (r : List (List UInt8) × Unit) =>
    some (decide ((↑(List.length r.fst) : Int) > (0 : Int)), ())
-- impl.OptsOk
def m_impl_OptsOk (a0 : (Bool × (Bool × (Bool × (Bool × (Bool × (Bool × (Bool × (Bool × (Bool × (Bool × (Bool × (Bool × (Bool × (Int × (Bool × (List UInt8 × List UInt8))))))))))))))))) : Option (Bool × Unit) :=
  Option.bind
    (Option.bind (m_impl_within a0.snd.snd.snd.snd.snd.snd.snd.snd.snd.snd.snd.snd.snd.fst (0 : Int) (3 : Int))
      fun (r : Bool × Unit) =>
      bif !r.fst then
        some
          (((), true, ()),
            (a0.fst, a0.snd.fst, a0.snd.snd.fst, a0.snd.snd.snd.fst, a0.snd.snd.snd.snd.fst, a0.snd.snd.snd.snd.snd.fst,
              a0.snd.snd.snd.snd.snd.snd.fst, a0.snd.snd.snd.snd.snd.snd.snd.fst,
              a0.snd.snd.snd.snd.snd.snd.snd.snd.fst, a0.snd.snd.snd.snd.snd.snd.snd.snd.snd.fst,
              a0.snd.snd.snd.snd.snd.snd.snd.snd.snd.snd.fst, a0.snd.snd.snd.snd.snd.snd.snd.snd.snd.snd.snd.fst,
              a0.snd.snd.snd.snd.snd.snd.snd.snd.snd.snd.snd.snd.fst,
              a0.snd.snd.snd.snd.snd.snd.snd.snd.snd.snd.snd.snd.snd.fst,
              a0.snd.snd.snd.snd.snd.snd.snd.snd.snd.snd.snd.snd.snd.snd.fst,
              a0.snd.snd.snd.snd.snd.snd.snd.snd.snd.snd.snd.snd.snd.snd.snd.fst,
              a0.snd.snd.snd.snd.snd.snd.snd.snd.snd.snd.snd.snd.snd.snd.snd.snd, ()),
            ())
      else
        bif a0.snd.snd.snd.snd.snd.snd.snd.snd.snd.snd.snd.snd.snd.fst != (0 : Int) then
          bif !a0.fst then
            some
              (((), true, ()),
                (a0.fst, a0.snd.fst, a0.snd.snd.fst, a0.snd.snd.snd.fst, a0.snd.snd.snd.snd.fst,
                  a0.snd.snd.snd.snd.snd.fst, a0.snd.snd.snd.snd.snd.snd.fst, a0.snd.snd.snd.snd.snd.snd.snd.fst,
                  a0.snd.snd.snd.snd.snd.snd.snd.snd.fst, a0.snd.snd.snd.snd.snd.snd.snd.snd.snd.fst,
                  a0.snd.snd.snd.snd.snd.snd.snd.snd.snd.snd.fst, a0.snd.snd.snd.snd.snd.snd.snd.snd.snd.snd.snd.fst,
                  a0.snd.snd.snd.snd.snd.snd.snd.snd.snd.snd.snd.snd.fst,
                  a0.snd.snd.snd.snd.snd.snd.snd.snd.snd.snd.snd.snd.snd.fst,
                  a0.snd.snd.snd.snd.snd.snd.snd.snd.snd.snd.snd.snd.snd.snd.fst,
                  a0.snd.snd.snd.snd.snd.snd.snd.snd.snd.snd.snd.snd.snd.snd.snd.fst,
                  a0.snd.snd.snd.snd.snd.snd.snd.snd.snd.snd.snd.snd.snd.snd.snd.snd, ()),
                ())
          else
            bif a0.snd.snd.snd.snd.snd.fst then
              some
                (((), a0.snd.snd.snd.snd.snd.snd.fst, ()),
                  (a0.fst, a0.snd.fst, a0.snd.snd.fst, a0.snd.snd.snd.fst, a0.snd.snd.snd.snd.fst,
                    a0.snd.snd.snd.snd.snd.fst, a0.snd.snd.snd.snd.snd.snd.fst, a0.snd.snd.snd.snd.snd.snd.snd.fst,
                    a0.snd.snd.snd.snd.snd.snd.snd.snd.fst, a0.snd.snd.snd.snd.snd.snd.snd.snd.snd.fst,
                    a0.snd.snd.snd.snd.snd.snd.snd.snd.snd.snd.fst, a0.snd.snd.snd.snd.snd.snd.snd.snd.snd.snd.snd.fst,
                    a0.snd.snd.snd.snd.snd.snd.snd.snd.snd.snd.snd.snd.fst,
                    a0.snd.snd.snd.snd.snd.snd.snd.snd.snd.snd.snd.snd.snd.fst,
                    a0.snd.snd.snd.snd.snd.snd.snd.snd.snd.snd.snd.snd.snd.snd.fst,
                    a0.snd.snd.snd.snd.snd.snd.snd.snd.snd.snd.snd.snd.snd.snd.snd.fst,
                    a0.snd.snd.snd.snd.snd.snd.snd.snd.snd.snd.snd.snd.snd.snd.snd.snd, ()),
                  ())
            else
              some
                (((), false, ()),
                  (a0.fst, a0.snd.fst, a0.snd.snd.fst, a0.snd.snd.snd.fst, a0.snd.snd.snd.snd.fst,
                    a0.snd.snd.snd.snd.snd.fst, a0.snd.snd.snd.snd.snd.snd.fst, a0.snd.snd.snd.snd.snd.snd.snd.fst,
                    a0.snd.snd.snd.snd.snd.snd.snd.snd.fst, a0.snd.snd.snd.snd.snd.snd.snd.snd.snd.fst,
                    a0.snd.snd.snd.snd.snd.snd.snd.snd.snd.snd.fst, a0.snd.snd.snd.snd.snd.snd.snd.snd.snd.snd.snd.fst,
                    a0.snd.snd.snd.snd.snd.snd.snd.snd.snd.snd.snd.snd.fst,
                    a0.snd.snd.snd.snd.snd.snd.snd.snd.snd.snd.snd.snd.snd.fst,
                    a0.snd.snd.snd.snd.snd.snd.snd.snd.snd.snd.snd.snd.snd.snd.fst,
                    a0.snd.snd.snd.snd.snd.snd.snd.snd.snd.snd.snd.snd.snd.snd.snd.fst,
                    a0.snd.snd.snd.snd.snd.snd.snd.snd.snd.snd.snd.snd.snd.snd.snd.snd, ()),
                  ())
        else
          bif a0.snd.snd.snd.snd.snd.fst then
            some
              (((), a0.snd.snd.snd.snd.snd.snd.fst, ()),
                (a0.fst, a0.snd.fst, a0.snd.snd.fst, a0.snd.snd.snd.fst, a0.snd.snd.snd.snd.fst,
                  a0.snd.snd.snd.snd.snd.fst, a0.snd.snd.snd.snd.snd.snd.fst, a0.snd.snd.snd.snd.snd.snd.snd.fst,
                  a0.snd.snd.snd.snd.snd.snd.snd.snd.fst, a0.snd.snd.snd.snd.snd.snd.snd.snd.snd.fst,
                  a0.snd.snd.snd.snd.snd.snd.snd.snd.snd.snd.fst, a0.snd.snd.snd.snd.snd.snd.snd.snd.snd.snd.snd.fst,
                  a0.snd.snd.snd.snd.snd.snd.snd.snd.snd.snd.snd.snd.fst,
                  a0.snd.snd.snd.snd.snd.snd.snd.snd.snd.snd.snd.snd.snd.fst,
                  a0.snd.snd.snd.snd.snd.snd.snd.snd.snd.snd.snd.snd.snd.snd.fst,
                  a0.snd.snd.snd.snd.snd.snd.snd.snd.snd.snd.snd.snd.snd.snd.snd.fst,
                  a0.snd.snd.snd.snd.snd.snd.snd.snd.snd.snd.snd.snd.snd.snd.snd.snd, ()),
                ())
          else
            some
              (((), false, ()),
                (a0.fst, a0.snd.fst, a0.snd.snd.fst, a0.snd.snd.snd.fst, a0.snd.snd.snd.snd.fst,
                  a0.snd.snd.snd.snd.snd.fst, a0.snd.snd.snd.snd.snd.snd.fst, a0.snd.snd.snd.snd.snd.snd.snd.fst,
                  a0.snd.snd.snd.snd.snd.snd.snd.snd.fst, a0.snd.snd.snd.snd.snd.snd.snd.snd.snd.fst,
                  a0.snd.snd.snd.snd.snd.snd.snd.snd.snd.snd.fst, a0.snd.snd.snd.snd.snd.snd.snd.snd.snd.snd.snd.fst,
                  a0.snd.snd.snd.snd.snd.snd.snd.snd.snd.snd.snd.snd.fst,
                  a0.snd.snd.snd.snd.snd.snd.snd.snd.snd.snd.snd.snd.snd.fst,
                  a0.snd.snd.snd.snd.snd.snd.snd.snd.snd.snd.snd.snd.snd.snd.fst,
                  a0.snd.snd.snd.snd.snd.snd.snd.snd.snd.snd.snd.snd.snd.snd.snd.fst,
                  a0.snd.snd.snd.snd.snd.snd.snd.snd.snd.snd.snd.snd.snd.snd.snd.snd, ()),
                ()))
    fun
      (s :
        (Unit × Bool × Unit) ×
          (Bool ×
              Bool ×
                Bool ×
                  Bool ×
                    Bool ×
                      Bool ×
                        Bool × Bool × Bool × Bool × Bool × Bool × Bool × Int × Bool × List UInt8 × List UInt8 × Unit) ×
            Unit) =>
    bif s.fst.snd.fst then some (false, ())
    else
      bif !s.snd.fst.snd.snd.snd.snd.snd.snd.snd.snd.snd.snd.snd.snd.snd.snd.fst then
        Option.bind
          (bif s.snd.fst.snd.snd.snd.snd.snd.snd.snd.snd.snd.snd.snd.snd.snd.snd.snd.fst == nilOf UInt8 then
            some
              ((s.snd.fst.snd.snd.snd.snd.snd.snd.snd.snd.snd.snd.snd.snd.snd.snd.snd.snd.fst == nilOf UInt8, ()), ())
          else some ((false, ()), ()))
          fun (s : (Bool × Unit) × Unit) => some s.fst
      else
        Option.bind
          (bif s.snd.fst.snd.snd.snd.snd.snd.snd.snd.snd.snd.snd.snd.snd.snd.snd.snd.fst == nilOf UInt8 then
            bif s.snd.fst.snd.snd.snd.snd.snd.snd.snd.snd.snd.snd.snd.snd.snd.snd.snd.snd.fst == nilOf UInt8 then
              bif !s.snd.fst.snd.snd.snd.snd.snd.snd.snd.snd.snd.snd.snd.snd.snd.snd.snd.fst == nilOf UInt8 then
                some ((true, ()), ())
              else
                some
                  ((!s.snd.fst.snd.snd.snd.snd.snd.snd.snd.snd.snd.snd.snd.snd.snd.snd.snd.snd.fst == nilOf UInt8, ()),
                    ())
            else
              Option.bind (m_impl_PathOk s.snd.fst.snd.snd.snd.snd.snd.snd.snd.snd.snd.snd.snd.snd.snd.snd.snd.snd.fst)
                fun (r : Bool × Unit) =>
                bif r.fst then
                  bif !s.snd.fst.snd.snd.snd.snd.snd.snd.snd.snd.snd.snd.snd.snd.snd.snd.snd.fst == nilOf UInt8 then
                    some ((true, ()), ())
                  else
                    some
                      ((!s.snd.fst.snd.snd.snd.snd.snd.snd.snd.snd.snd.snd.snd.snd.snd.snd.snd.snd.fst == nilOf UInt8,
                          ()),
                        ())
                else some ((false, ()), ())
          else
            Option.bind (m_impl_isSuffix s.snd.fst.snd.snd.snd.snd.snd.snd.snd.snd.snd.snd.snd.snd.snd.snd.snd.fst)
              fun (r : Bool × Unit) =>
              bif r.fst then
                bif s.snd.fst.snd.snd.snd.snd.snd.snd.snd.snd.snd.snd.snd.snd.snd.snd.snd.snd.fst == nilOf UInt8 then
                  bif !s.snd.fst.snd.snd.snd.snd.snd.snd.snd.snd.snd.snd.snd.snd.snd.snd.snd.fst == nilOf UInt8 then
                    some ((true, ()), ())
                  else
                    some
                      ((!s.snd.fst.snd.snd.snd.snd.snd.snd.snd.snd.snd.snd.snd.snd.snd.snd.snd.snd.fst == nilOf UInt8,
                          ()),
                        ())
                else
                  Option.bind
                    (m_impl_PathOk s.snd.fst.snd.snd.snd.snd.snd.snd.snd.snd.snd.snd.snd.snd.snd.snd.snd.snd.fst)
                    fun (r : Bool × Unit) =>
                    bif r.fst then
                      bif !s.snd.fst.snd.snd.snd.snd.snd.snd.snd.snd.snd.snd.snd.snd.snd.snd.snd.fst == nilOf UInt8 then
                        some ((true, ()), ())
                      else
                        some
                          ((!s.snd.fst.snd.snd.snd.snd.snd.snd.snd.snd.snd.snd.snd.snd.snd.snd.snd.snd.fst ==
                                  nilOf UInt8,
                              ()),
                            ())
                    else some ((false, ()), ())
              else some ((false, ()), ()))
          fun (s : (Bool × Unit) × Unit) => some s.fst
-- (impl.Change).thing
def m_impl_Change_thing (a0 : (Int × (List UInt8 × ((List UInt8 × (Int × (Int × (Int × (List UInt8 × (List UInt8 × Int)))))) × (List UInt8 × (Int × (Int × (Int × (List UInt8 × (List UInt8 × Int)))))))))) : Option ((List UInt8 × (Int × (Int × (Int × (List UInt8 × (List UInt8 × Int)))))) × Unit) :=
  bif a0.fst == (0 : Int) then some (a0.snd.snd.fst, ()) else some (a0.snd.snd.snd, ())
-- internal/stringslite.Index
def m_stringslite_Index_2 (a0 : List UInt8) : Option (Int × Unit) :=
  bif [(10 : UInt8)] == a0 then some ((0 : Int), ())
  else
    if (0 : Int) ≤ (0 : Int) ∧ (0 : Int) < (↑(List.length [(10 : UInt8)]) : Int) then
      Option.bind
        (m_stringslite_IndexByte a0 (↑(UInt8.toNat (List.getD [(10 : UInt8)] (Int.toNat (0 : Int)) (0 : UInt8))) : Int))
        fun (r : Int × Unit) => some r
    else none
-- strings.Index
def m_strings_Index_2 (a0 : List UInt8) : Option (Int × Unit) := Option.bind (m_stringslite_Index_2 a0) fun (r : Int × Unit) => some r
-- strings.Contains
def m_strings_Contains (a0 : List UInt8) : Option (Bool × Unit) :=
  Option.bind (m_strings_Index_2 a0) fun (r : Int × Unit) => some (decide (r.fst ≥ (0 : Int)), ())
-- impl.NodeOk
def m_impl_NodeOk (a0 : (List UInt8 × (Int × (Int × (Int × (List UInt8 × (List UInt8 × Int))))))) : Option (Bool × Unit) :=
  Option.bind
    (Option.bind (m_impl_PathOk a0.fst) fun (r : Bool × Unit) =>
      bif !r.fst then
        some
          (((), true, ()),
            (a0.fst, a0.snd.fst, a0.snd.snd.fst, a0.snd.snd.snd.fst, a0.snd.snd.snd.snd.fst, a0.snd.snd.snd.snd.snd.fst,
              a0.snd.snd.snd.snd.snd.snd, ()),
            ())
      else
        Option.bind (m_impl_within a0.snd.snd.fst (0 : Int) (511 : Int)) fun (r : Bool × Unit) =>
          bif !r.fst then
            some
              (((), true, ()),
                (a0.fst, a0.snd.fst, a0.snd.snd.fst, a0.snd.snd.snd.fst, a0.snd.snd.snd.snd.fst,
                  a0.snd.snd.snd.snd.snd.fst, a0.snd.snd.snd.snd.snd.snd, ()),
                ())
          else
            Option.bind (m_impl_within a0.snd.snd.snd.fst (0 : Int) (1000000000 : Int)) fun (r : Bool × Unit) =>
              some
                (((), !r.fst, ()),
                  (a0.fst, a0.snd.fst, a0.snd.snd.fst, a0.snd.snd.snd.fst, a0.snd.snd.snd.snd.fst,
                    a0.snd.snd.snd.snd.snd.fst, a0.snd.snd.snd.snd.snd.snd, ()),
                  ()))
    fun (s : (Unit × Bool × Unit) × (List UInt8 × Int × Int × Int × List UInt8 × List UInt8 × Int × Unit) × Unit) =>
    bif s.fst.snd.fst then some (false, ())
    else
      bif s.snd.fst.snd.fst == (0 : Int) then
        Option.bind
          (bif s.snd.fst.snd.snd.snd.snd.fst == nilOf UInt8 then
            bif s.snd.fst.snd.snd.snd.snd.snd.fst == nilOf UInt8 then
              some ((s.snd.fst.snd.snd.snd.snd.snd.snd.fst == (0 : Int), ()), ())
            else some ((false, ()), ())
          else some ((false, ()), ()))
          fun (s : (Bool × Unit) × Unit) => some s.fst
      else
        bif s.snd.fst.snd.fst == (1 : Int) then
          Option.bind
            (bif decide ((↑(List.length s.snd.fst.snd.snd.snd.snd.fst) : Int) ≤ (20000 : Int)) then
              bif s.snd.fst.snd.snd.snd.snd.snd.fst == nilOf UInt8 then
                Option.bind (m_impl_within s.snd.fst.snd.snd.snd.snd.snd.snd.fst (0 : Int) (200 : Int))
                  fun (r : Bool × Unit) => some (r, ())
              else some ((false, ()), ())
            else some ((false, ()), ()))
            fun (s : (Bool × Unit) × Unit) => some s.fst
        else
          bif s.snd.fst.snd.fst == (2 : Int) then
            Option.bind
              (bif s.snd.fst.snd.snd.snd.snd.fst == nilOf UInt8 then
                bif s.snd.fst.snd.snd.fst == (0 : Int) then
                  bif s.snd.fst.snd.snd.snd.snd.snd.snd.fst == (0 : Int) then
                    Option.bind
                      (m_impl_within (↑(List.length s.snd.fst.snd.snd.snd.snd.snd.fst) : Int) (1 : Int) (60 : Int))
                      fun (r : Bool × Unit) =>
                      bif r.fst then
                        Option.bind (m_strings_Contains s.snd.fst.snd.snd.snd.snd.snd.fst) fun (r : Bool × Unit) =>
                          some ((!r.fst, ()), ())
                      else some ((false, ()), ())
                  else some ((false, ()), ())
                else some ((false, ()), ())
              else some ((false, ()), ()))
              fun (s : (Bool × Unit) × Unit) => some s.fst
          else some (false, ())
-- strings.Repeat
def m_strings_Repeat (a0 : List UInt8) (a1 : Int) : Option (List UInt8 × Unit) := repeatM a0 a1
-- impl.sign
def m_impl_sign (a0 : Bool) (a1 : List UInt8) : Option (List UInt8 × Unit) :=
  bif a0 then some (a1, ()) else some ([(46 : UInt8)], ())
-- impl.item
def m_impl_item (a0 : (Int × (List UInt8 × ((List UInt8 × (Int × (Int × (Int × (List UInt8 × (List UInt8 × Int)))))) × (List UInt8 × (Int × (Int × (Int × (List UInt8 × (List UInt8 × Int)))))))))) (a1 : (Bool × (Bool × (Bool × (Bool × (Bool × (Bool × (Bool × (Bool × (Bool × (Bool × (Bool × (Bool × (Bool × (Int × (Bool × (List UInt8 × List UInt8))))))))))))))))) : Option (List UInt8 × Unit) :=
  bif a0.fst == (0 : Int) then
    some
      ([(42 : UInt8), (100 : UInt8), (101 : UInt8), (108 : UInt8), (101 : UInt8), (116 : UInt8), (105 : UInt8),
          (110 : UInt8), (103 : UInt8), (32 : UInt8), (32 : UInt8)],
        ())
  else
    Option.bind
      (bif a0.fst == (3 : Int) then
        some
          (((), (), (), (), [(46 : UInt8)], ()),
            (a0.fst, a0.snd.fst, a0.snd.snd.fst.fst, a0.snd.snd.fst.snd.fst, a0.snd.snd.fst.snd.snd.fst,
              a0.snd.snd.fst.snd.snd.snd.fst, a0.snd.snd.fst.snd.snd.snd.snd.fst,
              a0.snd.snd.fst.snd.snd.snd.snd.snd.fst, a0.snd.snd.fst.snd.snd.snd.snd.snd.snd, a0.snd.snd.snd.fst,
              a0.snd.snd.snd.snd.fst, a0.snd.snd.snd.snd.snd.fst, a0.snd.snd.snd.snd.snd.snd.fst,
              a0.snd.snd.snd.snd.snd.snd.snd.fst, a0.snd.snd.snd.snd.snd.snd.snd.snd.fst,
              a0.snd.snd.snd.snd.snd.snd.snd.snd.snd, ()),
            (a1.fst, a1.snd.fst, a1.snd.snd.fst, a1.snd.snd.snd.fst, a1.snd.snd.snd.snd.fst, a1.snd.snd.snd.snd.snd.fst,
              a1.snd.snd.snd.snd.snd.snd.fst, a1.snd.snd.snd.snd.snd.snd.snd.fst,
              a1.snd.snd.snd.snd.snd.snd.snd.snd.fst, a1.snd.snd.snd.snd.snd.snd.snd.snd.snd.fst,
              a1.snd.snd.snd.snd.snd.snd.snd.snd.snd.snd.fst, a1.snd.snd.snd.snd.snd.snd.snd.snd.snd.snd.snd.fst,
              a1.snd.snd.snd.snd.snd.snd.snd.snd.snd.snd.snd.snd.fst,
              a1.snd.snd.snd.snd.snd.snd.snd.snd.snd.snd.snd.snd.snd.fst,
              a1.snd.snd.snd.snd.snd.snd.snd.snd.snd.snd.snd.snd.snd.snd.fst,
              a1.snd.snd.snd.snd.snd.snd.snd.snd.snd.snd.snd.snd.snd.snd.snd.fst,
              a1.snd.snd.snd.snd.snd.snd.snd.snd.snd.snd.snd.snd.snd.snd.snd.snd, ()),
            (a0.snd.snd.snd.fst, a0.snd.snd.snd.snd.fst, a0.snd.snd.snd.snd.snd.fst, a0.snd.snd.snd.snd.snd.snd.fst,
              a0.snd.snd.snd.snd.snd.snd.snd.fst, a0.snd.snd.snd.snd.snd.snd.snd.snd.fst,
              a0.snd.snd.snd.snd.snd.snd.snd.snd.snd, ()),
            (a0.snd.snd.fst.fst, a0.snd.snd.fst.snd.fst, a0.snd.snd.fst.snd.snd.fst, a0.snd.snd.fst.snd.snd.snd.fst,
              a0.snd.snd.fst.snd.snd.snd.snd.fst, a0.snd.snd.fst.snd.snd.snd.snd.snd.fst,
              a0.snd.snd.fst.snd.snd.snd.snd.snd.snd, ()),
            ())
      else
        Option.bind
          (bif a0.snd.snd.snd.snd.fst == (1 : Int) then
            some
              (((), (), (), (), [(62 : UInt8)], ()),
                (a0.fst, a0.snd.fst, a0.snd.snd.fst.fst, a0.snd.snd.fst.snd.fst, a0.snd.snd.fst.snd.snd.fst,
                  a0.snd.snd.fst.snd.snd.snd.fst, a0.snd.snd.fst.snd.snd.snd.snd.fst,
                  a0.snd.snd.fst.snd.snd.snd.snd.snd.fst, a0.snd.snd.fst.snd.snd.snd.snd.snd.snd, a0.snd.snd.snd.fst,
                  a0.snd.snd.snd.snd.fst, a0.snd.snd.snd.snd.snd.fst, a0.snd.snd.snd.snd.snd.snd.fst,
                  a0.snd.snd.snd.snd.snd.snd.snd.fst, a0.snd.snd.snd.snd.snd.snd.snd.snd.fst,
                  a0.snd.snd.snd.snd.snd.snd.snd.snd.snd, ()),
                (a1.fst, a1.snd.fst, a1.snd.snd.fst, a1.snd.snd.snd.fst, a1.snd.snd.snd.snd.fst,
                  a1.snd.snd.snd.snd.snd.fst, a1.snd.snd.snd.snd.snd.snd.fst, a1.snd.snd.snd.snd.snd.snd.snd.fst,
                  a1.snd.snd.snd.snd.snd.snd.snd.snd.fst, a1.snd.snd.snd.snd.snd.snd.snd.snd.snd.fst,
                  a1.snd.snd.snd.snd.snd.snd.snd.snd.snd.snd.fst, a1.snd.snd.snd.snd.snd.snd.snd.snd.snd.snd.snd.fst,
                  a1.snd.snd.snd.snd.snd.snd.snd.snd.snd.snd.snd.snd.fst,
                  a1.snd.snd.snd.snd.snd.snd.snd.snd.snd.snd.snd.snd.snd.fst,
                  a1.snd.snd.snd.snd.snd.snd.snd.snd.snd.snd.snd.snd.snd.snd.fst,
                  a1.snd.snd.snd.snd.snd.snd.snd.snd.snd.snd.snd.snd.snd.snd.snd.fst,
                  a1.snd.snd.snd.snd.snd.snd.snd.snd.snd.snd.snd.snd.snd.snd.snd.snd, ()),
                (a0.snd.snd.snd.fst, a0.snd.snd.snd.snd.fst, a0.snd.snd.snd.snd.snd.fst, a0.snd.snd.snd.snd.snd.snd.fst,
                  a0.snd.snd.snd.snd.snd.snd.snd.fst, a0.snd.snd.snd.snd.snd.snd.snd.snd.fst,
                  a0.snd.snd.snd.snd.snd.snd.snd.snd.snd, ()),
                (a0.snd.snd.fst.fst, a0.snd.snd.fst.snd.fst, a0.snd.snd.fst.snd.snd.fst, a0.snd.snd.fst.snd.snd.snd.fst,
                  a0.snd.snd.fst.snd.snd.snd.snd.fst, a0.snd.snd.fst.snd.snd.snd.snd.snd.fst,
                  a0.snd.snd.fst.snd.snd.snd.snd.snd.snd, ()),
                ())
          else
            some
              (((), (), (), (), [(99 : UInt8)], ()),
                (a0.fst, a0.snd.fst, a0.snd.snd.fst.fst, a0.snd.snd.fst.snd.fst, a0.snd.snd.fst.snd.snd.fst,
                  a0.snd.snd.fst.snd.snd.snd.fst, a0.snd.snd.fst.snd.snd.snd.snd.fst,
                  a0.snd.snd.fst.snd.snd.snd.snd.snd.fst, a0.snd.snd.fst.snd.snd.snd.snd.snd.snd, a0.snd.snd.snd.fst,
                  a0.snd.snd.snd.snd.fst, a0.snd.snd.snd.snd.snd.fst, a0.snd.snd.snd.snd.snd.snd.fst,
                  a0.snd.snd.snd.snd.snd.snd.snd.fst, a0.snd.snd.snd.snd.snd.snd.snd.snd.fst,
                  a0.snd.snd.snd.snd.snd.snd.snd.snd.snd, ()),
                (a1.fst, a1.snd.fst, a1.snd.snd.fst, a1.snd.snd.snd.fst, a1.snd.snd.snd.snd.fst,
                  a1.snd.snd.snd.snd.snd.fst, a1.snd.snd.snd.snd.snd.snd.fst, a1.snd.snd.snd.snd.snd.snd.snd.fst,
                  a1.snd.snd.snd.snd.snd.snd.snd.snd.fst, a1.snd.snd.snd.snd.snd.snd.snd.snd.snd.fst,
                  a1.snd.snd.snd.snd.snd.snd.snd.snd.snd.snd.fst, a1.snd.snd.snd.snd.snd.snd.snd.snd.snd.snd.snd.fst,
                  a1.snd.snd.snd.snd.snd.snd.snd.snd.snd.snd.snd.snd.fst,
                  a1.snd.snd.snd.snd.snd.snd.snd.snd.snd.snd.snd.snd.snd.fst,
                  a1.snd.snd.snd.snd.snd.snd.snd.snd.snd.snd.snd.snd.snd.snd.fst,
                  a1.snd.snd.snd.snd.snd.snd.snd.snd.snd.snd.snd.snd.snd.snd.snd.fst,
                  a1.snd.snd.snd.snd.snd.snd.snd.snd.snd.snd.snd.snd.snd.snd.snd.snd, ()),
                (a0.snd.snd.snd.fst, a0.snd.snd.snd.snd.fst, a0.snd.snd.snd.snd.snd.fst, a0.snd.snd.snd.snd.snd.snd.fst,
                  a0.snd.snd.snd.snd.snd.snd.snd.fst, a0.snd.snd.snd.snd.snd.snd.snd.snd.fst,
                  a0.snd.snd.snd.snd.snd.snd.snd.snd.snd, ()),
                (a0.snd.snd.fst.fst, a0.snd.snd.fst.snd.fst, a0.snd.snd.fst.snd.snd.fst, a0.snd.snd.fst.snd.snd.snd.fst,
                  a0.snd.snd.fst.snd.snd.snd.snd.fst, a0.snd.snd.fst.snd.snd.snd.snd.snd.fst,
                  a0.snd.snd.fst.snd.snd.snd.snd.snd.snd, ()),
                ()))
          fun
            (s :
              (Unit × Unit × Unit × Unit × List UInt8 × Unit) ×
                (Int ×
                    List UInt8 ×
                      List UInt8 ×
                        Int ×
                          Int ×
                            Int ×
                              List UInt8 ×
                                List UInt8 ×
                                  Int × List UInt8 × Int × Int × Int × List UInt8 × List UInt8 × Int × Unit) ×
                  (Bool ×
                      Bool ×
                        Bool ×
                          Bool ×
                            Bool ×
                              Bool ×
                                Bool ×
                                  Bool ×
                                    Bool × Bool × Bool × Bool × Bool × Int × Bool × List UInt8 × List UInt8 × Unit) ×
                    (List UInt8 × Int × Int × Int × List UInt8 × List UInt8 × Int × Unit) ×
                      (List UInt8 × Int × Int × Int × List UInt8 × List UInt8 × Int × Unit) × Unit) =>
          some (((), (), (), (), s.fst.snd.snd.snd.snd), s.snd))
      fun
        (s :
          (Unit × Unit × Unit × Unit × List UInt8 × Unit) ×
            (Int ×
                List UInt8 ×
                  List UInt8 ×
                    Int ×
                      Int ×
                        Int ×
                          List UInt8 ×
                            List UInt8 × Int × List UInt8 × Int × Int × Int × List UInt8 × List UInt8 × Int × Unit) ×
              (Bool ×
                  Bool ×
                    Bool ×
                      Bool ×
                        Bool ×
                          Bool ×
                            Bool ×
                              Bool × Bool × Bool × Bool × Bool × Bool × Int × Bool × List UInt8 × List UInt8 × Unit) ×
                (List UInt8 × Int × Int × Int × List UInt8 × List UInt8 × Int × Unit) ×
                  (List UInt8 × Int × Int × Int × List UInt8 × List UInt8 × Int × Unit) × Unit) =>
      if
          (0 : Int) ≤ s.snd.snd.snd.fst.snd.fst ∧
            s.snd.snd.snd.fst.snd.fst ≤ IntKind.wrap IntKind.i64 (s.snd.snd.snd.fst.snd.fst + (1 : Int)) ∧
              IntKind.wrap IntKind.i64 (s.snd.snd.snd.fst.snd.fst + (1 : Int)) ≤
                (↑(List.length [(100 : UInt8), (102 : UInt8), (76 : UInt8)]) : Int) then
        if
            List.length s.fst.snd.snd.snd.snd.fst +
                List.length
                  (List.drop (Int.toNat s.snd.snd.snd.fst.snd.fst)
                    (List.take (Int.toNat (IntKind.wrap IntKind.i64 (s.snd.snd.snd.fst.snd.fst + (1 : Int))))
                      [(100 : UInt8), (102 : UInt8), (76 : UInt8)])) <
              (2 : Nat) ^ (63 : Nat) then
          Option.bind
            (bif s.snd.fst.fst == (1 : Int) then
              some
                (((), (), (),
                    s.fst.snd.snd.snd.snd.fst ++
                      List.drop (Int.toNat s.snd.snd.snd.fst.snd.fst)
                        (List.take (Int.toNat (IntKind.wrap IntKind.i64 (s.snd.snd.snd.fst.snd.fst + (1 : Int))))
                          [(100 : UInt8), (102 : UInt8), (76 : UInt8)]),
                    true, ()),
                  s.snd.snd)
            else
              some
                (((), (), (),
                    s.fst.snd.snd.snd.snd.fst ++
                      List.drop (Int.toNat s.snd.snd.snd.fst.snd.fst)
                        (List.take (Int.toNat (IntKind.wrap IntKind.i64 (s.snd.snd.snd.fst.snd.fst + (1 : Int))))
                          [(100 : UInt8), (102 : UInt8), (76 : UInt8)]),
                    s.snd.fst.fst == (4 : Int), ()),
                  s.snd.snd))
            fun
              (s :
                (Unit × Unit × Unit × List UInt8 × Bool × Unit) ×
                  (Bool ×
                      Bool ×
                        Bool ×
                          Bool ×
                            Bool ×
                              Bool ×
                                Bool ×
                                  Bool ×
                                    Bool × Bool × Bool × Bool × Bool × Int × Bool × List UInt8 × List UInt8 × Unit) ×
                    (List UInt8 × Int × Int × Int × List UInt8 × List UInt8 × Int × Unit) ×
                      (List UInt8 × Int × Int × Int × List UInt8 × List UInt8 × Int × Unit) × Unit) =>
            bif s.fst.snd.snd.snd.snd.fst then
              Option.bind (m_strings_Repeat [(43 : UInt8)] (9 : Int)) fun (r : List UInt8 × Unit) =>
                if List.length s.fst.snd.snd.snd.fst + List.length r.fst < (2 : Nat) ^ (63 : Nat) then
                  some (s.fst.snd.snd.snd.fst ++ r.fst, ())
                else none
            else
              Option.bind
                (bif s.snd.fst.snd.snd.snd.fst then
                  some (((), (), (), s.fst.snd.snd.snd.fst, [(116 : UInt8)], ()), s.snd)
                else some (((), (), (), s.fst.snd.snd.snd.fst, [(84 : UInt8)], ()), s.snd))
                fun
                  (s :
                    (Unit × Unit × Unit × List UInt8 × List UInt8 × Unit) ×
                      (Bool ×
                          Bool ×
                            Bool ×
                              Bool ×
                                Bool ×
                                  Bool ×
                                    Bool ×
                                      Bool ×
                                        Bool ×
                                          Bool × Bool × Bool × Bool × Int × Bool × List UInt8 × List UInt8 × Unit) ×
                        (List UInt8 × Int × Int × Int × List UInt8 × List UInt8 × Int × Unit) ×
                          (List UInt8 × Int × Int × Int × List UInt8 × List UInt8 × Int × Unit) × Unit) =>
                Option.bind
                  (bif s.snd.fst.snd.snd.snd.snd.snd.fst then
                    bif s.snd.snd.fst.snd.fst == (1 : Int) then
                      bif !s.snd.snd.fst.snd.snd.snd.snd.fst == s.snd.snd.snd.fst.snd.snd.snd.snd.fst then
                        some (((), (), s.fst.snd.snd.snd.fst, s.fst.snd.snd.snd.snd.fst, true, ()), s.snd.snd)
                      else
                        bif s.snd.snd.fst.snd.fst == (2 : Int) then
                          some
                            (((), (), s.fst.snd.snd.snd.fst, s.fst.snd.snd.snd.snd.fst,
                                !s.snd.snd.fst.snd.snd.snd.snd.snd.fst == s.snd.snd.snd.fst.snd.snd.snd.snd.snd.fst,
                                ()),
                              s.snd.snd)
                        else some (((), (), s.fst.snd.snd.snd.fst, s.fst.snd.snd.snd.snd.fst, false, ()), s.snd.snd)
                    else
                      bif s.snd.snd.fst.snd.fst == (2 : Int) then
                        some
                          (((), (), s.fst.snd.snd.snd.fst, s.fst.snd.snd.snd.snd.fst,
                              !s.snd.snd.fst.snd.snd.snd.snd.snd.fst == s.snd.snd.snd.fst.snd.snd.snd.snd.snd.fst, ()),
                            s.snd.snd)
                      else some (((), (), s.fst.snd.snd.snd.fst, s.fst.snd.snd.snd.snd.fst, false, ()), s.snd.snd)
                  else
                    bif s.snd.snd.fst.snd.fst == (2 : Int) then
                      some
                        (((), (), s.fst.snd.snd.snd.fst, s.fst.snd.snd.snd.snd.fst,
                            !s.snd.snd.fst.snd.snd.snd.snd.snd.fst == s.snd.snd.snd.fst.snd.snd.snd.snd.snd.fst, ()),
                          s.snd.snd)
                    else some (((), (), s.fst.snd.snd.snd.fst, s.fst.snd.snd.snd.snd.fst, false, ()), s.snd.snd))
                  fun
                    (s :
                      (Unit × Unit × List UInt8 × List UInt8 × Bool × Unit) ×
                        (List UInt8 × Int × Int × Int × List UInt8 × List UInt8 × Int × Unit) ×
                          (List UInt8 × Int × Int × Int × List UInt8 × List UInt8 × Int × Unit) × Unit) =>
                  Option.bind (m_impl_sign s.fst.snd.snd.snd.snd.fst [(99 : UInt8)]) fun (r : List UInt8 × Unit) =>
                    if List.length s.fst.snd.snd.fst + List.length r.fst < (2 : Nat) ^ (63 : Nat) then
                      Option.bind
                        (m_impl_sign
                          ((↑(List.length s.snd.fst.snd.snd.snd.snd.fst) : Int) !=
                            (↑(List.length s.snd.snd.fst.snd.snd.snd.snd.fst) : Int))
                          [(115 : UInt8)])
                        fun (r_1 : List UInt8 × Unit) =>
                        if List.length (s.fst.snd.snd.fst ++ r.fst) + List.length r_1.fst < (2 : Nat) ^ (63 : Nat) then
                          Option.bind
                            (m_impl_sign (s.snd.fst.snd.snd.snd.fst != s.snd.snd.fst.snd.snd.snd.fst)
                              s.fst.snd.snd.snd.fst)
                            fun (r_2 : List UInt8 × Unit) =>
                            if
                                List.length (s.fst.snd.snd.fst ++ r.fst ++ r_1.fst) + List.length r_2.fst <
                                  (2 : Nat) ^ (63 : Nat) then
                              Option.bind
                                (m_impl_sign (s.snd.fst.snd.snd.fst != s.snd.snd.fst.snd.snd.fst) [(112 : UInt8)])
                                fun (r_3 : List UInt8 × Unit) =>
                                if
                                    List.length (s.fst.snd.snd.fst ++ r.fst ++ r_1.fst ++ r_2.fst) +
                                        List.length r_3.fst <
                                      (2 : Nat) ^ (63 : Nat) then
                                  Option.bind (m_strings_Repeat [(46 : UInt8)] (5 : Int))
                                    fun (r_4 : List UInt8 × Unit) =>
                                    if
                                        List.length (s.fst.snd.snd.fst ++ r.fst ++ r_1.fst ++ r_2.fst ++ r_3.fst) +
                                            List.length r_4.fst <
                                          (2 : Nat) ^ (63 : Nat) then
                                      some (s.fst.snd.snd.fst ++ r.fst ++ r_1.fst ++ r_2.fst ++ r_3.fst ++ r_4.fst, ())
                                    else none
                                else none
                            else none
                        else none
                    else none
        else none
      else none
-- impl.Item
def m_impl_Item (a0 : (Int × (List UInt8 × ((List UInt8 × (Int × (Int × (Int × (List UInt8 × (List UInt8 × Int)))))) × (List UInt8 × (Int × (Int × (Int × (List UInt8 × (List UInt8 × Int)))))))))) (a1 : (Bool × (Bool × (Bool × (Bool × (Bool × (Bool × (Bool × (Bool × (Bool × (Bool × (Bool × (Bool × (Bool × (Int × (Bool × (List UInt8 × List UInt8))))))))))))))))) : Option (List UInt8 × Unit) :=
  Option.bind
    (Option.bind (m_impl_within a0.fst (0 : Int) (4 : Int)) fun (r : Bool × Unit) =>
      bif !r.fst then
        some
          (((), (), true, ()),
            (a0.fst, a0.snd.fst, a0.snd.snd.fst.fst, a0.snd.snd.fst.snd.fst, a0.snd.snd.fst.snd.snd.fst,
              a0.snd.snd.fst.snd.snd.snd.fst, a0.snd.snd.fst.snd.snd.snd.snd.fst,
              a0.snd.snd.fst.snd.snd.snd.snd.snd.fst, a0.snd.snd.fst.snd.snd.snd.snd.snd.snd, a0.snd.snd.snd.fst,
              a0.snd.snd.snd.snd.fst, a0.snd.snd.snd.snd.snd.fst, a0.snd.snd.snd.snd.snd.snd.fst,
              a0.snd.snd.snd.snd.snd.snd.snd.fst, a0.snd.snd.snd.snd.snd.snd.snd.snd.fst,
              a0.snd.snd.snd.snd.snd.snd.snd.snd.snd, ()),
            (a1.fst, a1.snd.fst, a1.snd.snd.fst, a1.snd.snd.snd.fst, a1.snd.snd.snd.snd.fst, a1.snd.snd.snd.snd.snd.fst,
              a1.snd.snd.snd.snd.snd.snd.fst, a1.snd.snd.snd.snd.snd.snd.snd.fst,
              a1.snd.snd.snd.snd.snd.snd.snd.snd.fst, a1.snd.snd.snd.snd.snd.snd.snd.snd.snd.fst,
              a1.snd.snd.snd.snd.snd.snd.snd.snd.snd.snd.fst, a1.snd.snd.snd.snd.snd.snd.snd.snd.snd.snd.snd.fst,
              a1.snd.snd.snd.snd.snd.snd.snd.snd.snd.snd.snd.snd.fst,
              a1.snd.snd.snd.snd.snd.snd.snd.snd.snd.snd.snd.snd.snd.fst,
              a1.snd.snd.snd.snd.snd.snd.snd.snd.snd.snd.snd.snd.snd.snd.fst,
              a1.snd.snd.snd.snd.snd.snd.snd.snd.snd.snd.snd.snd.snd.snd.snd.fst,
              a1.snd.snd.snd.snd.snd.snd.snd.snd.snd.snd.snd.snd.snd.snd.snd.snd, ()),
            ())
      else
        Option.bind (m_impl_OptsOk a1) fun (r : Bool × Unit) =>
          bif !r.fst then
            some
              (((), (), true, ()),
                (a0.fst, a0.snd.fst, a0.snd.snd.fst.fst, a0.snd.snd.fst.snd.fst, a0.snd.snd.fst.snd.snd.fst,
                  a0.snd.snd.fst.snd.snd.snd.fst, a0.snd.snd.fst.snd.snd.snd.snd.fst,
                  a0.snd.snd.fst.snd.snd.snd.snd.snd.fst, a0.snd.snd.fst.snd.snd.snd.snd.snd.snd, a0.snd.snd.snd.fst,
                  a0.snd.snd.snd.snd.fst, a0.snd.snd.snd.snd.snd.fst, a0.snd.snd.snd.snd.snd.snd.fst,
                  a0.snd.snd.snd.snd.snd.snd.snd.fst, a0.snd.snd.snd.snd.snd.snd.snd.snd.fst,
                  a0.snd.snd.snd.snd.snd.snd.snd.snd.snd, ()),
                (a1.fst, a1.snd.fst, a1.snd.snd.fst, a1.snd.snd.snd.fst, a1.snd.snd.snd.snd.fst,
                  a1.snd.snd.snd.snd.snd.fst, a1.snd.snd.snd.snd.snd.snd.fst, a1.snd.snd.snd.snd.snd.snd.snd.fst,
                  a1.snd.snd.snd.snd.snd.snd.snd.snd.fst, a1.snd.snd.snd.snd.snd.snd.snd.snd.snd.fst,
                  a1.snd.snd.snd.snd.snd.snd.snd.snd.snd.snd.fst, a1.snd.snd.snd.snd.snd.snd.snd.snd.snd.snd.snd.fst,
                  a1.snd.snd.snd.snd.snd.snd.snd.snd.snd.snd.snd.snd.fst,
                  a1.snd.snd.snd.snd.snd.snd.snd.snd.snd.snd.snd.snd.snd.fst,
                  a1.snd.snd.snd.snd.snd.snd.snd.snd.snd.snd.snd.snd.snd.snd.fst,
                  a1.snd.snd.snd.snd.snd.snd.snd.snd.snd.snd.snd.snd.snd.snd.snd.fst,
                  a1.snd.snd.snd.snd.snd.snd.snd.snd.snd.snd.snd.snd.snd.snd.snd.snd, ()),
                ())
          else
            Option.bind (m_impl_Change_thing a0)
              fun (r : (List UInt8 × Int × Int × Int × List UInt8 × List UInt8 × Int) × Unit) =>
              Option.bind (m_impl_NodeOk r.fst) fun (r : Bool × Unit) =>
                some
                  (((), (), !r.fst, ()),
                    (a0.fst, a0.snd.fst, a0.snd.snd.fst.fst, a0.snd.snd.fst.snd.fst, a0.snd.snd.fst.snd.snd.fst,
                      a0.snd.snd.fst.snd.snd.snd.fst, a0.snd.snd.fst.snd.snd.snd.snd.fst,
                      a0.snd.snd.fst.snd.snd.snd.snd.snd.fst, a0.snd.snd.fst.snd.snd.snd.snd.snd.snd,
                      a0.snd.snd.snd.fst, a0.snd.snd.snd.snd.fst, a0.snd.snd.snd.snd.snd.fst,
                      a0.snd.snd.snd.snd.snd.snd.fst, a0.snd.snd.snd.snd.snd.snd.snd.fst,
                      a0.snd.snd.snd.snd.snd.snd.snd.snd.fst, a0.snd.snd.snd.snd.snd.snd.snd.snd.snd, ()),
                    (a1.fst, a1.snd.fst, a1.snd.snd.fst, a1.snd.snd.snd.fst, a1.snd.snd.snd.snd.fst,
                      a1.snd.snd.snd.snd.snd.fst, a1.snd.snd.snd.snd.snd.snd.fst, a1.snd.snd.snd.snd.snd.snd.snd.fst,
                      a1.snd.snd.snd.snd.snd.snd.snd.snd.fst, a1.snd.snd.snd.snd.snd.snd.snd.snd.snd.fst,
                      a1.snd.snd.snd.snd.snd.snd.snd.snd.snd.snd.fst,
                      a1.snd.snd.snd.snd.snd.snd.snd.snd.snd.snd.snd.fst,
                      a1.snd.snd.snd.snd.snd.snd.snd.snd.snd.snd.snd.snd.fst,
                      a1.snd.snd.snd.snd.snd.snd.snd.snd.snd.snd.snd.snd.snd.fst,
                      a1.snd.snd.snd.snd.snd.snd.snd.snd.snd.snd.snd.snd.snd.snd.fst,
                      a1.snd.snd.snd.snd.snd.snd.snd.snd.snd.snd.snd.snd.snd.snd.snd.fst,
                      a1.snd.snd.snd.snd.snd.snd.snd.snd.snd.snd.snd.snd.snd.snd.snd.snd, ()),
                    ()))
    fun
      (s :
        (Unit × Unit × Bool × Unit) ×
          (Int ×
              List UInt8 ×
                List UInt8 ×
                  Int ×
                    Int ×
                      Int ×
                        List UInt8 ×
                          List UInt8 × Int × List UInt8 × Int × Int × Int × List UInt8 × List UInt8 × Int × Unit) ×
            (Bool ×
                Bool ×
                  Bool ×
                    Bool ×
                      Bool ×
                        Bool ×
                          Bool ×
                            Bool × Bool × Bool × Bool × Bool × Bool × Int × Bool × List UInt8 × List UInt8 × Unit) ×
              Unit) =>
    bif s.fst.snd.snd.fst then some (nilOf UInt8, ())
    else
      Option.bind
        (bif s.snd.fst.fst == (2 : Int) then
          Option.bind
            (m_impl_NodeOk
              (s.snd.fst.snd.snd.fst, s.snd.fst.snd.snd.snd.fst, s.snd.fst.snd.snd.snd.snd.fst,
                s.snd.fst.snd.snd.snd.snd.snd.fst, s.snd.fst.snd.snd.snd.snd.snd.snd.fst,
                s.snd.fst.snd.snd.snd.snd.snd.snd.snd.fst, s.snd.fst.snd.snd.snd.snd.snd.snd.snd.snd.fst))
            fun (r : Bool × Unit) =>
            bif !r.fst then some (((), (), true, ()), s.snd)
            else
              some
                (((), (), s.snd.fst.snd.snd.snd.fst != s.snd.fst.snd.snd.snd.snd.snd.snd.snd.snd.snd.snd.fst, ()),
                  s.snd)
        else
          bif s.snd.fst.fst == (3 : Int) then
            Option.bind
              (m_impl_NodeOk
                (s.snd.fst.snd.snd.fst, s.snd.fst.snd.snd.snd.fst, s.snd.fst.snd.snd.snd.snd.fst,
                  s.snd.fst.snd.snd.snd.snd.snd.fst, s.snd.fst.snd.snd.snd.snd.snd.snd.fst,
                  s.snd.fst.snd.snd.snd.snd.snd.snd.snd.fst, s.snd.fst.snd.snd.snd.snd.snd.snd.snd.snd.fst))
              fun (r : Bool × Unit) =>
              bif !r.fst then some (((), (), true, ()), s.snd)
              else
                some
                  (((), (), s.snd.fst.snd.snd.snd.fst != s.snd.fst.snd.snd.snd.snd.snd.snd.snd.snd.snd.snd.fst, ()),
                    s.snd)
          else some (((), (), false, ()), s.snd))
        fun
          (s :
            (Unit × Unit × Bool × Unit) ×
              (Int ×
                  List UInt8 ×
                    List UInt8 ×
                      Int ×
                        Int ×
                          Int ×
                            List UInt8 ×
                              List UInt8 × Int × List UInt8 × Int × Int × Int × List UInt8 × List UInt8 × Int × Unit) ×
                (Bool ×
                    Bool ×
                      Bool ×
                        Bool ×
                          Bool ×
                            Bool ×
                              Bool ×
                                Bool ×
                                  Bool × Bool × Bool × Bool × Bool × Int × Bool × List UInt8 × List UInt8 × Unit) ×
                  Unit) =>
        bif s.fst.snd.snd.fst then some (nilOf UInt8, ())
        else
          Option.bind
            (m_impl_item
              (s.snd.fst.fst, s.snd.fst.snd.fst,
                (s.snd.fst.snd.snd.fst, s.snd.fst.snd.snd.snd.fst, s.snd.fst.snd.snd.snd.snd.fst,
                  s.snd.fst.snd.snd.snd.snd.snd.fst, s.snd.fst.snd.snd.snd.snd.snd.snd.fst,
                  s.snd.fst.snd.snd.snd.snd.snd.snd.snd.fst, s.snd.fst.snd.snd.snd.snd.snd.snd.snd.snd.fst),
                s.snd.fst.snd.snd.snd.snd.snd.snd.snd.snd.snd.fst,
                s.snd.fst.snd.snd.snd.snd.snd.snd.snd.snd.snd.snd.fst,
                s.snd.fst.snd.snd.snd.snd.snd.snd.snd.snd.snd.snd.snd.fst,
                s.snd.fst.snd.snd.snd.snd.snd.snd.snd.snd.snd.snd.snd.snd.fst,
                s.snd.fst.snd.snd.snd.snd.snd.snd.snd.snd.snd.snd.snd.snd.snd.fst,
                s.snd.fst.snd.snd.snd.snd.snd.snd.snd.snd.snd.snd.snd.snd.snd.snd.fst,
                s.snd.fst.snd.snd.snd.snd.snd.snd.snd.snd.snd.snd.snd.snd.snd.snd.snd.fst)
              (s.snd.snd.fst.fst, s.snd.snd.fst.snd.fst, s.snd.snd.fst.snd.snd.fst, s.snd.snd.fst.snd.snd.snd.fst,
                s.snd.snd.fst.snd.snd.snd.snd.fst, s.snd.snd.fst.snd.snd.snd.snd.snd.fst,
                s.snd.snd.fst.snd.snd.snd.snd.snd.snd.fst, s.snd.snd.fst.snd.snd.snd.snd.snd.snd.snd.fst,
                s.snd.snd.fst.snd.snd.snd.snd.snd.snd.snd.snd.fst,
                s.snd.snd.fst.snd.snd.snd.snd.snd.snd.snd.snd.snd.fst,
                s.snd.snd.fst.snd.snd.snd.snd.snd.snd.snd.snd.snd.snd.fst,
                s.snd.snd.fst.snd.snd.snd.snd.snd.snd.snd.snd.snd.snd.snd.fst,
                s.snd.snd.fst.snd.snd.snd.snd.snd.snd.snd.snd.snd.snd.snd.snd.fst,
                s.snd.snd.fst.snd.snd.snd.snd.snd.snd.snd.snd.snd.snd.snd.snd.snd.fst,
                s.snd.snd.fst.snd.snd.snd.snd.snd.snd.snd.snd.snd.snd.snd.snd.snd.snd.fst,
                s.snd.snd.fst.snd.snd.snd.snd.snd.snd.snd.snd.snd.snd.snd.snd.snd.snd.snd.fst,
                s.snd.snd.fst.snd.snd.snd.snd.snd.snd.snd.snd.snd.snd.snd.snd.snd.snd.snd.snd.fst))
            fun (r : List UInt8 × Unit) => some r
-- impl.slash
def m_impl_slash (a0 : Bool) : Option (List UInt8 × Unit) := bif a0 then some ([(47 : UInt8)], ()) else some (nilOf UInt8, ())
-- impl.ItemLine
def m_impl_ItemLine (a0 : (Int × (List UInt8 × ((List UInt8 × (Int × (Int × (Int × (List UInt8 × (List UInt8 × Int)))))) × (List UInt8 × (Int × (Int × (Int × (List UInt8 × (List UInt8 × Int)))))))))) (a1 : (Bool × (Bool × (Bool × (Bool × (Bool × (Bool × (Bool × (Bool × (Bool × (Bool × (Bool × (Bool × (Bool × (Int × (Bool × (List UInt8 × List UInt8))))))))))))))))) : Option (List UInt8 × Unit) :=
  Option.bind (m_impl_Item a0 a1) fun (r : List UInt8 × Unit) =>
    bif r.fst == nilOf UInt8 then some (nilOf UInt8, ())
    else
      if List.length r.fst + List.length [(32 : UInt8)] < (2 : Nat) ^ (63 : Nat) then
        if List.length (r.fst ++ [(32 : UInt8)]) + List.length a0.snd.fst < (2 : Nat) ^ (63 : Nat) then
          Option.bind (m_impl_Change_thing a0)
            fun (r_1 : (List UInt8 × Int × Int × Int × List UInt8 × List UInt8 × Int) × Unit) =>
            Option.bind (m_impl_slash (r_1.fst.snd.fst == (0 : Int))) fun (r_2 : List UInt8 × Unit) =>
              if List.length (r.fst ++ [(32 : UInt8)] ++ a0.snd.fst) + List.length r_2.fst < (2 : Nat) ^ (63 : Nat) then
                some (r.fst ++ [(32 : UInt8)] ++ a0.snd.fst ++ r_2.fst, ())
              else none
        else none
      else none
-- (*strings.Builder).copyCheck
def m_strings_Builder_copyCheck (s0 : Unit) (s1 : List Int) : Option (Unit × Unit × List Int × Unit) := some ((), s0, s1, ())
-- (*strings.Builder).WriteString
def m_strings_Builder_WriteString (a1 : List UInt8) (s0 : Unit) (s1 : List Int) : Option ((Int × Unit × Unit) × (Unit × List Int × Unit)) :=
  Option.bind (m_strings_Builder_copyCheck () s1) fun (r : Unit × Unit × List Int × Unit) =>
    if
        (List.length r.snd.snd.fst + List.length (List.map (fun (b : UInt8) => (↑(UInt8.toNat b) : Int)) a1)) *
            (1 : Nat) ≤
          (140737488355328 : Nat) then
      some
        (((↑(List.length a1) : Int), (), ()), (),
          r.snd.snd.fst ++ List.map (fun (b : UInt8) => (↑(UInt8.toNat b) : Int)) a1, ())
    else none
-- (*strings.Builder).String
def m_strings_Builder_String (s0 : Unit) (s1 : List Int) : Option (List UInt8 × Unit × List Int × Unit) := if s1.length ≤ 140737488355328 then some (strOf s1, (), [], ()) else none
-- impl.Items
def m_impl_Items (a0 : List (Int × (List UInt8 × ((List UInt8 × (Int × (Int × (Int × (List UInt8 × (List UInt8 × Int)))))) × (List UInt8 × (Int × (Int × (Int × (List UInt8 × (List UInt8 × Int)))))))))) (a1 : (Bool × (Bool × (Bool × (Bool × (Bool × (Bool × (Bool × (Bool × (Bool × (Bool × (Bool × (Bool × (Bool × (Int × (Bool × (List UInt8 × List UInt8))))))))))))))))) : Option (List UInt8 × Unit) :=
  bif decide ((↑(List.length a0) : Int) > (1000 : Int)) then some (nilOf UInt8, ())
  else
    Option.bind
      (loopC
        (List.length a0 + Int.toNat (↑(List.length a0) : Int) + Int.toNat (0 : Int) +
                    Int.toNat a1.snd.snd.snd.snd.snd.snd.snd.snd.snd.snd.snd.snd.snd.fst +
                  List.length a1.snd.snd.snd.snd.snd.snd.snd.snd.snd.snd.snd.snd.snd.snd.snd.fst +
                List.length a1.snd.snd.snd.snd.snd.snd.snd.snd.snd.snd.snd.snd.snd.snd.snd.snd +
              List.length (nilOf Int) +
            List.length (nilOf Int) +
          (300 : Nat))
        (fun
            (s :
              (Unit ×
                  Unit ×
                    Unit ×
                      List
                          (Int ×
                            List UInt8 ×
                              (List UInt8 × Int × Int × Int × List UInt8 × List UInt8 × Int) ×
                                List UInt8 × Int × Int × Int × List UInt8 × List UInt8 × Int) ×
                        Int × Int × Unit) ×
                (Bool ×
                    Bool ×
                      Bool ×
                        Bool ×
                          Bool ×
                            Bool ×
                              Bool ×
                                Bool ×
                                  Bool × Bool × Bool × Bool × Bool × Int × Bool × List UInt8 × List UInt8 × Unit) ×
                  Unit × List Int × Unit × List Int × Unit)
            (k :
              (Unit ×
                    Unit ×
                      Unit ×
                        List
                            (Int ×
                              List UInt8 ×
                                (List UInt8 × Int × Int × Int × List UInt8 × List UInt8 × Int) ×
                                  List UInt8 × Int × Int × Int × List UInt8 × List UInt8 × Int) ×
                          Int × Int × Unit) ×
                  (Bool ×
                      Bool ×
                        Bool ×
                          Bool ×
                            Bool ×
                              Bool ×
                                Bool ×
                                  Bool ×
                                    Bool × Bool × Bool × Bool × Bool × Int × Bool × List UInt8 × List UInt8 × Unit) ×
                    Unit × List Int × Unit × List Int × Unit →
                Option ((Unit × Unit × Unit) × Unit × List Int × Unit × List Int × Unit)) =>
          bif decide (s.fst.snd.snd.snd.snd.snd.fst < s.fst.snd.snd.snd.snd.fst) then
            if
                (0 : Int) ≤ s.fst.snd.snd.snd.snd.snd.fst ∧
                  s.fst.snd.snd.snd.snd.snd.fst < (↑(List.length s.fst.snd.snd.snd.fst) : Int) then
              Option.bind
                (m_impl_ItemLine
                  (List.getD s.fst.snd.snd.snd.fst (Int.toNat s.fst.snd.snd.snd.snd.snd.fst)
                    (Int.ofNat (nat_lit 0), nilOf UInt8,
                      (nilOf UInt8, Int.ofNat (nat_lit 0), Int.ofNat (nat_lit 0), Int.ofNat (nat_lit 0), nilOf UInt8,
                        nilOf UInt8, Int.ofNat (nat_lit 0)),
                      nilOf UInt8, Int.ofNat (nat_lit 0), Int.ofNat (nat_lit 0), Int.ofNat (nat_lit 0), nilOf UInt8,
                      nilOf UInt8, Int.ofNat (nat_lit 0)))
                  (s.snd.fst.fst, s.snd.fst.snd.fst, s.snd.fst.snd.snd.fst, s.snd.fst.snd.snd.snd.fst,
                    s.snd.fst.snd.snd.snd.snd.fst, s.snd.fst.snd.snd.snd.snd.snd.fst,
                    s.snd.fst.snd.snd.snd.snd.snd.snd.fst, s.snd.fst.snd.snd.snd.snd.snd.snd.snd.fst,
                    s.snd.fst.snd.snd.snd.snd.snd.snd.snd.snd.fst, s.snd.fst.snd.snd.snd.snd.snd.snd.snd.snd.snd.fst,
                    s.snd.fst.snd.snd.snd.snd.snd.snd.snd.snd.snd.snd.fst,
                    s.snd.fst.snd.snd.snd.snd.snd.snd.snd.snd.snd.snd.snd.fst,
                    s.snd.fst.snd.snd.snd.snd.snd.snd.snd.snd.snd.snd.snd.snd.fst,
                    s.snd.fst.snd.snd.snd.snd.snd.snd.snd.snd.snd.snd.snd.snd.snd.fst,
                    s.snd.fst.snd.snd.snd.snd.snd.snd.snd.snd.snd.snd.snd.snd.snd.snd.fst,
                    s.snd.fst.snd.snd.snd.snd.snd.snd.snd.snd.snd.snd.snd.snd.snd.snd.snd.fst,
                    s.snd.fst.snd.snd.snd.snd.snd.snd.snd.snd.snd.snd.snd.snd.snd.snd.snd.snd.fst))
                fun (r : List UInt8 × Unit) =>
                Option.bind
                  (bif r.fst == nilOf UInt8 then
                    some (((), (), (), s.fst.snd.snd.snd), s.snd.fst, (), s.snd.snd.snd.fst, (), s.snd.snd.snd.snd.snd)
                  else
                    Option.bind
                      (bif
                          (List.getD s.fst.snd.snd.snd.fst (Int.toNat s.fst.snd.snd.snd.snd.snd.fst)
                                (Int.ofNat (nat_lit 0), nilOf UInt8,
                                  (nilOf UInt8, Int.ofNat (nat_lit 0), Int.ofNat (nat_lit 0), Int.ofNat (nat_lit 0),
                                    nilOf UInt8, nilOf UInt8, Int.ofNat (nat_lit 0)),
                                  nilOf UInt8, Int.ofNat (nat_lit 0), Int.ofNat (nat_lit 0), Int.ofNat (nat_lit 0),
                                  nilOf UInt8, nilOf UInt8, Int.ofNat (nat_lit 0))).fst ==
                            (0 : Int) then
                        some
                          (((), (), (), r.fst, s.fst.snd.snd.snd.fst, s.fst.snd.snd.snd.snd.fst,
                              s.fst.snd.snd.snd.snd.snd.fst,
                              s.snd.fst.snd.snd.snd.snd.snd.snd.snd.snd.snd.snd.snd.snd.snd.fst == (3 : Int), ()),
                            s.snd.fst, (), s.snd.snd.snd.fst, (), s.snd.snd.snd.snd.snd)
                      else
                        some
                          (((), (), (), r.fst, s.fst.snd.snd.snd.fst, s.fst.snd.snd.snd.snd.fst,
                              s.fst.snd.snd.snd.snd.snd.fst, false, ()),
                            s.snd.fst, (), s.snd.snd.snd.fst, (), s.snd.snd.snd.snd.snd))
                      fun
                        (s :
                          (Unit ×
                              Unit ×
                                Unit ×
                                  List UInt8 ×
                                    List
                                        (Int ×
                                          List UInt8 ×
                                            (List UInt8 × Int × Int × Int × List UInt8 × List UInt8 × Int) ×
                                              List UInt8 × Int × Int × Int × List UInt8 × List UInt8 × Int) ×
                                      Int × Int × Bool × Unit) ×
                            (Bool ×
                                Bool ×
                                  Bool ×
                                    Bool ×
                                      Bool ×
                                        Bool ×
                                          Bool ×
                                            Bool ×
                                              Bool ×
                                                Bool ×
                                                  Bool × Bool × Bool × Int × Bool × List UInt8 × List UInt8 × Unit) ×
                              Unit × List Int × Unit × List Int × Unit) =>
                      Option.bind
                        (bif s.fst.snd.snd.snd.snd.snd.snd.snd.fst then
                          if
                              List.length s.fst.snd.snd.snd.fst + List.length [(10 : UInt8)] <
                                (2 : Nat) ^ (63 : Nat) then
                            Option.bind
                              (m_strings_Builder_WriteString (s.fst.snd.snd.snd.fst ++ [(10 : UInt8)]) ()
                                s.snd.snd.snd.snd.snd.fst)
                              fun (r : (Int × Unit × Unit) × Unit × List Int × Unit) =>
                              some
                                (((), (), (), s.fst.snd.snd.snd.snd.fst, s.fst.snd.snd.snd.snd.snd.fst,
                                    s.fst.snd.snd.snd.snd.snd.snd.fst, ()),
                                  s.snd.fst, (), s.snd.snd.snd.fst, (), r.snd.snd)
                          else none
                        else
                          if
                              List.length s.fst.snd.snd.snd.fst + List.length [(10 : UInt8)] <
                                (2 : Nat) ^ (63 : Nat) then
                            Option.bind
                              (m_strings_Builder_WriteString (s.fst.snd.snd.snd.fst ++ [(10 : UInt8)]) ()
                                s.snd.snd.snd.fst)
                              fun (r : (Int × Unit × Unit) × Unit × List Int × Unit) =>
                              some
                                (((), (), (), s.fst.snd.snd.snd.snd.fst, s.fst.snd.snd.snd.snd.snd.fst,
                                    s.fst.snd.snd.snd.snd.snd.snd.fst, ()),
                                  s.snd.fst, (), r.snd.snd.fst, (), s.snd.snd.snd.snd.snd)
                          else none)
                        fun
                          (s :
                            (Unit ×
                                Unit ×
                                  Unit ×
                                    List
                                        (Int ×
                                          List UInt8 ×
                                            (List UInt8 × Int × Int × Int × List UInt8 × List UInt8 × Int) ×
                                              List UInt8 × Int × Int × Int × List UInt8 × List UInt8 × Int) ×
                                      Int × Int × Unit) ×
                              (Bool ×
                                  Bool ×
                                    Bool ×
                                      Bool ×
                                        Bool ×
                                          Bool ×
                                            Bool ×
                                              Bool ×
                                                Bool ×
                                                  Bool ×
                                                    Bool × Bool × Bool × Int × Bool × List UInt8 × List UInt8 × Unit) ×
                                Unit × List Int × Unit × List Int × Unit) =>
                        some
                          (((), (), (), s.fst.snd.snd.snd), s.snd.fst, (), s.snd.snd.snd.fst, (),
                            s.snd.snd.snd.snd.snd))
                  fun
                    (s :
                      (Unit ×
                          Unit ×
                            Unit ×
                              List
                                  (Int ×
                                    List UInt8 ×
                                      (List UInt8 × Int × Int × Int × List UInt8 × List UInt8 × Int) ×
                                        List UInt8 × Int × Int × Int × List UInt8 × List UInt8 × Int) ×
                                Int × Int × Unit) ×
                        (Bool ×
                            Bool ×
                              Bool ×
                                Bool ×
                                  Bool ×
                                    Bool ×
                                      Bool ×
                                        Bool ×
                                          Bool ×
                                            Bool × Bool × Bool × Bool × Int × Bool × List UInt8 × List UInt8 × Unit) ×
                          Unit × List Int × Unit × List Int × Unit) =>
                  k
                    (((), (), (), s.fst.snd.snd.snd.fst, s.fst.snd.snd.snd.snd.fst,
                        IntKind.wrap IntKind.i64 (s.fst.snd.snd.snd.snd.snd.fst + (1 : Int)), ()),
                      s.snd.fst, (), s.snd.snd.snd.fst, (), s.snd.snd.snd.snd.snd)
            else none
          else some (((), (), ()), (), s.snd.snd.snd.fst, (), s.snd.snd.snd.snd.snd))
        (((), (), (), a0, (↑(List.length a0) : Int), (0 : Int), ()),
          (a1.fst, a1.snd.fst, a1.snd.snd.fst, a1.snd.snd.snd.fst, a1.snd.snd.snd.snd.fst, a1.snd.snd.snd.snd.snd.fst,
            a1.snd.snd.snd.snd.snd.snd.fst, a1.snd.snd.snd.snd.snd.snd.snd.fst, a1.snd.snd.snd.snd.snd.snd.snd.snd.fst,
            a1.snd.snd.snd.snd.snd.snd.snd.snd.snd.fst, a1.snd.snd.snd.snd.snd.snd.snd.snd.snd.snd.fst,
            a1.snd.snd.snd.snd.snd.snd.snd.snd.snd.snd.snd.fst, a1.snd.snd.snd.snd.snd.snd.snd.snd.snd.snd.snd.snd.fst,
            a1.snd.snd.snd.snd.snd.snd.snd.snd.snd.snd.snd.snd.snd.fst,
            a1.snd.snd.snd.snd.snd.snd.snd.snd.snd.snd.snd.snd.snd.snd.fst,
            a1.snd.snd.snd.snd.snd.snd.snd.snd.snd.snd.snd.snd.snd.snd.snd.fst,
            a1.snd.snd.snd.snd.snd.snd.snd.snd.snd.snd.snd.snd.snd.snd.snd.snd, ()),
          (), nilOf Int, (), nilOf Int, ()))
      fun (s : (Unit × Unit × Unit) × Unit × List Int × Unit × List Int × Unit) =>
      Option.bind (m_strings_Builder_String () s.snd.snd.fst) fun (r : List UInt8 × Unit × List Int × Unit) =>
        Option.bind (m_strings_Builder_String () s.snd.snd.snd.snd.fst)
          fun (r_1 : List UInt8 × Unit × List Int × Unit) =>
          if List.length r.fst + List.length r_1.fst < (2 : Nat) ^ (63 : Nat) then some (r.fst ++ r_1.fst, ()) else none
-- laws.eqNode
def m_laws_eqNode (a0 : (List UInt8 × (Int × (Int × (Int × (List UInt8 × (List UInt8 × Int))))))) (a1 : (List UInt8 × (Int × (Int × (Int × (List UInt8 × (List UInt8 × Int))))))) : Option (Bool × Unit) :=
  bif !a0.fst == a1.fst then some (false, ())
  else
    bif a0.snd.fst != a1.snd.fst then some (false, ())
    else
      bif a0.snd.snd.fst != a1.snd.snd.fst then some (false, ())
      else
        bif a0.snd.snd.snd.fst != a1.snd.snd.snd.fst then some (false, ())
        else
          bif !a0.snd.snd.snd.snd.fst == a1.snd.snd.snd.snd.fst then some (false, ())
          else
            bif !a0.snd.snd.snd.snd.snd.fst == a1.snd.snd.snd.snd.snd.fst then some (false, ())
            else bif a0.snd.snd.snd.snd.snd.snd != a1.snd.snd.snd.snd.snd.snd then some (false, ()) else some (true, ())
-- laws.eqChange
def m_laws_eqChange (a0 : (Int × (List UInt8 × ((List UInt8 × (Int × (Int × (Int × (List UInt8 × (List UInt8 × Int)))))) × (List UInt8 × (Int × (Int × (Int × (List UInt8 × (List UInt8 × Int)))))))))) (a1 : (Int × (List UInt8 × ((List UInt8 × (Int × (Int × (Int × (List UInt8 × (List UInt8 × Int)))))) × (List UInt8 × (Int × (Int × (Int × (List UInt8 × (List UInt8 × Int)))))))))) : Option (Bool × Unit) :=
  bif a0.fst != a1.fst then some (false, ())
  else
    bif !a0.snd.fst == a1.snd.fst then some (false, ())
    else
      Option.bind (m_laws_eqNode a0.snd.snd.fst a1.snd.snd.fst) fun (r : Bool × Unit) =>
        bif !r.fst then some (false, ())
        else
          Option.bind (m_laws_eqNode a0.snd.snd.snd a1.snd.snd.snd) fun (r : Bool × Unit) =>
            bif !r.fst then some (false, ()) else some (true, ())
-- laws.eqChangeS
def m_laws_eqChangeS (a0 : List (Int × (List UInt8 × ((List UInt8 × (Int × (Int × (Int × (List UInt8 × (List UInt8 × Int)))))) × (List UInt8 × (Int × (Int × (Int × (List UInt8 × (List UInt8 × Int)))))))))) (a1 : List (Int × (List UInt8 × ((List UInt8 × (Int × (Int × (Int × (List UInt8 × (List UInt8 × Int)))))) × (List UInt8 × (Int × (Int × (Int × (List UInt8 × (List UInt8 × Int)))))))))) : Option (Bool × Unit) :=
  bif (↑(List.length a0) : Int) != (↑(List.length a1) : Int) then some (false, ())
  else
    joinC
      (loopC (List.length a0 + List.length a1 + Int.toNat (0 : Int) + (300 : Nat))
        (fun
            (s :
              (List
                    (Int ×
                      List UInt8 ×
                        (List UInt8 × Int × Int × Int × List UInt8 × List UInt8 × Int) ×
                          List UInt8 × Int × Int × Int × List UInt8 × List UInt8 × Int) ×
                  List
                      (Int ×
                        List UInt8 ×
                          (List UInt8 × Int × Int × Int × List UInt8 × List UInt8 × Int) ×
                            List UInt8 × Int × Int × Int × List UInt8 × List UInt8 × Int) ×
                    Int × Unit) ×
                Unit)
            (k :
              (List
                      (Int ×
                        List UInt8 ×
                          (List UInt8 × Int × Int × Int × List UInt8 × List UInt8 × Int) ×
                            List UInt8 × Int × Int × Int × List UInt8 × List UInt8 × Int) ×
                    List
                        (Int ×
                          List UInt8 ×
                            (List UInt8 × Int × Int × Int × List UInt8 × List UInt8 × Int) ×
                              List UInt8 × Int × Int × Int × List UInt8 × List UInt8 × Int) ×
                      Int × Unit) ×
                  Unit →
                Option (Unit × Unit ⊕ Bool × Unit)) =>
          bif decide (s.fst.snd.snd.fst < (↑(List.length s.fst.fst) : Int)) then
            if (0 : Int) ≤ s.fst.snd.snd.fst ∧ s.fst.snd.snd.fst < (↑(List.length s.fst.fst) : Int) then
              if (0 : Int) ≤ s.fst.snd.snd.fst ∧ s.fst.snd.snd.fst < (↑(List.length s.fst.snd.fst) : Int) then
                Option.bind
                  (m_laws_eqChange
                    (List.getD s.fst.fst (Int.toNat s.fst.snd.snd.fst)
                      (Int.ofNat (nat_lit 0), nilOf UInt8,
                        (nilOf UInt8, Int.ofNat (nat_lit 0), Int.ofNat (nat_lit 0), Int.ofNat (nat_lit 0), nilOf UInt8,
                          nilOf UInt8, Int.ofNat (nat_lit 0)),
                        nilOf UInt8, Int.ofNat (nat_lit 0), Int.ofNat (nat_lit 0), Int.ofNat (nat_lit 0), nilOf UInt8,
                        nilOf UInt8, Int.ofNat (nat_lit 0)))
                    (List.getD s.fst.snd.fst (Int.toNat s.fst.snd.snd.fst)
                      (Int.ofNat (nat_lit 0), nilOf UInt8,
                        (nilOf UInt8, Int.ofNat (nat_lit 0), Int.ofNat (nat_lit 0), Int.ofNat (nat_lit 0), nilOf UInt8,
                          nilOf UInt8, Int.ofNat (nat_lit 0)),
                        nilOf UInt8, Int.ofNat (nat_lit 0), Int.ofNat (nat_lit 0), Int.ofNat (nat_lit 0), nilOf UInt8,
                        nilOf UInt8, Int.ofNat (nat_lit 0))))
                  fun (r : Bool × Unit) =>
                  bif !r.fst then some (Sum.inr (false, ()))
                  else k ((s.fst.fst, s.fst.snd.fst, IntKind.wrap IntKind.i64 (s.fst.snd.snd.fst + (1 : Int)), ()), ())
              else none
            else none
          else some (Sum.inl ((), ())))
        ((a0, a1, (0 : Int), ()), ()))
      fun (s : Unit × Unit) => some (true, ())
-- laws.FnExactItems
def m_laws_FnExactItems (a0 : List (Int × (List UInt8 × ((List UInt8 × (Int × (Int × (Int × (List UInt8 × (List UInt8 × Int)))))) × (List UInt8 × (Int × (Int × (Int × (List UInt8 × (List UInt8 × Int)))))))))) (a1 : (Bool × (Bool × (Bool × (Bool × (Bool × (Bool × (Bool × (Bool × (Bool × (Bool × (Bool × (Bool × (Bool × (Int × (Bool × (List UInt8 × List UInt8))))))))))))))))) : Option (Bool × Unit) :=
  Option.bind (m_laws_szChangeS a0 (1048576 : Int)) fun (r : Int × Unit) =>
    bif decide (r.fst < (0 : Int)) then some (true, ())
    else
      Option.bind (m_laws_szOpts a1 r.fst) fun (r : Int × Unit) =>
        bif decide (r.fst < (0 : Int)) then some (true, ())
        else
          Option.bind (m_laws_toChangeS a0)
            fun
              (r :
                List
                    (Int ×
                      List UInt8 ×
                        (List UInt8 × Int × Int × Int × List UInt8 × List UInt8 × Int) ×
                          List UInt8 × Int × Int × Int × List UInt8 × List UInt8 × Int) ×
                  Unit) =>
            Option.bind (m_laws_toOpts a1)
              fun
                (r_1 :
                  (Bool ×
                      Bool ×
                        Bool ×
                          Bool ×
                            Bool ×
                              Bool ×
                                Bool × Bool × Bool × Bool × Bool × Bool × Bool × Int × Bool × List UInt8 × List UInt8) ×
                    Unit) =>
              Option.bind (m_spec_Items r.fst r_1.fst) fun (r : List UInt8 × Unit) =>
                Option.bind (m_laws_toChangeS a0)
                  fun
                    (r_2 :
                      List
                          (Int ×
                            List UInt8 ×
                              (List UInt8 × Int × Int × Int × List UInt8 × List UInt8 × Int) ×
                                List UInt8 × Int × Int × Int × List UInt8 × List UInt8 × Int) ×
                        Unit) =>
                  Option.bind (m_laws_toOpts a1)
                    fun
                      (r_3 :
                        (Bool ×
                            Bool ×
                              Bool ×
                                Bool ×
                                  Bool ×
                                    Bool ×
                                      Bool ×
                                        Bool ×
                                          Bool × Bool × Bool × Bool × Bool × Int × Bool × List UInt8 × List UInt8) ×
                          Unit) =>
                    Option.bind (m_impl_Items r_2.fst r_3.fst) fun (r_4 : List UInt8 × Unit) =>
                      bif !r_4.fst == r.fst then some (false, ())
                      else
                        Option.bind (m_laws_toChangeS a0)
                          fun
                            (r :
                              List
                                  (Int ×
                                    List UInt8 ×
                                      (List UInt8 × Int × Int × Int × List UInt8 × List UInt8 × Int) ×
                                        List UInt8 × Int × Int × Int × List UInt8 × List UInt8 × Int) ×
                                Unit) =>
                          Option.bind (m_laws_eqChangeS r_2.fst r.fst) fun (r : Bool × Unit) =>
                            bif !r.fst then some (false, ()) else some (true, ())
end Go.AM
