/- What each function computes, in plain Lean. -/
import Derived.Test.YtkbaoeklchdioaaDoorAmE
set_option linter.unusedVariables false
set_option maxRecDepth 100000
namespace Go.AM
open Go
-- laws.szEntry
def m_laws_szEntry (a0 : (List UInt8 × (Int × (Int × (Int × (Int × (List UInt8 × Int))))))) (a1 : Int) : Option (Int × Unit) :=
  bif decide (IntKind.wrap IntKind.i64 (a1 - (↑(List.length a0.fst) : Int)) < (0 : Int)) then some ((-1 : Int), ())
  else
    bif
        decide
          (IntKind.wrap IntKind.i64
              (IntKind.wrap IntKind.i64 (a1 - (↑(List.length a0.fst) : Int)) -
                (↑(List.length a0.snd.snd.snd.snd.snd.fst) : Int)) <
            (0 : Int)) then
      some ((-1 : Int), ())
    else
      some
        (IntKind.wrap IntKind.i64
            (IntKind.wrap IntKind.i64 (a1 - (↑(List.length a0.fst) : Int)) -
              (↑(List.length a0.snd.snd.snd.snd.snd.fst) : Int)),
          ())
-- laws.szEntryS
def m_laws_szEntryS (a0 : List (List UInt8 × (Int × (Int × (Int × (Int × (List UInt8 × Int))))))) (a1 : Int) : Option (Int × Unit) :=
  bif decide (IntKind.wrap IntKind.i64 (a1 - (↑(List.length a0) : Int)) < (0 : Int)) then some ((-1 : Int), ())
  else
    joinC
      (loopC
        (List.length a0 + Int.toNat (IntKind.wrap IntKind.i64 (a1 - (↑(List.length a0) : Int))) + Int.toNat (0 : Int) +
          (300 : Nat))
        (fun (s : (List (List UInt8 × Int × Int × Int × Int × List UInt8 × Int) × Int × Int × PUnit) × PUnit)
            (k :
              (List (List UInt8 × Int × Int × Int × Int × List UInt8 × Int) × Int × Int × PUnit) × PUnit →
                Option ((Int × PUnit) × PUnit ⊕ Int × PUnit)) =>
          bif decide (s.fst.snd.snd.fst < (↑(List.length s.fst.fst) : Int)) then
            if (0 : Int) ≤ s.fst.snd.snd.fst ∧ s.fst.snd.snd.fst < (↑(List.length s.fst.fst) : Int) then
              Option.bind
                (m_laws_szEntry
                  (List.getD s.fst.fst (Int.toNat s.fst.snd.snd.fst)
                    (nilOf UInt8, Int.ofNat (nat_lit 0), Int.ofNat (nat_lit 0), Int.ofNat (nat_lit 0),
                      Int.ofNat (nat_lit 0), nilOf UInt8, Int.ofNat (nat_lit 0)))
                  s.fst.snd.fst)
                fun (r : Int × PUnit) =>
                bif decide (r.fst < (0 : Int)) then some (Sum.inr ((-1 : Int), ()))
                else k ((s.fst.fst, r.fst, IntKind.wrap IntKind.i64 (s.fst.snd.snd.fst + (1 : Int)), ()), ())
            else none
          else some (Sum.inl ((s.fst.snd.fst, ()), ())))
        ((a0, IntKind.wrap IntKind.i64 (a1 - (↑(List.length a0) : Int)), (0 : Int), ()), ()))
      fun (s : (Int × PUnit) × PUnit) => some s.fst
-- laws.toEntry
def m_laws_toEntry (a0 : (List UInt8 × (Int × (Int × (Int × (Int × (List UInt8 × Int))))))) : Option ((List UInt8 × (Int × (Int × (Int × (Int × (List UInt8 × Int)))))) × Unit) :=
  some (a0, ())
-- laws.toEntryS
def m_laws_toEntryS (a0 : List (List UInt8 × (Int × (Int × (Int × (Int × (List UInt8 × Int))))))) : Option (List (List UInt8 × (Int × (Int × (Int × (Int × (List UInt8 × Int)))))) × Unit) :=
  if
      (0 : Int) ≤ (↑(List.length a0) : Int) ∧
        (↑(List.length a0) : Int) ≤ (↑(List.length a0) : Int) ∧
          (↑(72 : Nat) : Int) * (↑(List.length a0) : Int) ≤ (140737488355328 : Int) ∧
            (↑(List.length a0) : Int) < (2 : Int) ^ (62 : Nat) then
    Option.bind
      (loopC
        (List.length a0 + Int.toNat (0 : Int) +
            List.length
              (List.replicate (Int.toNat (↑(List.length a0) : Int))
                (nilOf UInt8, Int.ofNat (nat_lit 0), Int.ofNat (nat_lit 0), Int.ofNat (nat_lit 0),
                  Int.ofNat (nat_lit 0), nilOf UInt8, Int.ofNat (nat_lit 0))) +
          (300 : Nat))
        (fun
            (s :
              (List (List UInt8 × Int × Int × Int × Int × List UInt8 × Int) × PUnit × Int × PUnit) ×
                List (List UInt8 × Int × Int × Int × Int × List UInt8 × Int) × PUnit)
            (k :
              (List (List UInt8 × Int × Int × Int × Int × List UInt8 × Int) × PUnit × Int × PUnit) ×
                  List (List UInt8 × Int × Int × Int × Int × List UInt8 × Int) × PUnit →
                Option ((PUnit × PUnit) × List (List UInt8 × Int × Int × Int × Int × List UInt8 × Int) × PUnit)) =>
          bif decide (s.fst.snd.snd.fst < (↑(List.length s.fst.fst) : Int)) then
            if (0 : Int) ≤ s.fst.snd.snd.fst ∧ s.fst.snd.snd.fst < (↑(List.length s.fst.fst) : Int) then
              Option.bind
                (m_laws_toEntry
                  (List.getD s.fst.fst (Int.toNat s.fst.snd.snd.fst)
                    (nilOf UInt8, Int.ofNat (nat_lit 0), Int.ofNat (nat_lit 0), Int.ofNat (nat_lit 0),
                      Int.ofNat (nat_lit 0), nilOf UInt8, Int.ofNat (nat_lit 0))))
                fun (r : (List UInt8 × Int × Int × Int × Int × List UInt8 × Int) × PUnit) =>
                if (0 : Int) ≤ s.fst.snd.snd.fst ∧ s.fst.snd.snd.fst < (↑(List.length s.snd.fst) : Int) then
                  if Int.toNat s.fst.snd.snd.fst < List.length s.snd.fst then
                    k
                      ((s.fst.fst, (), IntKind.wrap IntKind.i64 (s.fst.snd.snd.fst + (1 : Int)), ()),
                        List.set s.snd.fst (Int.toNat s.fst.snd.snd.fst) r.fst, ())
                  else none
                else none
            else none
          else some (((), ()), s.snd))
        ((a0, (), (0 : Int), ()),
          List.replicate (Int.toNat (↑(List.length a0) : Int))
            (nilOf UInt8, Int.ofNat (nat_lit 0), Int.ofNat (nat_lit 0), Int.ofNat (nat_lit 0), Int.ofNat (nat_lit 0),
              nilOf UInt8, Int.ofNat (nat_lit 0)),
          ()))
      fun (s : (PUnit × PUnit) × List (List UInt8 × Int × Int × Int × Int × List UInt8 × Int) × PUnit) => some s.snd
  else none
-- spec.l02Names
def m_spec_l02Names (a0 : List UInt8) : Option (List (List UInt8) × Unit) :=
  Option.bind
    (loopC (List.length a0 + Int.toNat (0 : Int) + Int.toNat (0 : Int) + List.length (nilOf (List UInt8)) + (300 : Nat))
      (fun (s : (List UInt8 × PUnit × Int × Int × PUnit) × List (List UInt8) × PUnit)
          (k :
            (List UInt8 × PUnit × Int × Int × PUnit) × List (List UInt8) × PUnit →
              Option ((List UInt8 × PUnit × Int × PUnit) × List (List UInt8) × PUnit)) =>
        bif decide (s.fst.snd.snd.snd.fst < (↑(List.length s.fst.fst) : Int)) then
          if (0 : Int) ≤ s.fst.snd.snd.snd.fst ∧ s.fst.snd.snd.snd.fst < (↑(List.length s.fst.fst) : Int) then
            Option.bind
              (bif
                  (↑(UInt8.toNat (List.getD s.fst.fst (Int.toNat s.fst.snd.snd.snd.fst) (0 : UInt8))) : Int) ==
                    (47 : Int) then
                if
                    (0 : Int) ≤ s.fst.snd.snd.fst ∧
                      s.fst.snd.snd.fst ≤ s.fst.snd.snd.snd.fst ∧
                        s.fst.snd.snd.snd.fst ≤ (↑(List.length s.fst.fst) : Int) then
                  if
                      (List.length s.snd.fst +
                            List.length
                              [List.drop (Int.toNat s.fst.snd.snd.fst)
                                  (List.take (Int.toNat s.fst.snd.snd.snd.fst) s.fst.fst)]) *
                          (16 : Nat) ≤
                        (140737488355328 : Nat) then
                    some
                      ((s.fst.fst, (), IntKind.wrap IntKind.i64 (s.fst.snd.snd.snd.fst + (1 : Int)), s.fst.snd.snd.snd),
                        s.snd.fst ++
                          [List.drop (Int.toNat s.fst.snd.snd.fst)
                              (List.take (Int.toNat s.fst.snd.snd.snd.fst) s.fst.fst)],
                        ())
                  else none
                else none
              else some ((s.fst.fst, (), s.fst.snd.snd), s.snd))
              fun (s : (List UInt8 × PUnit × Int × Int × PUnit) × List (List UInt8) × PUnit) =>
              k
                ((s.fst.fst, (), s.fst.snd.snd.fst, IntKind.wrap IntKind.i64 (s.fst.snd.snd.snd.fst + (1 : Int)), ()),
                  s.snd)
          else none
        else some ((s.fst.fst, (), s.fst.snd.snd.fst, ()), s.snd))
      ((a0, (), (0 : Int), (0 : Int), ()), nilOf (List UInt8), ()))
    fun (s : (List UInt8 × PUnit × Int × PUnit) × List (List UInt8) × PUnit) =>
    if
        (0 : Int) ≤ s.fst.snd.snd.fst ∧
          s.fst.snd.snd.fst ≤ (↑(List.length s.fst.fst) : Int) ∧
            (↑(List.length s.fst.fst) : Int) ≤ (↑(List.length s.fst.fst) : Int) then
      if
          (List.length s.snd.fst +
                List.length
                  [List.drop (Int.toNat s.fst.snd.snd.fst)
                      (List.take (Int.toNat (↑(List.length s.fst.fst) : Int)) s.fst.fst)]) *
              (16 : Nat) ≤
            (140737488355328 : Nat) then
        some
          (s.snd.fst ++
              [List.drop (Int.toNat s.fst.snd.snd.fst)
                  (List.take (Int.toNat (↑(List.length s.fst.fst) : Int)) s.fst.fst)],
            ())
      else none
    else none
-- spec.l01In
def m_spec_l01In (a0 : Int) (a1 : Int) (a2 : Int) : Option (Bool × Unit) :=
  Option.bind (bif decide (a0 ≥ a1) then some ((decide (a0 ≤ a2), ()), ()) else some ((false, ()), ()))
    fun (s : (Bool × PUnit) × PUnit) => some (s.fst.fst, ())
-- spec.NameOk
def m_spec_NameOk (a0 : List UInt8) : Option (Bool × Unit) :=
  Option.bind
    (Option.bind (m_spec_l01In (↑(List.length a0) : Int) (1 : Int) (20 : Int)) fun (r : Bool × PUnit) =>
      bif !r.fst then some ((a0, true, ()), ())
      else
        bif a0 == [(46 : UInt8)] then some ((a0, true, ()), ())
        else some ((a0, a0 == [(46 : UInt8), (46 : UInt8)], ()), ()))
    fun (s : (List UInt8 × Bool × PUnit) × PUnit) =>
    bif s.fst.snd.fst then some (false, ())
    else
      joinC
        (loopC (List.length s.fst.fst + Int.toNat (0 : Int) + (300 : Nat))
          (fun (s : (List UInt8 × Int × PUnit) × PUnit)
              (k : (List UInt8 × Int × PUnit) × PUnit → Option (PUnit × PUnit ⊕ Bool × PUnit)) =>
            bif decide (s.fst.snd.fst < (↑(List.length s.fst.fst) : Int)) then
              if (0 : Int) ≤ s.fst.snd.fst ∧ s.fst.snd.fst < (↑(List.length s.fst.fst) : Int) then
                Option.bind
                  (Option.bind
                    (m_spec_l01In
                      (IntKind.wrap IntKind.i64
                        (↑(UInt8.toNat (List.getD s.fst.fst (Int.toNat s.fst.snd.fst) (0 : UInt8))) : Int))
                      (97 : Int) (122 : Int))
                    fun (r : Bool × PUnit) =>
                    bif !r.fst then
                      Option.bind
                        (m_spec_l01In
                          (IntKind.wrap IntKind.i64
                            (↑(UInt8.toNat (List.getD s.fst.fst (Int.toNat s.fst.snd.fst) (0 : UInt8))) : Int))
                          (65 : Int) (90 : Int))
                        fun (r : Bool × PUnit) =>
                        bif !r.fst then
                          Option.bind
                            (m_spec_l01In
                              (IntKind.wrap IntKind.i64
                                (↑(UInt8.toNat (List.getD s.fst.fst (Int.toNat s.fst.snd.fst) (0 : UInt8))) : Int))
                              (48 : Int) (57 : Int))
                            fun (r : Bool × PUnit) =>
                            bif !r.fst then
                              if (0 : Int) ≤ s.fst.snd.fst ∧ s.fst.snd.fst < (↑(List.length s.fst.fst) : Int) then
                                bif
                                    (↑(UInt8.toNat (List.getD s.fst.fst (Int.toNat s.fst.snd.fst) (0 : UInt8))) :
                                        Int) !=
                                      (46 : Int) then
                                  if (0 : Int) ≤ s.fst.snd.fst ∧ s.fst.snd.fst < (↑(List.length s.fst.fst) : Int) then
                                    bif
                                        (↑(UInt8.toNat (List.getD s.fst.fst (Int.toNat s.fst.snd.fst) (0 : UInt8))) :
                                            Int) !=
                                          (95 : Int) then
                                      if
                                          (0 : Int) ≤ s.fst.snd.fst ∧
                                            s.fst.snd.fst < (↑(List.length s.fst.fst) : Int) then
                                        some
                                          ((s.fst.fst, s.fst.snd.fst,
                                              (↑(UInt8.toNat
                                                      (List.getD s.fst.fst (Int.toNat s.fst.snd.fst) (0 : UInt8))) :
                                                  Int) !=
                                                (45 : Int),
                                              ()),
                                            ())
                                      else none
                                    else some ((s.fst.fst, s.fst.snd.fst, false, ()), ())
                                  else none
                                else some ((s.fst.fst, s.fst.snd.fst, false, ()), ())
                              else none
                            else some ((s.fst.fst, s.fst.snd.fst, false, ()), ())
                        else some ((s.fst.fst, s.fst.snd.fst, false, ()), ())
                    else some ((s.fst.fst, s.fst.snd.fst, false, ()), ()))
                  fun (s : (List UInt8 × Int × Bool × PUnit) × PUnit) =>
                  bif s.fst.snd.snd.fst then some (Sum.inr (false, ()))
                  else k ((s.fst.fst, IntKind.wrap IntKind.i64 (s.fst.snd.fst + (1 : Int)), ()), ())
              else none
            else some (Sum.inl ((), ())))
          ((s.fst.fst, (0 : Int), ()), ()))
        fun (s : PUnit × PUnit) => some (true, ())
-- spec.PathOk
def m_spec_PathOk (a0 : List UInt8) : Option (Bool × Unit) :=
  bif decide ((↑(List.length a0) : Int) > (200 : Int)) then some (false, ())
  else
    Option.bind (m_spec_l02Names a0) fun (r : List (List UInt8) × PUnit) =>
      joinC
        (loopC (List.length r.fst + Int.toNat (0 : Int) + (300 : Nat))
          (fun (s : (List (List UInt8) × Int × PUnit) × PUnit)
              (k :
                (List (List UInt8) × Int × PUnit) × PUnit →
                  Option ((List (List UInt8) × PUnit) × PUnit ⊕ Bool × PUnit)) =>
            bif decide (s.fst.snd.fst < (↑(List.length s.fst.fst) : Int)) then
              if (0 : Int) ≤ s.fst.snd.fst ∧ s.fst.snd.fst < (↑(List.length s.fst.fst) : Int) then
                Option.bind (m_spec_NameOk (List.getD s.fst.fst (Int.toNat s.fst.snd.fst) (nilOf UInt8)))
                  fun (r : Bool × PUnit) =>
                  bif !r.fst then some (Sum.inr (false, ()))
                  else k ((s.fst.fst, IntKind.wrap IntKind.i64 (s.fst.snd.fst + (1 : Int)), ()), ())
              else none
            else some (Sum.inl ((s.fst.fst, ()), ())))
          ((r.fst, (0 : Int), ()), ()))
        fun (s : (List (List UInt8) × PUnit) × PUnit) =>
        some (decide ((↑(List.length s.fst.fst) : Int) ≤ (8 : Int)), ())
-- spec.NodeOk
def m_spec_NodeOk (a0 : (List UInt8 × (Int × (Int × (Int × (List UInt8 × (List UInt8 × Int))))))) : Option (Bool × Unit) :=
  Option.bind
    (Option.bind (m_spec_PathOk a0.fst) fun (r : Bool × PUnit) =>
      bif !r.fst then
        some
          (((), true, ()),
            (a0.fst, a0.snd.fst, a0.snd.snd.fst, a0.snd.snd.snd.fst, a0.snd.snd.snd.snd.fst, a0.snd.snd.snd.snd.snd.fst,
              a0.snd.snd.snd.snd.snd.snd, ()),
            ())
      else
        Option.bind (m_spec_l01In a0.snd.snd.fst (0 : Int) (511 : Int)) fun (r : Bool × PUnit) =>
          bif !r.fst then
            some
              (((), true, ()),
                (a0.fst, a0.snd.fst, a0.snd.snd.fst, a0.snd.snd.snd.fst, a0.snd.snd.snd.snd.fst,
                  a0.snd.snd.snd.snd.snd.fst, a0.snd.snd.snd.snd.snd.snd, ()),
                ())
          else
            Option.bind (m_spec_l01In a0.snd.snd.snd.fst (0 : Int) (1000000000 : Int)) fun (r : Bool × PUnit) =>
              some
                (((), !r.fst, ()),
                  (a0.fst, a0.snd.fst, a0.snd.snd.fst, a0.snd.snd.snd.fst, a0.snd.snd.snd.snd.fst,
                    a0.snd.snd.snd.snd.snd.fst, a0.snd.snd.snd.snd.snd.snd, ()),
                  ()))
    fun (s : (PUnit × Bool × PUnit) × (List UInt8 × Int × Int × Int × List UInt8 × List UInt8 × Int × PUnit) × PUnit) =>
    bif s.fst.snd.fst then some (false, ())
    else
      bif s.snd.fst.snd.fst == (0 : Int) then
        Option.bind
          (bif s.snd.fst.snd.snd.snd.snd.fst == nilOf UInt8 then
            bif s.snd.fst.snd.snd.snd.snd.snd.fst == nilOf UInt8 then
              some ((s.snd.fst.snd.snd.snd.snd.snd.snd.fst == (0 : Int), ()), ())
            else some ((false, ()), ())
          else some ((false, ()), ()))
          fun (s : (Bool × PUnit) × PUnit) => some s.fst
      else
        bif s.snd.fst.snd.fst == (1 : Int) then
          Option.bind
            (bif decide ((↑(List.length s.snd.fst.snd.snd.snd.snd.fst) : Int) ≤ (20000 : Int)) then
              bif s.snd.fst.snd.snd.snd.snd.snd.fst == nilOf UInt8 then
                Option.bind (m_spec_l01In s.snd.fst.snd.snd.snd.snd.snd.snd.fst (0 : Int) (200 : Int))
                  fun (r : Bool × PUnit) => some (r, ())
              else some ((false, ()), ())
            else some ((false, ()), ()))
            fun (s : (Bool × PUnit) × PUnit) => some s.fst
        else
          bif s.snd.fst.snd.fst == (2 : Int) then
            Option.bind
              (bif !s.snd.fst.snd.snd.snd.snd.fst == nilOf UInt8 then some (((), true, ()), s.snd)
              else
                bif s.snd.fst.snd.snd.fst != (0 : Int) then some (((), true, ()), s.snd)
                else
                  bif s.snd.fst.snd.snd.snd.snd.snd.snd.fst != (0 : Int) then some (((), true, ()), s.snd)
                  else
                    Option.bind
                      (m_spec_l01In (↑(List.length s.snd.fst.snd.snd.snd.snd.snd.fst) : Int) (1 : Int) (60 : Int))
                      fun (r : Bool × PUnit) => some (((), !r.fst, ()), s.snd))
              fun
                (s :
                  (PUnit × Bool × PUnit) ×
                    (List UInt8 × Int × Int × Int × List UInt8 × List UInt8 × Int × PUnit) × PUnit) =>
              bif s.fst.snd.fst then some (false, ())
              else
                joinC
                  (loopC
                    (Int.toNat (0 : Int) + List.length s.snd.fst.fst + Int.toNat s.snd.fst.snd.fst +
                                Int.toNat s.snd.fst.snd.snd.fst +
                              Int.toNat s.snd.fst.snd.snd.snd.fst +
                            List.length s.snd.fst.snd.snd.snd.snd.fst +
                          List.length s.snd.fst.snd.snd.snd.snd.snd.fst +
                        Int.toNat s.snd.fst.snd.snd.snd.snd.snd.snd.fst +
                      (300 : Nat))
                    (fun
                        (s :
                          (PUnit × Int × PUnit) ×
                            (List UInt8 × Int × Int × Int × List UInt8 × List UInt8 × Int × PUnit) × PUnit)
                        (k :
                          (PUnit × Int × PUnit) ×
                              (List UInt8 × Int × Int × Int × List UInt8 × List UInt8 × Int × PUnit) × PUnit →
                            Option (PUnit × PUnit ⊕ Bool × PUnit)) =>
                      bif decide (s.fst.snd.fst < (↑(List.length s.snd.fst.snd.snd.snd.snd.snd.fst) : Int)) then
                        if
                            (0 : Int) ≤ s.fst.snd.fst ∧
                              s.fst.snd.fst < (↑(List.length s.snd.fst.snd.snd.snd.snd.snd.fst) : Int) then
                          bif
                              (↑(UInt8.toNat
                                      (List.getD s.snd.fst.snd.snd.snd.snd.snd.fst (Int.toNat s.fst.snd.fst)
                                        (0 : UInt8))) :
                                  Int) ==
                                (10 : Int) then
                            some (Sum.inr (false, ()))
                          else k (((), IntKind.wrap IntKind.i64 (s.fst.snd.fst + (1 : Int)), ()), s.snd)
                        else none
                      else some (Sum.inl ((), ())))
                    (((), (0 : Int), ()), s.snd))
                  fun (s : PUnit × PUnit) => some (true, ())
          else some (false, ())
-- spec.EntriesOk
def m_spec_EntriesOk (a0 : List (List UInt8 × (Int × (Int × (Int × (Int × (List UInt8 × Int))))))) : Option (Bool × Unit) :=
  bif decide ((↑(List.length a0) : Int) > (200 : Int)) then some (false, ())
  else
    joinC
      (loopC (List.length a0 + Int.toNat (0 : Int) + (300 : Nat))
        (fun (s : (List (List UInt8 × Int × Int × Int × Int × List UInt8 × Int) × Int × PUnit) × PUnit)
            (k :
              (List (List UInt8 × Int × Int × Int × Int × List UInt8 × Int) × Int × PUnit) × PUnit →
                Option (PUnit × PUnit ⊕ Bool × PUnit)) =>
          bif decide (s.fst.snd.fst < (↑(List.length s.fst.fst) : Int)) then
            if (0 : Int) ≤ s.fst.snd.fst ∧ s.fst.snd.fst < (↑(List.length s.fst.fst) : Int) then
              Option.bind
                (Option.bind
                  (m_spec_NodeOk
                    ((List.getD s.fst.fst (Int.toNat s.fst.snd.fst)
                          (nilOf UInt8, Int.ofNat (nat_lit 0), Int.ofNat (nat_lit 0), Int.ofNat (nat_lit 0),
                            Int.ofNat (nat_lit 0), nilOf UInt8, Int.ofNat (nat_lit 0))).fst,
                      (List.getD s.fst.fst (Int.toNat s.fst.snd.fst)
                            (nilOf UInt8, Int.ofNat (nat_lit 0), Int.ofNat (nat_lit 0), Int.ofNat (nat_lit 0),
                              Int.ofNat (nat_lit 0), nilOf UInt8, Int.ofNat (nat_lit 0))).snd.fst,
                      (List.getD s.fst.fst (Int.toNat s.fst.snd.fst)
                              (nilOf UInt8, Int.ofNat (nat_lit 0), Int.ofNat (nat_lit 0), Int.ofNat (nat_lit 0),
                                Int.ofNat (nat_lit 0), nilOf UInt8, Int.ofNat (nat_lit 0))).snd.snd.fst,
                      (List.getD s.fst.fst (Int.toNat s.fst.snd.fst)
                                (nilOf UInt8, Int.ofNat (nat_lit 0), Int.ofNat (nat_lit 0), Int.ofNat (nat_lit 0),
                                  Int.ofNat (nat_lit 0), nilOf UInt8, Int.ofNat (nat_lit 0))).snd.snd.snd.fst,
                      nilOf UInt8,
                      (List.getD s.fst.fst (Int.toNat s.fst.snd.fst)
                                  (nilOf UInt8, Int.ofNat (nat_lit 0), Int.ofNat (nat_lit 0), Int.ofNat (nat_lit 0),
                                    Int.ofNat (nat_lit 0), nilOf UInt8, Int.ofNat (nat_lit 0))).snd.snd.snd.snd.snd))
                  fun (r : Bool × PUnit) =>
                  bif !r.fst then some ((s.fst.fst, s.fst.snd.fst, true, ()), ())
                  else
                    Option.bind
                      (m_spec_l01In
                        (List.getD s.fst.fst (Int.toNat s.fst.snd.fst)
                                    (nilOf UInt8, Int.ofNat (nat_lit 0), Int.ofNat (nat_lit 0), Int.ofNat (nat_lit 0),
                                      Int.ofNat (nat_lit 0), nilOf UInt8, Int.ofNat (nat_lit 0))).snd.snd.snd.snd.fst
                        (0 : Int) (20000 : Int))
                      fun (r : Bool × PUnit) =>
                      bif !r.fst then some ((s.fst.fst, s.fst.snd.fst, true, ()), ())
                      else
                        bif
                            (List.getD s.fst.fst (Int.toNat s.fst.snd.fst)
                                    (nilOf UInt8, Int.ofNat (nat_lit 0), Int.ofNat (nat_lit 0), Int.ofNat (nat_lit 0),
                                      Int.ofNat (nat_lit 0), nilOf UInt8, Int.ofNat (nat_lit 0))).snd.fst !=
                              (1 : Int) then
                          bif
                              (List.getD s.fst.fst (Int.toNat s.fst.snd.fst)
                                            (nilOf UInt8, Int.ofNat (nat_lit 0), Int.ofNat (nat_lit 0),
                                              Int.ofNat (nat_lit 0), Int.ofNat (nat_lit 0), nilOf UInt8,
                                              Int.ofNat (nat_lit 0))).snd.snd.snd.snd.fst !=
                                (0 : Int) then
                            some ((s.fst.fst, s.fst.snd.fst, true, ()), ())
                          else
                            bif decide (s.fst.snd.fst > (0 : Int)) then
                              if
                                  (0 : Int) ≤ IntKind.wrap IntKind.i64 (s.fst.snd.fst - (1 : Int)) ∧
                                    IntKind.wrap IntKind.i64 (s.fst.snd.fst - (1 : Int)) <
                                      (↑(List.length s.fst.fst) : Int) then
                                some
                                  ((s.fst.fst, s.fst.snd.fst,
                                      !Op.bytesLess
                                          (List.getD s.fst.fst
                                              (Int.toNat (IntKind.wrap IntKind.i64 (s.fst.snd.fst - (1 : Int))))
                                              (nilOf UInt8, Int.ofNat (nat_lit 0), Int.ofNat (nat_lit 0),
                                                Int.ofNat (nat_lit 0), Int.ofNat (nat_lit 0), nilOf UInt8,
                                                Int.ofNat (nat_lit 0))).fst
                                          (List.getD s.fst.fst (Int.toNat s.fst.snd.fst)
                                              (nilOf UInt8, Int.ofNat (nat_lit 0), Int.ofNat (nat_lit 0),
                                                Int.ofNat (nat_lit 0), Int.ofNat (nat_lit 0), nilOf UInt8,
                                                Int.ofNat (nat_lit 0))).fst,
                                      ()),
                                    ())
                              else none
                            else some ((s.fst.fst, s.fst.snd.fst, false, ()), ())
                        else
                          bif decide (s.fst.snd.fst > (0 : Int)) then
                            if
                                (0 : Int) ≤ IntKind.wrap IntKind.i64 (s.fst.snd.fst - (1 : Int)) ∧
                                  IntKind.wrap IntKind.i64 (s.fst.snd.fst - (1 : Int)) <
                                    (↑(List.length s.fst.fst) : Int) then
                              some
                                ((s.fst.fst, s.fst.snd.fst,
                                    !Op.bytesLess
                                        (List.getD s.fst.fst
                                            (Int.toNat (IntKind.wrap IntKind.i64 (s.fst.snd.fst - (1 : Int))))
                                            (nilOf UInt8, Int.ofNat (nat_lit 0), Int.ofNat (nat_lit 0),
                                              Int.ofNat (nat_lit 0), Int.ofNat (nat_lit 0), nilOf UInt8,
                                              Int.ofNat (nat_lit 0))).fst
                                        (List.getD s.fst.fst (Int.toNat s.fst.snd.fst)
                                            (nilOf UInt8, Int.ofNat (nat_lit 0), Int.ofNat (nat_lit 0),
                                              Int.ofNat (nat_lit 0), Int.ofNat (nat_lit 0), nilOf UInt8,
                                              Int.ofNat (nat_lit 0))).fst,
                                    ()),
                                  ())
                            else none
                          else some ((s.fst.fst, s.fst.snd.fst, false, ()), ()))
                fun (s : (List (List UInt8 × Int × Int × Int × Int × List UInt8 × Int) × Int × Bool × PUnit) × PUnit) =>
                bif s.fst.snd.snd.fst then some (Sum.inr (false, ()))
                else k ((s.fst.fst, IntKind.wrap IntKind.i64 (s.fst.snd.fst + (1 : Int)), ()), ())
            else none
          else some (Sum.inl ((), ())))
        ((a0, (0 : Int), ()), ()))
      fun (s : PUnit × PUnit) => some (true, ())
-- internal/bytealg.CountString
def m_bytealg_CountString (a0 : List UInt8) (a1 : Int) : Option (Int × Unit) := some ((Go.Lib.countByte a0 a1.toNat.toUInt8 : Nat), ())
-- strings.Count
def m_strings_Count (a0 : List UInt8) : Option (Int × Unit) :=
  if (0 : Int) ≤ (0 : Int) ∧ (0 : Int) < (↑(List.length [(47 : UInt8)]) : Int) then
    Option.bind
      (m_bytealg_CountString a0 (↑(UInt8.toNat (List.getD [(47 : UInt8)] (Int.toNat (0 : Int)) (0 : UInt8))) : Int))
      fun (r : Int × PUnit) => some r
  else none
-- internal/bytealg.IndexByteString
def m_bytealg_IndexByteString (a0 : List UInt8) (a1 : Int) : Option (Int × Unit) := some (Go.Lib.indexByte a0 a1.toNat.toUInt8, ())
-- internal/stringslite.IndexByte
def m_stringslite_IndexByte (a0 : List UInt8) (a1 : Int) : Option (Int × Unit) :=
  Option.bind (m_bytealg_IndexByteString a0 a1) fun (r : Int × PUnit) => some r
-- internal/stringslite.Index
def m_stringslite_Index (a0 : List UInt8) : Option (Int × Unit) :=
  bif [(47 : UInt8)] == a0 then some ((0 : Int), ())
  else
    if (0 : Int) ≤ (0 : Int) ∧ (0 : Int) < (↑(List.length [(47 : UInt8)]) : Int) then
      Option.bind
        (m_stringslite_IndexByte a0 (↑(UInt8.toNat (List.getD [(47 : UInt8)] (Int.toNat (0 : Int)) (0 : UInt8))) : Int))
        fun (r : Int × PUnit) => some r
    else none
-- strings.Index
def m_strings_Index (a0 : List UInt8) : Option (Int × Unit) := Option.bind (m_stringslite_Index a0) fun (r : Int × PUnit) => some r
-- strings.genSplit
def m_strings_genSplit (a0 : List UInt8) : Option (List (List UInt8) × Unit) :=
  Option.bind (m_strings_Count a0) fun (r : Int × PUnit) =>
    if
        ((0 : Int) ≤
            if
                IntKind.wrap IntKind.i64 ((↑(List.length a0) : Int) + (1 : Int)) <
                  IntKind.wrap IntKind.i64 (r.fst + (1 : Int)) then
              IntKind.wrap IntKind.i64 ((↑(List.length a0) : Int) + (1 : Int))
            else IntKind.wrap IntKind.i64 (r.fst + (1 : Int))) ∧
          ((if
                  IntKind.wrap IntKind.i64 ((↑(List.length a0) : Int) + (1 : Int)) <
                    IntKind.wrap IntKind.i64 (r.fst + (1 : Int)) then
                IntKind.wrap IntKind.i64 ((↑(List.length a0) : Int) + (1 : Int))
              else IntKind.wrap IntKind.i64 (r.fst + (1 : Int))) ≤
              if
                  IntKind.wrap IntKind.i64 ((↑(List.length a0) : Int) + (1 : Int)) <
                    IntKind.wrap IntKind.i64 (r.fst + (1 : Int)) then
                IntKind.wrap IntKind.i64 ((↑(List.length a0) : Int) + (1 : Int))
              else IntKind.wrap IntKind.i64 (r.fst + (1 : Int))) ∧
            ((↑(16 : Nat) : Int) *
                  if
                      IntKind.wrap IntKind.i64 ((↑(List.length a0) : Int) + (1 : Int)) <
                        IntKind.wrap IntKind.i64 (r.fst + (1 : Int)) then
                    IntKind.wrap IntKind.i64 ((↑(List.length a0) : Int) + (1 : Int))
                  else IntKind.wrap IntKind.i64 (r.fst + (1 : Int))) ≤
                (140737488355328 : Int) ∧
              (if
                    IntKind.wrap IntKind.i64 ((↑(List.length a0) : Int) + (1 : Int)) <
                      IntKind.wrap IntKind.i64 (r.fst + (1 : Int)) then
                  IntKind.wrap IntKind.i64 ((↑(List.length a0) : Int) + (1 : Int))
                else IntKind.wrap IntKind.i64 (r.fst + (1 : Int))) <
                (2 : Int) ^ (62 : Nat) then
      Option.bind
        (loopC
          (List.length a0 +
                  Int.toNat
                    (IntKind.wrap IntKind.i64
                      ((if
                            IntKind.wrap IntKind.i64 ((↑(List.length a0) : Int) + (1 : Int)) <
                              IntKind.wrap IntKind.i64 (r.fst + (1 : Int)) then
                          IntKind.wrap IntKind.i64 ((↑(List.length a0) : Int) + (1 : Int))
                        else IntKind.wrap IntKind.i64 (r.fst + (1 : Int))) -
                        (1 : Int))) +
                Int.toNat (0 : Int) +
              List.length
                (List.replicate
                  (Int.toNat
                    (if
                        IntKind.wrap IntKind.i64 ((↑(List.length a0) : Int) + (1 : Int)) <
                          IntKind.wrap IntKind.i64 (r.fst + (1 : Int)) then
                      IntKind.wrap IntKind.i64 ((↑(List.length a0) : Int) + (1 : Int))
                    else IntKind.wrap IntKind.i64 (r.fst + (1 : Int))))
                  (nilOf UInt8)) +
            (300 : Nat))
          (fun (s : (List UInt8 × PUnit × PUnit × Int × PUnit × Int × PUnit) × List (List UInt8) × PUnit)
              (k :
                (List UInt8 × PUnit × PUnit × Int × PUnit × Int × PUnit) × List (List UInt8) × PUnit →
                  Option ((List UInt8 × PUnit × Int × PUnit) × List (List UInt8) × PUnit)) =>
            bif decide (s.fst.snd.snd.snd.snd.snd.fst < s.fst.snd.snd.snd.fst) then
              Option.bind (m_strings_Index s.fst.fst) fun (r : Int × PUnit) =>
                bif decide (r.fst < (0 : Int)) then some ((s.fst.fst, (), s.fst.snd.snd.snd.snd.snd), s.snd)
                else
                  if
                      (0 : Int) ≤ (0 : Int) ∧
                        (0 : Int) ≤ IntKind.wrap IntKind.i64 (r.fst + (0 : Int)) ∧
                          IntKind.wrap IntKind.i64 (r.fst + (0 : Int)) ≤ (↑(List.length s.fst.fst) : Int) then
                    if
                        (0 : Int) ≤ s.fst.snd.snd.snd.snd.snd.fst ∧
                          s.fst.snd.snd.snd.snd.snd.fst < (↑(List.length s.snd.fst) : Int) then
                      if Int.toNat s.fst.snd.snd.snd.snd.snd.fst < List.length s.snd.fst then
                        if
                            (0 : Int) ≤ IntKind.wrap IntKind.i64 (r.fst + (↑(List.length [(47 : UInt8)]) : Int)) ∧
                              IntKind.wrap IntKind.i64 (r.fst + (↑(List.length [(47 : UInt8)]) : Int)) ≤
                                  (↑(List.length s.fst.fst) : Int) ∧
                                (↑(List.length s.fst.fst) : Int) ≤ (↑(List.length s.fst.fst) : Int) then
                          k
                            ((List.drop
                                  (Int.toNat (IntKind.wrap IntKind.i64 (r.fst + (↑(List.length [(47 : UInt8)]) : Int))))
                                  (List.take (Int.toNat (↑(List.length s.fst.fst) : Int)) s.fst.fst),
                                (), (), s.fst.snd.snd.snd.fst, (),
                                IntKind.wrap IntKind.i64 (s.fst.snd.snd.snd.snd.snd.fst + (1 : Int)), ()),
                              List.set s.snd.fst (Int.toNat s.fst.snd.snd.snd.snd.snd.fst)
                                (List.drop (Int.toNat (0 : Int))
                                  (List.take (Int.toNat (IntKind.wrap IntKind.i64 (r.fst + (0 : Int)))) s.fst.fst)),
                              ())
                        else none
                      else none
                    else none
                  else none
            else some ((s.fst.fst, (), s.fst.snd.snd.snd.snd.snd), s.snd))
          ((a0, (), (),
              IntKind.wrap IntKind.i64
                ((if
                      IntKind.wrap IntKind.i64 ((↑(List.length a0) : Int) + (1 : Int)) <
                        IntKind.wrap IntKind.i64 (r.fst + (1 : Int)) then
                    IntKind.wrap IntKind.i64 ((↑(List.length a0) : Int) + (1 : Int))
                  else IntKind.wrap IntKind.i64 (r.fst + (1 : Int))) -
                  (1 : Int)),
              (), (0 : Int), ()),
            List.replicate
              (Int.toNat
                (if
                    IntKind.wrap IntKind.i64 ((↑(List.length a0) : Int) + (1 : Int)) <
                      IntKind.wrap IntKind.i64 (r.fst + (1 : Int)) then
                  IntKind.wrap IntKind.i64 ((↑(List.length a0) : Int) + (1 : Int))
                else IntKind.wrap IntKind.i64 (r.fst + (1 : Int))))
              (nilOf UInt8),
            ()))
        fun (s : (List UInt8 × PUnit × Int × PUnit) × List (List UInt8) × PUnit) =>
        if (0 : Int) ≤ s.fst.snd.snd.fst ∧ s.fst.snd.snd.fst < (↑(List.length s.snd.fst) : Int) then
          if Int.toNat s.fst.snd.snd.fst < List.length s.snd.fst then
            if
                (0 : Int) ≤ (0 : Int) ∧
                  (0 : Int) ≤ IntKind.wrap IntKind.i64 (s.fst.snd.snd.fst + (1 : Int)) ∧
                    IntKind.wrap IntKind.i64 (s.fst.snd.snd.fst + (1 : Int)) ≤
                      (↑(List.length (List.set s.snd.fst (Int.toNat s.fst.snd.snd.fst) s.fst.fst)) : Int) then
              some
                (List.drop (Int.toNat (0 : Int))
                    (List.take (Int.toNat (IntKind.wrap IntKind.i64 (s.fst.snd.snd.fst + (1 : Int))))
                      (List.set s.snd.fst (Int.toNat s.fst.snd.snd.fst) s.fst.fst)),
                  ())
            else none
          else none
        else none
    else none
-- strings.Split
def m_strings_Split (a0 : List UInt8) : Option (List (List UInt8) × Unit) :=
  Option.bind (m_strings_genSplit a0) fun (r : List (List UInt8) × PUnit) => some r
-- impl.within
def m_impl_within (a0 : Int) (a1 : Int) (a2 : Int) : Option (Bool × Unit) :=
  Option.bind (bif decide (a0 ≥ a1) then some ((decide (a0 ≤ a2), ()), ()) else some ((false, ()), ()))
    fun (s : (Bool × PUnit) × PUnit) => some (s.fst.fst, ())
-- impl.NameOk
def m_impl_NameOk (a0 : List UInt8) : Option (Bool × Unit) :=
  joinC
    (loopC (List.length a0 + Int.toNat (↑(List.length a0) : Int) + Int.toNat (0 : Int) + (300 : Nat))
      (fun (s : (List UInt8 × Int × Int × PUnit) × PUnit)
          (k : (List UInt8 × Int × Int × PUnit) × PUnit → Option ((List UInt8 × PUnit) × PUnit ⊕ Bool × PUnit)) =>
        bif decide (s.fst.snd.snd.fst < s.fst.snd.fst) then
          if (0 : Int) ≤ s.fst.snd.snd.fst ∧ s.fst.snd.snd.fst < (↑(List.length s.fst.fst) : Int) then
            Option.bind
              (bif
                  decide
                    ((↑(UInt8.toNat (List.getD s.fst.fst (Int.toNat s.fst.snd.snd.fst) (0 : UInt8))) : Int) ≥
                      (97 : Int)) then
                bif
                    decide
                      ((↑(UInt8.toNat (List.getD s.fst.fst (Int.toNat s.fst.snd.snd.fst) (0 : UInt8))) : Int) ≤
                        (122 : Int)) then
                  some ((s.fst.fst, s.fst.snd.fst, s.fst.snd.snd.fst, !true, ()), ())
                else
                  bif
                      decide
                        ((↑(UInt8.toNat (List.getD s.fst.fst (Int.toNat s.fst.snd.snd.fst) (0 : UInt8))) : Int) ≥
                          (65 : Int)) then
                    bif
                        decide
                          ((↑(UInt8.toNat (List.getD s.fst.fst (Int.toNat s.fst.snd.snd.fst) (0 : UInt8))) : Int) ≤
                            (90 : Int)) then
                      some ((s.fst.fst, s.fst.snd.fst, s.fst.snd.snd.fst, !true, ()), ())
                    else
                      bif
                          decide
                            ((↑(UInt8.toNat (List.getD s.fst.fst (Int.toNat s.fst.snd.snd.fst) (0 : UInt8))) : Int) ≥
                              (48 : Int)) then
                        bif
                            decide
                              ((↑(UInt8.toNat (List.getD s.fst.fst (Int.toNat s.fst.snd.snd.fst) (0 : UInt8))) : Int) ≤
                                (57 : Int)) then
                          some ((s.fst.fst, s.fst.snd.fst, s.fst.snd.snd.fst, !true, ()), ())
                        else
                          bif
                              (↑(UInt8.toNat (List.getD s.fst.fst (Int.toNat s.fst.snd.snd.fst) (0 : UInt8))) : Int) ==
                                (46 : Int) then
                            some ((s.fst.fst, s.fst.snd.fst, s.fst.snd.snd.fst, !true, ()), ())
                          else
                            bif
                                (↑(UInt8.toNat (List.getD s.fst.fst (Int.toNat s.fst.snd.snd.fst) (0 : UInt8))) :
                                    Int) ==
                                  (95 : Int) then
                              some ((s.fst.fst, s.fst.snd.fst, s.fst.snd.snd.fst, !true, ()), ())
                            else
                              some
                                ((s.fst.fst, s.fst.snd.fst, s.fst.snd.snd.fst,
                                    !(↑(UInt8.toNat (List.getD s.fst.fst (Int.toNat s.fst.snd.snd.fst) (0 : UInt8))) :
                                          Int) ==
                                        (45 : Int),
                                    ()),
                                  ())
                      else
                        bif
                            (↑(UInt8.toNat (List.getD s.fst.fst (Int.toNat s.fst.snd.snd.fst) (0 : UInt8))) : Int) ==
                              (46 : Int) then
                          some ((s.fst.fst, s.fst.snd.fst, s.fst.snd.snd.fst, !true, ()), ())
                        else
                          bif
                              (↑(UInt8.toNat (List.getD s.fst.fst (Int.toNat s.fst.snd.snd.fst) (0 : UInt8))) : Int) ==
                                (95 : Int) then
                            some ((s.fst.fst, s.fst.snd.fst, s.fst.snd.snd.fst, !true, ()), ())
                          else
                            some
                              ((s.fst.fst, s.fst.snd.fst, s.fst.snd.snd.fst,
                                  !(↑(UInt8.toNat (List.getD s.fst.fst (Int.toNat s.fst.snd.snd.fst) (0 : UInt8))) :
                                        Int) ==
                                      (45 : Int),
                                  ()),
                                ())
                  else
                    bif
                        decide
                          ((↑(UInt8.toNat (List.getD s.fst.fst (Int.toNat s.fst.snd.snd.fst) (0 : UInt8))) : Int) ≥
                            (48 : Int)) then
                      bif
                          decide
                            ((↑(UInt8.toNat (List.getD s.fst.fst (Int.toNat s.fst.snd.snd.fst) (0 : UInt8))) : Int) ≤
                              (57 : Int)) then
                        some ((s.fst.fst, s.fst.snd.fst, s.fst.snd.snd.fst, !true, ()), ())
                      else
                        bif
                            (↑(UInt8.toNat (List.getD s.fst.fst (Int.toNat s.fst.snd.snd.fst) (0 : UInt8))) : Int) ==
                              (46 : Int) then
                          some ((s.fst.fst, s.fst.snd.fst, s.fst.snd.snd.fst, !true, ()), ())
                        else
                          bif
                              (↑(UInt8.toNat (List.getD s.fst.fst (Int.toNat s.fst.snd.snd.fst) (0 : UInt8))) : Int) ==
                                (95 : Int) then
                            some ((s.fst.fst, s.fst.snd.fst, s.fst.snd.snd.fst, !true, ()), ())
                          else
                            some
                              ((s.fst.fst, s.fst.snd.fst, s.fst.snd.snd.fst,
                                  !(↑(UInt8.toNat (List.getD s.fst.fst (Int.toNat s.fst.snd.snd.fst) (0 : UInt8))) :
                                        Int) ==
                                      (45 : Int),
                                  ()),
                                ())
                    else
                      bif
                          (↑(UInt8.toNat (List.getD s.fst.fst (Int.toNat s.fst.snd.snd.fst) (0 : UInt8))) : Int) ==
                            (46 : Int) then
                        some ((s.fst.fst, s.fst.snd.fst, s.fst.snd.snd.fst, !true, ()), ())
                      else
                        bif
                            (↑(UInt8.toNat (List.getD s.fst.fst (Int.toNat s.fst.snd.snd.fst) (0 : UInt8))) : Int) ==
                              (95 : Int) then
                          some ((s.fst.fst, s.fst.snd.fst, s.fst.snd.snd.fst, !true, ()), ())
                        else
                          some
                            ((s.fst.fst, s.fst.snd.fst, s.fst.snd.snd.fst,
                                !(↑(UInt8.toNat (List.getD s.fst.fst (Int.toNat s.fst.snd.snd.fst) (0 : UInt8))) :
                                      Int) ==
                                    (45 : Int),
                                ()),
                              ())
              else
                bif
                    decide
                      ((↑(UInt8.toNat (List.getD s.fst.fst (Int.toNat s.fst.snd.snd.fst) (0 : UInt8))) : Int) ≥
                        (65 : Int)) then
                  bif
                      decide
                        ((↑(UInt8.toNat (List.getD s.fst.fst (Int.toNat s.fst.snd.snd.fst) (0 : UInt8))) : Int) ≤
                          (90 : Int)) then
                    some ((s.fst.fst, s.fst.snd.fst, s.fst.snd.snd.fst, !true, ()), ())
                  else
                    bif
                        decide
                          ((↑(UInt8.toNat (List.getD s.fst.fst (Int.toNat s.fst.snd.snd.fst) (0 : UInt8))) : Int) ≥
                            (48 : Int)) then
                      bif
                          decide
                            ((↑(UInt8.toNat (List.getD s.fst.fst (Int.toNat s.fst.snd.snd.fst) (0 : UInt8))) : Int) ≤
                              (57 : Int)) then
                        some ((s.fst.fst, s.fst.snd.fst, s.fst.snd.snd.fst, !true, ()), ())
                      else
                        bif
                            (↑(UInt8.toNat (List.getD s.fst.fst (Int.toNat s.fst.snd.snd.fst) (0 : UInt8))) : Int) ==
                              (46 : Int) then
                          some ((s.fst.fst, s.fst.snd.fst, s.fst.snd.snd.fst, !true, ()), ())
                        else
                          bif
                              (↑(UInt8.toNat (List.getD s.fst.fst (Int.toNat s.fst.snd.snd.fst) (0 : UInt8))) : Int) ==
                                (95 : Int) then
                            some ((s.fst.fst, s.fst.snd.fst, s.fst.snd.snd.fst, !true, ()), ())
                          else
                            some
                              ((s.fst.fst, s.fst.snd.fst, s.fst.snd.snd.fst,
                                  !(↑(UInt8.toNat (List.getD s.fst.fst (Int.toNat s.fst.snd.snd.fst) (0 : UInt8))) :
                                        Int) ==
                                      (45 : Int),
                                  ()),
                                ())
                    else
                      bif
                          (↑(UInt8.toNat (List.getD s.fst.fst (Int.toNat s.fst.snd.snd.fst) (0 : UInt8))) : Int) ==
                            (46 : Int) then
                        some ((s.fst.fst, s.fst.snd.fst, s.fst.snd.snd.fst, !true, ()), ())
                      else
                        bif
                            (↑(UInt8.toNat (List.getD s.fst.fst (Int.toNat s.fst.snd.snd.fst) (0 : UInt8))) : Int) ==
                              (95 : Int) then
                          some ((s.fst.fst, s.fst.snd.fst, s.fst.snd.snd.fst, !true, ()), ())
                        else
                          some
                            ((s.fst.fst, s.fst.snd.fst, s.fst.snd.snd.fst,
                                !(↑(UInt8.toNat (List.getD s.fst.fst (Int.toNat s.fst.snd.snd.fst) (0 : UInt8))) :
                                      Int) ==
                                    (45 : Int),
                                ()),
                              ())
                else
                  bif
                      decide
                        ((↑(UInt8.toNat (List.getD s.fst.fst (Int.toNat s.fst.snd.snd.fst) (0 : UInt8))) : Int) ≥
                          (48 : Int)) then
                    bif
                        decide
                          ((↑(UInt8.toNat (List.getD s.fst.fst (Int.toNat s.fst.snd.snd.fst) (0 : UInt8))) : Int) ≤
                            (57 : Int)) then
                      some ((s.fst.fst, s.fst.snd.fst, s.fst.snd.snd.fst, !true, ()), ())
                    else
                      bif
                          (↑(UInt8.toNat (List.getD s.fst.fst (Int.toNat s.fst.snd.snd.fst) (0 : UInt8))) : Int) ==
                            (46 : Int) then
                        some ((s.fst.fst, s.fst.snd.fst, s.fst.snd.snd.fst, !true, ()), ())
                      else
                        bif
                            (↑(UInt8.toNat (List.getD s.fst.fst (Int.toNat s.fst.snd.snd.fst) (0 : UInt8))) : Int) ==
                              (95 : Int) then
                          some ((s.fst.fst, s.fst.snd.fst, s.fst.snd.snd.fst, !true, ()), ())
                        else
                          some
                            ((s.fst.fst, s.fst.snd.fst, s.fst.snd.snd.fst,
                                !(↑(UInt8.toNat (List.getD s.fst.fst (Int.toNat s.fst.snd.snd.fst) (0 : UInt8))) :
                                      Int) ==
                                    (45 : Int),
                                ()),
                              ())
                  else
                    bif
                        (↑(UInt8.toNat (List.getD s.fst.fst (Int.toNat s.fst.snd.snd.fst) (0 : UInt8))) : Int) ==
                          (46 : Int) then
                      some ((s.fst.fst, s.fst.snd.fst, s.fst.snd.snd.fst, !true, ()), ())
                    else
                      bif
                          (↑(UInt8.toNat (List.getD s.fst.fst (Int.toNat s.fst.snd.snd.fst) (0 : UInt8))) : Int) ==
                            (95 : Int) then
                        some ((s.fst.fst, s.fst.snd.fst, s.fst.snd.snd.fst, !true, ()), ())
                      else
                        some
                          ((s.fst.fst, s.fst.snd.fst, s.fst.snd.snd.fst,
                              !(↑(UInt8.toNat (List.getD s.fst.fst (Int.toNat s.fst.snd.snd.fst) (0 : UInt8))) : Int) ==
                                  (45 : Int),
                              ()),
                            ()))
              fun (s : (List UInt8 × Int × Int × Bool × PUnit) × PUnit) =>
              bif s.fst.snd.snd.snd.fst then some (Sum.inr (false, ()))
              else k ((s.fst.fst, s.fst.snd.fst, IntKind.wrap IntKind.i64 (s.fst.snd.snd.fst + (1 : Int)), ()), ())
          else none
        else some (Sum.inl ((s.fst.fst, ()), ())))
      ((a0, (↑(List.length a0) : Int), (0 : Int), ()), ()))
    fun (s : (List UInt8 × PUnit) × PUnit) =>
    Option.bind
      (Option.bind (m_impl_within (↑(List.length s.fst.fst) : Int) (1 : Int) (20 : Int)) fun (r : Bool × PUnit) =>
        bif r.fst then
          bif !s.fst.fst == [(46 : UInt8)] then some ((!s.fst.fst == [(46 : UInt8), (46 : UInt8)], ()), ())
          else some ((false, ()), ())
        else some ((false, ()), ()))
      fun (s : (Bool × PUnit) × PUnit) => some s.fst
-- impl.Names
def m_impl_Names (a0 : List UInt8) : Option (List (List UInt8) × Unit) :=
  bif decide ((↑(List.length a0) : Int) > (168 : Int)) then some (nilOf (List UInt8), ())
  else
    Option.bind (m_strings_Split a0) fun (r : List (List UInt8) × PUnit) =>
      bif decide ((↑(List.length r.fst) : Int) > (8 : Int)) then some (nilOf (List UInt8), ())
      else
        joinC
          (loopC
            (List.length r.fst + List.length r.fst + Int.toNat (↑(List.length r.fst) : Int) + Int.toNat (0 : Int) +
              (300 : Nat))
            (fun (s : (List (List UInt8) × List (List UInt8) × Int × Int × PUnit) × PUnit)
                (k :
                  (List (List UInt8) × List (List UInt8) × Int × Int × PUnit) × PUnit →
                    Option ((List (List UInt8) × PUnit) × PUnit ⊕ List (List UInt8) × PUnit)) =>
              bif decide (s.fst.snd.snd.snd.fst < s.fst.snd.snd.fst) then
                if (0 : Int) ≤ s.fst.snd.snd.snd.fst ∧ s.fst.snd.snd.snd.fst < (↑(List.length s.fst.snd.fst) : Int) then
                  Option.bind (m_impl_NameOk (List.getD s.fst.snd.fst (Int.toNat s.fst.snd.snd.snd.fst) (nilOf UInt8)))
                    fun (r : Bool × PUnit) =>
                    bif !r.fst then some (Sum.inr (nilOf (List UInt8), ()))
                    else
                      k
                        ((s.fst.fst, s.fst.snd.fst, s.fst.snd.snd.fst,
                            IntKind.wrap IntKind.i64 (s.fst.snd.snd.snd.fst + (1 : Int)), ()),
                          ())
                else none
              else some (Sum.inl ((s.fst.fst, ()), ())))
            ((r.fst, r.fst, (↑(List.length r.fst) : Int), (0 : Int), ()), ()))
          fun (s : (List (List UInt8) × PUnit) × PUnit) => some s.fst
-- impl.PathOk
def m_impl_PathOk (a0 : List UInt8) : Option (Bool × Unit) :=
  Option.bind (m_impl_Names a0) fun (r : List (List UInt8) × PUnit) =>
    some (decide ((↑(List.length r.fst) : Int) > (0 : Int)), ())
-- internal/stringslite.Index
def m_stringslite_Index_2 (a0 : List UInt8) : Option (Int × Unit) :=
  bif [(10 : UInt8)] == a0 then some ((0 : Int), ())
  else
    if (0 : Int) ≤ (0 : Int) ∧ (0 : Int) < (↑(List.length [(10 : UInt8)]) : Int) then
      Option.bind
        (m_stringslite_IndexByte a0 (↑(UInt8.toNat (List.getD [(10 : UInt8)] (Int.toNat (0 : Int)) (0 : UInt8))) : Int))
        fun (r : Int × PUnit) => some r
    else none
-- strings.Index
def m_strings_Index_2 (a0 : List UInt8) : Option (Int × Unit) := Option.bind (m_stringslite_Index_2 a0) fun (r : Int × PUnit) => some r
-- strings.Contains
def m_strings_Contains (a0 : List UInt8) : Option (Bool × Unit) :=
  Option.bind (m_strings_Index_2 a0) fun (r : Int × PUnit) => some (decide (r.fst ≥ (0 : Int)), ())
-- impl.NodeOk
def m_impl_NodeOk (a0 : (List UInt8 × (Int × (Int × (Int × (List UInt8 × (List UInt8 × Int))))))) : Option (Bool × Unit) :=
  Option.bind
    (Option.bind (m_impl_PathOk a0.fst) fun (r : Bool × PUnit) =>
      bif !r.fst then
        some
          (((), true, ()),
            (a0.fst, a0.snd.fst, a0.snd.snd.fst, a0.snd.snd.snd.fst, a0.snd.snd.snd.snd.fst, a0.snd.snd.snd.snd.snd.fst,
              a0.snd.snd.snd.snd.snd.snd, ()),
            ())
      else
        Option.bind (m_impl_within a0.snd.snd.fst (0 : Int) (511 : Int)) fun (r : Bool × PUnit) =>
          bif !r.fst then
            some
              (((), true, ()),
                (a0.fst, a0.snd.fst, a0.snd.snd.fst, a0.snd.snd.snd.fst, a0.snd.snd.snd.snd.fst,
                  a0.snd.snd.snd.snd.snd.fst, a0.snd.snd.snd.snd.snd.snd, ()),
                ())
          else
            Option.bind (m_impl_within a0.snd.snd.snd.fst (0 : Int) (1000000000 : Int)) fun (r : Bool × PUnit) =>
              some
                (((), !r.fst, ()),
                  (a0.fst, a0.snd.fst, a0.snd.snd.fst, a0.snd.snd.snd.fst, a0.snd.snd.snd.snd.fst,
                    a0.snd.snd.snd.snd.snd.fst, a0.snd.snd.snd.snd.snd.snd, ()),
                  ()))
    fun (s : (PUnit × Bool × PUnit) × (List UInt8 × Int × Int × Int × List UInt8 × List UInt8 × Int × PUnit) × PUnit) =>
    bif s.fst.snd.fst then some (false, ())
    else
      bif s.snd.fst.snd.fst == (0 : Int) then
        Option.bind
          (bif s.snd.fst.snd.snd.snd.snd.fst == nilOf UInt8 then
            bif s.snd.fst.snd.snd.snd.snd.snd.fst == nilOf UInt8 then
              some ((s.snd.fst.snd.snd.snd.snd.snd.snd.fst == (0 : Int), ()), ())
            else some ((false, ()), ())
          else some ((false, ()), ()))
          fun (s : (Bool × PUnit) × PUnit) => some s.fst
      else
        bif s.snd.fst.snd.fst == (1 : Int) then
          Option.bind
            (bif decide ((↑(List.length s.snd.fst.snd.snd.snd.snd.fst) : Int) ≤ (20000 : Int)) then
              bif s.snd.fst.snd.snd.snd.snd.snd.fst == nilOf UInt8 then
                Option.bind (m_impl_within s.snd.fst.snd.snd.snd.snd.snd.snd.fst (0 : Int) (200 : Int))
                  fun (r : Bool × PUnit) => some (r, ())
              else some ((false, ()), ())
            else some ((false, ()), ()))
            fun (s : (Bool × PUnit) × PUnit) => some s.fst
        else
          bif s.snd.fst.snd.fst == (2 : Int) then
            Option.bind
              (bif s.snd.fst.snd.snd.snd.snd.fst == nilOf UInt8 then
                bif s.snd.fst.snd.snd.fst == (0 : Int) then
                  bif s.snd.fst.snd.snd.snd.snd.snd.snd.fst == (0 : Int) then
                    Option.bind
                      (m_impl_within (↑(List.length s.snd.fst.snd.snd.snd.snd.snd.fst) : Int) (1 : Int) (60 : Int))
                      fun (r : Bool × PUnit) =>
                      bif r.fst then
                        Option.bind (m_strings_Contains s.snd.fst.snd.snd.snd.snd.snd.fst) fun (r : Bool × PUnit) =>
                          some ((!r.fst, ()), ())
                      else some ((false, ()), ())
                  else some ((false, ()), ())
                else some ((false, ()), ())
              else some ((false, ()), ()))
              fun (s : (Bool × PUnit) × PUnit) => some s.fst
          else some (false, ())
-- impl.isEntry
def m_impl_isEntry (a0 : (List UInt8 × (Int × (Int × (Int × (Int × (List UInt8 × Int))))))) : Option (Bool × Unit) :=
  Option.bind
    (Option.bind
      (m_impl_NodeOk (a0.fst, a0.snd.fst, a0.snd.snd.fst, a0.snd.snd.snd.fst, nilOf UInt8, a0.snd.snd.snd.snd.snd))
      fun (r : Bool × PUnit) =>
      bif r.fst then
        Option.bind (m_impl_within a0.snd.snd.snd.snd.fst (0 : Int) (20000 : Int)) fun (r : Bool × PUnit) =>
          bif r.fst then
            bif a0.snd.fst == (1 : Int) then some ((true, ()), ())
            else some ((a0.snd.snd.snd.snd.fst == (0 : Int), ()), ())
          else some ((false, ()), ())
      else some ((false, ()), ()))
    fun (s : (Bool × PUnit) × PUnit) => some s.fst
-- impl.EntriesOk
def m_impl_EntriesOk (a0 : List (List UInt8 × (Int × (Int × (Int × (Int × (List UInt8 × Int))))))) : Option (Bool × Unit) :=
  bif decide ((↑(List.length a0) : Int) > (200 : Int)) then some (false, ())
  else
    joinC
      (loopC (List.length a0 + List.length a0 + Int.toNat (↑(List.length a0) : Int) + Int.toNat (0 : Int) + (300 : Nat))
        (fun
            (s :
              (List (List UInt8 × Int × Int × Int × Int × List UInt8 × Int) ×
                  List (List UInt8 × Int × Int × Int × Int × List UInt8 × Int) × Int × Int × PUnit) ×
                PUnit)
            (k :
              (List (List UInt8 × Int × Int × Int × Int × List UInt8 × Int) ×
                    List (List UInt8 × Int × Int × Int × Int × List UInt8 × Int) × Int × Int × PUnit) ×
                  PUnit →
                Option (PUnit × PUnit ⊕ Bool × PUnit)) =>
          bif decide (s.fst.snd.snd.snd.fst < s.fst.snd.snd.fst) then
            if (0 : Int) ≤ s.fst.snd.snd.snd.fst ∧ s.fst.snd.snd.snd.fst < (↑(List.length s.fst.snd.fst) : Int) then
              Option.bind
                (Option.bind
                  (m_impl_isEntry
                    (List.getD s.fst.snd.fst (Int.toNat s.fst.snd.snd.snd.fst)
                      (nilOf UInt8, Int.ofNat (nat_lit 0), Int.ofNat (nat_lit 0), Int.ofNat (nat_lit 0),
                        Int.ofNat (nat_lit 0), nilOf UInt8, Int.ofNat (nat_lit 0))))
                  fun (r : Bool × PUnit) =>
                  bif !r.fst then
                    some ((s.fst.fst, s.fst.snd.fst, s.fst.snd.snd.fst, s.fst.snd.snd.snd.fst, true, ()), ())
                  else
                    bif decide (s.fst.snd.snd.snd.fst > (0 : Int)) then
                      if
                          (0 : Int) ≤ IntKind.wrap IntKind.i64 (s.fst.snd.snd.snd.fst - (1 : Int)) ∧
                            IntKind.wrap IntKind.i64 (s.fst.snd.snd.snd.fst - (1 : Int)) <
                              (↑(List.length s.fst.fst) : Int) then
                        some
                          ((s.fst.fst, s.fst.snd.fst, s.fst.snd.snd.fst, s.fst.snd.snd.snd.fst,
                              !Op.bytesLess
                                  (List.getD s.fst.fst
                                      (Int.toNat (IntKind.wrap IntKind.i64 (s.fst.snd.snd.snd.fst - (1 : Int))))
                                      (nilOf UInt8, Int.ofNat (nat_lit 0), Int.ofNat (nat_lit 0), Int.ofNat (nat_lit 0),
                                        Int.ofNat (nat_lit 0), nilOf UInt8, Int.ofNat (nat_lit 0))).fst
                                  (List.getD s.fst.snd.fst (Int.toNat s.fst.snd.snd.snd.fst)
                                      (nilOf UInt8, Int.ofNat (nat_lit 0), Int.ofNat (nat_lit 0), Int.ofNat (nat_lit 0),
                                        Int.ofNat (nat_lit 0), nilOf UInt8, Int.ofNat (nat_lit 0))).fst,
                              ()),
                            ())
                      else none
                    else some ((s.fst.fst, s.fst.snd.fst, s.fst.snd.snd.fst, s.fst.snd.snd.snd.fst, false, ()), ()))
                fun
                  (s :
                    (List (List UInt8 × Int × Int × Int × Int × List UInt8 × Int) ×
                        List (List UInt8 × Int × Int × Int × Int × List UInt8 × Int) × Int × Int × Bool × PUnit) ×
                      PUnit) =>
                bif s.fst.snd.snd.snd.snd.fst then some (Sum.inr (false, ()))
                else
                  k
                    ((s.fst.fst, s.fst.snd.fst, s.fst.snd.snd.fst,
                        IntKind.wrap IntKind.i64 (s.fst.snd.snd.snd.fst + (1 : Int)), ()),
                      ())
            else none
          else some (Sum.inl ((), ())))
        ((a0, a0, (↑(List.length a0) : Int), (0 : Int), ()), ()))
      fun (s : PUnit × PUnit) => some (true, ())
-- laws.eqEntry
def m_laws_eqEntry (a0 : (List UInt8 × (Int × (Int × (Int × (Int × (List UInt8 × Int))))))) (a1 : (List UInt8 × (Int × (Int × (Int × (Int × (List UInt8 × Int))))))) : Option (Bool × Unit) :=
  bif !a0.fst == a1.fst then some (false, ())
  else
    bif a0.snd.fst != a1.snd.fst then some (false, ())
    else
      bif a0.snd.snd.fst != a1.snd.snd.fst then some (false, ())
      else
        bif a0.snd.snd.snd.fst != a1.snd.snd.snd.fst then some (false, ())
        else
          bif a0.snd.snd.snd.snd.fst != a1.snd.snd.snd.snd.fst then some (false, ())
          else
            bif !a0.snd.snd.snd.snd.snd.fst == a1.snd.snd.snd.snd.snd.fst then some (false, ())
            else bif a0.snd.snd.snd.snd.snd.snd != a1.snd.snd.snd.snd.snd.snd then some (false, ()) else some (true, ())
-- laws.eqEntryS
def m_laws_eqEntryS (a0 : List (List UInt8 × (Int × (Int × (Int × (Int × (List UInt8 × Int))))))) (a1 : List (List UInt8 × (Int × (Int × (Int × (Int × (List UInt8 × Int))))))) : Option (Bool × Unit) :=
  bif (↑(List.length a0) : Int) != (↑(List.length a1) : Int) then some (false, ())
  else
    joinC
      (loopC (List.length a0 + List.length a1 + Int.toNat (0 : Int) + (300 : Nat))
        (fun
            (s :
              (List (List UInt8 × Int × Int × Int × Int × List UInt8 × Int) ×
                  List (List UInt8 × Int × Int × Int × Int × List UInt8 × Int) × Int × PUnit) ×
                PUnit)
            (k :
              (List (List UInt8 × Int × Int × Int × Int × List UInt8 × Int) ×
                    List (List UInt8 × Int × Int × Int × Int × List UInt8 × Int) × Int × PUnit) ×
                  PUnit →
                Option (PUnit × PUnit ⊕ Bool × PUnit)) =>
          bif decide (s.fst.snd.snd.fst < (↑(List.length s.fst.fst) : Int)) then
            if (0 : Int) ≤ s.fst.snd.snd.fst ∧ s.fst.snd.snd.fst < (↑(List.length s.fst.fst) : Int) then
              if (0 : Int) ≤ s.fst.snd.snd.fst ∧ s.fst.snd.snd.fst < (↑(List.length s.fst.snd.fst) : Int) then
                Option.bind
                  (m_laws_eqEntry
                    (List.getD s.fst.fst (Int.toNat s.fst.snd.snd.fst)
                      (nilOf UInt8, Int.ofNat (nat_lit 0), Int.ofNat (nat_lit 0), Int.ofNat (nat_lit 0),
                        Int.ofNat (nat_lit 0), nilOf UInt8, Int.ofNat (nat_lit 0)))
                    (List.getD s.fst.snd.fst (Int.toNat s.fst.snd.snd.fst)
                      (nilOf UInt8, Int.ofNat (nat_lit 0), Int.ofNat (nat_lit 0), Int.ofNat (nat_lit 0),
                        Int.ofNat (nat_lit 0), nilOf UInt8, Int.ofNat (nat_lit 0))))
                  fun (r : Bool × PUnit) =>
                  bif !r.fst then some (Sum.inr (false, ()))
                  else k ((s.fst.fst, s.fst.snd.fst, IntKind.wrap IntKind.i64 (s.fst.snd.snd.fst + (1 : Int)), ()), ())
              else none
            else none
          else some (Sum.inl ((), ())))
        ((a0, a1, (0 : Int), ()), ()))
      fun (s : PUnit × PUnit) => some (true, ())
-- laws.FnExactEntriesOk
def m_laws_FnExactEntriesOk (a0 : List (List UInt8 × (Int × (Int × (Int × (Int × (List UInt8 × Int))))))) : Option (Bool × Unit) :=
  Option.bind (m_laws_szEntryS a0 (1048576 : Int)) fun (r : Int × PUnit) =>
    bif decide (r.fst < (0 : Int)) then some (true, ())
    else
      Option.bind (m_laws_toEntryS a0) fun (r : List (List UInt8 × Int × Int × Int × Int × List UInt8 × Int) × PUnit) =>
        Option.bind (m_spec_EntriesOk r.fst) fun (r : Bool × PUnit) =>
          Option.bind (m_laws_toEntryS a0)
            fun (r_1 : List (List UInt8 × Int × Int × Int × Int × List UInt8 × Int) × PUnit) =>
            Option.bind (m_impl_EntriesOk r_1.fst) fun (r_2 : Bool × PUnit) =>
              bif !r_2.fst == r.fst then some (false, ())
              else
                Option.bind (m_laws_toEntryS a0)
                  fun (r : List (List UInt8 × Int × Int × Int × Int × List UInt8 × Int) × PUnit) =>
                  Option.bind (m_laws_eqEntryS r_1.fst r.fst) fun (r : Bool × PUnit) =>
                    bif !r.fst then some (false, ()) else some (true, ())
end Go.AM
