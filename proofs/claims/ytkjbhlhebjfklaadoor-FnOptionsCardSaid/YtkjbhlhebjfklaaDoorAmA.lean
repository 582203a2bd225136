/- Part A of a maker of conditions for walks, and why it is sound. -/
import Derived.Calls
import Derived.Deep.LoopGhost
set_option linter.unusedVariables false
set_option linter.unusedSimpArgs false
/- Abstract values, states and the predicate transformer 'wpA' over the model's own code. -/
namespace Go.AM
open Go
inductive Ty where
 | bool | int (k : IntKind) | str | unit | pair (a b : Ty) | list (e : Ty) | ptr (t : Ty) | arr (n : Nat) (e : Ty)
 deriving DecidableEq, Inhabited
@[reducible] def Ty.El : Ty → Type
 | .bool => Bool
 | .int _ => Int
 | .str => List UInt8
 | .unit => Unit
 | .pair a b => a.El × b.El
 | .list e => List e.El
 | .ptr t => t.El
 | .arr _ e => List e.El
def Ty.size : Ty → Nat
 | .bool => 1
 | .int _ => 1
 | .str => 1
 | .unit => 0
 | .pair a b => a.size + b.size
 | .list _ => 1
 | .ptr _ => 1
 | .arr n e => n * e.size
def Ty.dflt : (t : Ty) → t.El
 | .bool => false
 | .int _ => (0 : Int)
 | .str => ([] : List UInt8)
 | .unit => ()
 | .pair a b => (a.dflt, b.dflt)
 | .list _ => []
 | .ptr t => t.dflt
 | .arr n e => List.replicate n e.dflt
def castEl {a b : Ty} (h : a = b) (x : a.El) : b.El := h ▸ x
def castEs {a b c d : Ty} (h : a = b) (g : c = d) (x : List (a.El × c.El)) : List (b.El × d.El) := h ▸ g ▸ x
def castLs {a b : Ty} (h : a = b) (x : List a.El) : List b.El := h ▸ x
/-- One cell. -/
inductive C where
 | bool (b : Bool) | int (k : IntKind) (n : Int) | str (s : List UInt8)
 | list (e : Ty) (xs : List e.El)
 | pp (t : Ty) (x : t.El) (o : Nat)
 | pe (e : Ty) (xs : List e.El) (i o : Nat)
 | ref (k o : Nat)
 | rel (k : Nat) (e : Ty) (i o : Nat)
 | rs (k : Nat)
 | rm (k : Nat)
 | fn (f : Nat) (caps : List Nat)
 | rax (k o : Nat) (e : Ty) (i off : Nat)
 | rv (k : Nat) (e : Ty) (i : Nat)
 | ra (k n : Nat)
 | sb (k o n e : Nat)
 | selfp (k : Nat)
 | op (t : Ty) (x : Option t.El)
 | nilI
 | cap0 | nilS | nilP | nilF | nilM
 | top
inductive Slot where
 | box (cs : List C)
 | lst (fx : Bool) (e : Ty) (xs : List e.El)
 | tb (t : Ty) (x : t.El)
 | bd (t : Nat) (c : C)
 | mp (k v : Ty) (ag : Bool) (es : List (k.El × v.El))
 | brow (T : Nat) (xs : List Int)
inductive V where
 | one (c : C) | agg (cs : List C) | tup (vs : List V)
 | undef | top
structure St where
 regs : List (Nat × V)
 slots : List (Nat × Slot)
def look {α : Type} (k : Nat) : List (Nat × α) → Option α
 | [] => none
 | p :: r => bif Nat.beq k p.1 then some p.2 else look k r
def del {α : Type} (k : Nat) : List (Nat × α) → List (Nat × α)
 | [] => []
 | p :: r => bif Nat.beq k p.1 then del k r else p :: del k r
def St.get (st : St) (t : Nat) : V := match look t st.regs with | some v => v | none => .top
def St.put (st : St) (d : Option Nat) (v : V) : St := match d with | some t => { st with regs := (t, v) :: st.regs } | none => st
def St.slot (st : St) (k : Nat) : Option Slot := look k st.slots
def St.set (st : St) (k : Nat) (s : Slot) : St := { st with slots := (k, s) :: del k st.slots }
def St.del (st : St) (k : Nat) : St := { st with slots := AM.del k st.slots }
def mem (k : Nat) : List Nat → Bool
 | [] => false
 | j :: r => bif Nat.beq k j then true else mem k r
/- Renamings of slots' names: 'ρ k = none': the name is forgotten. -/
def renL (ρ : Nat → Option Nat) : List Nat → Option (List Nat)
 | [] => some []
 | k :: r => match ρ k with
  | none => none
  | some j => match renL ρ r with
   | none => none
   | some s => some (j :: s)
def C.ren (ρ : Nat → Option Nat) : C → C
 | .ref k o => match ρ k with | some j => .ref j o | none => .top
 | .rel k e i o => match ρ k with | some j => .rel j e i o | none => .top
 | .rs k => match ρ k with | some j => .rs j | none => .top
 | .rm k => match ρ k with | some j => .rm j | none => .top
 | .rax k o e i off => match ρ k with | some j => .rax j o e i off | none => .top
 | .rv k e i => match ρ k with | some j => .rv j e i | none => .top
 | .ra k n => match ρ k with | some j => .ra j n | none => .top
 | .sb k o n e => match ρ k with | some j => .sb j o n e | none => .top
 | .selfp k => match ρ k with | some j => .selfp j | none => .top
 | .fn f caps => match renL ρ caps with | some cs => .fn f cs | none => .top
 | c => c
mutual
def V.map (g : C → C) : V → V
 | .one c => .one (g c)
 | .agg cs => .agg (cs.map g)
 | .tup vs => .tup (V.maps g vs)
 | v => v
def V.maps (g : C → C) : List V → List V
 | [] => []
 | v :: r => V.map g v :: V.maps g r
end
def Slot.fixd : Slot → Bool
 | .lst fx _ _ => fx
 | .brow _ _ => false
 | _ => true
def Slot.map (g : C → C) : Slot → Slot
 | .box cs => .box (cs.map g)
 | .bd t c => .bd t (g c)
 | s => s
def St.map (g : C → C) (st : St) : St := ⟨st.regs.map fun p => (p.1, p.2.map g), st.slots.map fun p => (p.1, p.2.map g)⟩
def notKey (k : Nat) : Nat → Option Nat := fun j => bif Nat.beq j k then none else some j
def St.kill (k : Nat) (st : St) : St := st.map (C.ren (notKey k))
/-- A new slot: what names it from before is forgotten. -/
def St.new (st : St) (k : Nat) (s : Slot) : St := (st.kill k).set k s
/- Types of the program. -/
inductive TD where
 | none | bool | int (k : IntKind) | str | slice (e : Nat) | struct (fs : List (Nat × Nat)) | array (n e : Nat) | ptr (e : Nat) | map (k v : Nat) | func
structure TInf where
 d : TD
 size : Nat
 bytes : Nat
 zero : List C
 ty : Option Ty
 zt : Bool
 cmp : Bool
def TD.known : TD → Bool
 | .none => false
 | _ => true
def TInf.isAgg (i : TInf) : Bool := match i.d with | .struct _ => true | .array _ _ => true | _ => false
structure Cx where
 T : Nat → TInf
 G : Nat → Option (Sigma Ty.El)
/- Typed cells. -/
def cellsOf : (t : Ty) → t.El → List C
 | .bool, b => [.bool b]
 | .int k, n => [.int k n]
 | .str, s => [.str s]
 | .unit, _ => []
 | .pair a b, x => cellsOf a x.1 ++ cellsOf b x.2
 | .list e, xs => [.list e xs]
 | .ptr t, x => [.pp t x 0]
 | .arr n e, xs => (List.range n).flatMap fun i => cellsOf e (xs.getD i e.dflt)
def parseLoop {α : Type} (p : List C → Option (α × List C)) : Nat → List C → Option (List α × List C)
 | 0, cs => some ([], cs)
 | n + 1, cs => match p cs with
  | none => none
  | some (x, r) => match parseLoop p n r with
   | none => none
   | some (xs, r) => some (x :: xs, r)
def parse : (t : Ty) → List C → Option (t.El × List C)
 | .bool, cs => (match cs with | .bool b :: r => some (b, r) | _ => none)
 | .int k, cs => (match cs with | .int j n :: r => if k = j then some ((n : Int), r) else none | _ => none)
 | .str, cs => (match cs with | .str s :: r => some (s, r) | _ => none)
 | .unit, r => some ((), r)
 | .pair a b, r => match parse a r with
  | none => none
  | some (x, r) => match parse b r with
   | none => none
   | some (y, r) => some ((x, y), r)
 | .list e, cs => (match cs with
  | .list e' xs :: r => if h : e' = e then some (castLs h xs, r) else none
  | .nilS :: r => some ([], r)
  | .cap0 :: r => some ([], r)
  | _ => none)
 | .ptr t, cs => (match cs with
  | .pp t' x 0 :: r => if h : t' = t then some (castEl (a := t') (b := t) h x, r) else none
  | _ => none)
 | .arr n e, cs => parseLoop (parse e) n cs
def parse1 (t : Ty) (cs : List C) : Option t.El := match parse t cs with | some (x, []) => some x | _ => none
/-- The elements of a written-out row. -/
def parseN (t : Ty) (n : Nat) (cs : List C) : Option (List t.El) := match parseLoop (parse t) n cs with | some (xs, []) => some xs | _ => none
/-- Cells put into an element at a cell's place. -/
def putAt {α : Type} : List α → Nat → List α → List α
 | cs, 0, vs => vs ++ cs.drop vs.length
 | [], _ + 1, _ => []
 | c :: cs, n + 1, vs => c :: putAt cs n vs
def cut (cs : List C) (o n : Nat) : List C := (cs.drop o).take n
def len? : List C → Nat → Bool
 | [], 0 => true
 | _ :: r, n + 1 => len? r n
 | _, _ => false
/- Constants. -/
def ofConst : Value → V
 | .bool b => .one (.bool b)
 | .int k n => .one (.int k n)
 | .string s => .one (.str s.data.toList)
 | .pointer none => .one .nilP
 | .slice none 0 0 => .one .nilS
 | .nilFunc => .one .nilF
 | .nilIface => .one .nilI
 | .map none => .one .nilM
 | _ => .top
def ofConsts : List Value → Option (List C)
 | [] => some []
 | v :: r => (match ofConst v, ofConsts r with
  | .one c, some cs => some (c :: cs)
  | _, _ => none)
def ofConst' : Value → V
 | .agg cs => (match ofConsts cs.toList with | some l => .agg l | none => .top)
 | v => ofConst v
def St.eval (cx : Cx) (st : St) : Operand → V
 | .tmp t => st.get t
 | .const v => ofConst' v
 | .global g => match cx.G g with | some ⟨t, x⟩ => .one (.pp t x 0) | none => .top
 | .func f => .one (.fn f [])
/- Shapes: what a cell, a value, a slot, a state looks like, and what is open in it. -/
inductive CT where
 | ty (t : Ty) | con (c : C) | fnv (caps : List Nat) | optp (t : Ty) | sbv (k e : Nat)
@[reducible] def CT.El : CT → Type
 | .ty t => t.El
 | .con _ => Unit
 | .fnv _ => Nat
 | .optp t => Option t.El
 | .sbv _ _ => Nat × Nat
def cell1 : (t : Ty) → t.El → C
 | .bool, b => .bool b
 | .int k, n => .int k n
 | .str, s => .str s
 | .list e, xs => .list e xs
 | .ptr t, x => .pp t x 0
 | _, _ => .top
def CT.enc : (ct : CT) → ct.El → C
 | .ty t, x => cell1 t x
 | .con c, _ => c
 | .fnv caps, g => .fn g caps
 | .optp t, x => .op t x
 | .sbv k e, x => .sb k x.1 x.2 e
def sameL : List Nat → List Nat → Bool
 | [], [] => true
 | a :: as, b :: bs => Nat.beq a b && sameL as bs
 | _, _ => false
def sameCon : C → C → Bool
 | .top, _ => true
 | .ref k o, .ref j p => Nat.beq k j && Nat.beq o p
 | .sb k o n e, .sb j p m d => Nat.beq k j && (Nat.beq o p && (Nat.beq n m && Nat.beq e d))
 | .rs k, .rs j => Nat.beq k j
 | .rm k, .rm j => Nat.beq k j
 | .fn f ks, .fn g js => Nat.beq f g && sameL ks js
 | .cap0, .cap0 => true
 | .cap0, .nilS => true
 | .nilS, .nilS => true
 | .nilP, .nilP => true
 | .nilF, .nilF => true
 | .nilM, .nilM => true
 | .nilI, .nilI => true
 | .str s, .str t => s == t
 | .int k a, .int j b => decide (k = j) && a == b
 | .bool a, .bool b => a == b
 | .selfp k, .selfp j => Nat.beq k j
 | .selfp _, .nilP => true
 | .selfp k, .ref j o => Nat.beq k j && Nat.beq o 0
 | _, _ => false
def CT.parse : (ct : CT) → C → Option ct.El
 | .ty t, c => parse1 t [c]
 | .con c', c => bif sameCon c' c then some () else none
 | .sbv k e, c => (match c with | .sb j o n d => (bif Nat.beq k j && Nat.beq e d then some ((o, n) : Nat × Nat) else none) | _ => none)
 | .fnv caps, c => (match c with | .fn g ks => (bif sameL caps ks then some (g : Nat) else none) | _ => none)
 | .optp t, c => (match c with | .op t' x => (if h : t' = t then some (h ▸ x) else none) | .nilP => some (none : Option t.El) | .pp t' y 0 => (if h : t' = t then some (some (castEl (a := t') (b := t) h y)) else none) | _ => none)
@[reducible] def CTs.El : List CT → Type
 | [] => Unit
 | ct :: r => ct.El × CTs.El r
def CTs.enc : (cts : List CT) → CTs.El cts → List C
 | [], _ => []
 | ct :: r, x => ct.enc x.1 :: CTs.enc r x.2
def CTs.parse : (cts : List CT) → List C → Option (CTs.El cts)
 | [], [] => some ()
 | ct :: r, c :: cs => (match ct.parse c, CTs.parse r cs with
  | some x, some y => some (x, y)
  | _, _ => none)
 | _, _ => none
inductive VT1 where
 | one (ct : CT) | agg (cts : List CT) | str (t : Ty)
@[reducible] def VT1.El : VT1 → Type
 | .one ct => ct.El
 | .agg cts => CTs.El cts
 | .str t => t.El
def VT1.enc : (vt : VT1) → vt.El → V
 | .one ct, x => .one (ct.enc x)
 | .agg cts, x => .agg (CTs.enc cts x)
 | .str t, x => .agg (cellsOf t x)
def VT1.parse : (vt : VT1) → V → Option vt.El
 | .one ct, v => (match v with | .one c => ct.parse c | _ => none)
 | .agg cts, v => (match v with | .agg cs => CTs.parse cts cs | _ => none)
 | .str t, v => (match v with | .agg cs => parse1 t cs | _ => none)
@[reducible] def VT1s.El : List VT1 → Type
 | [] => Unit
 | vt :: r => vt.El × VT1s.El r
def VT1s.enc : (vts : List VT1) → VT1s.El vts → List V
 | [], _ => []
 | vt :: r, x => vt.enc x.1 :: VT1s.enc r x.2
inductive VT where
 | v (x : VT1) | tup (xs : List VT1) | undef
@[reducible] def VT.El : VT → Type
 | .v x => x.El
 | .tup xs => VT1s.El xs
 | .undef => Unit
def VT.enc : (vt : VT) → vt.El → V
 | .v x, y => x.enc y
 | .tup xs, y => .tup (VT1s.enc xs y)
 | .undef, _ => .undef
inductive SS where
 | box (cts : List CT) | str (t : Ty) | lst (fx : Bool) (e : Ty) | tb (t : Ty) | bd (t : Nat) (ct : CT) | mp (k v : Ty) (ag : Bool) | brow (T : Nat)
@[reducible] def SS.El : SS → Type
 | .box cts => CTs.El cts
 | .str t => t.El
 | .lst _ e => List e.El
 | .tb t => t.El
 | .bd _ ct => ct.El
 | .mp k v _ => List (k.El × v.El)
 | .brow _ => List Int
def SS.enc : (ss : SS) → ss.El → Slot
 | .box cts, x => .box (CTs.enc cts x)
 | .str t, x => .box (cellsOf t x)
 | .lst fx e, xs => .lst fx e xs
 | .tb t, x => .tb t x
 | .bd t ct, x => .bd t (ct.enc x)
 | .mp k v ag, es => .mp k v ag es
 | .brow T, xs => .brow T xs
def bsame : Bool → Bool → Bool
 | true, b => b
 | false, b => !b
def SS.parse : (ss : SS) → Slot → Option ss.El
 | .box cts, s => (match s with | .box cs => CTs.parse cts cs | _ => none)
 | .str t, s => (match s with | .box cs => parse1 t cs | _ => none)
 | .lst fx e, s => (match s with | .lst fx' e' xs => if h : e' = e then (bif bsame fx' fx then some (castLs h xs) else none) else none | _ => none)
 | .tb t, s => (match s with | .tb t' x => if h : t' = t then some (castEl h x) else none | _ => none)
 | .bd t ct, s => (match s with | .bd t' c => (bif Nat.beq t' t then ct.parse c else none) | _ => none)
 | .mp k v ag, s => (match s with | .mp k' v' ag' es => if h : k' = k ∧ v' = v ∧ ag' = ag then some (castEs h.1 h.2.1 es) else none | _ => none)
 | .brow T, s => (match s with | .brow T' xs => (bif Nat.beq T' T then some xs else none) | _ => none)
@[reducible] def SSs.El : List SS → Type
 | [] => Unit
 | ss :: r => ss.El × SSs.El r
def SSs.enc : (l : List SS) → SSs.El l → List Slot
 | [], _ => []
 | ss :: r, x => ss.enc x.1 :: SSs.enc r x.2
@[reducible] def RgEl : List (Nat × VT1) → Type
 | [] => Unit
 | p :: r => p.2.El × RgEl r
@[reducible] def SlEl : List (Nat × SS) → Type
 | [] => Unit
 | p :: r => p.2.El × SlEl r
def encR : (l : List (Nat × VT1)) → RgEl l → List (Nat × V)
 | [], _ => []
 | p :: r, x => (p.1, p.2.enc x.1) :: encR r x.2
def encS : (l : List (Nat × SS)) → SlEl l → List (Nat × Slot)
 | [], _ => []
 | p :: r, x => (p.1, p.2.enc x.1) :: encS r x.2
def parseR (st : St) : (l : List (Nat × VT1)) → Option (RgEl l)
 | [] => some ()
 | p :: r => (match p.2.parse (st.get p.1), parseR st r with
  | some x, some y => some (x, y)
  | _, _ => none)
def parseS (st : St) : (l : List (Nat × SS)) → Option (SlEl l)
 | [] => some ()
 | p :: r => (match st.slot p.1 with
  | some s => (match p.2.parse s, parseS st r with
   | some x, some y => some (x, y)
   | _, _ => none)
  | none => none)
structure LS where
 regs : List (Nat × VT1)
 slots : List (Nat × SS)
@[reducible] def LS.El (l : LS) : Type := RgEl l.regs × SlEl l.slots
def LS.enc (l : LS) (x : l.El) : St := ⟨encR l.regs x.1, encS l.slots x.2⟩
def LS.parse (l : LS) (st : St) : Option l.El := match parseR st l.regs, parseS st l.slots with
 | some x, some y => some (x, y)
 | _, _ => none
@[reducible] def SSs.El' (l : List SS) : Type := SSs.El l
def VT1s.parse : (vts : List VT1) → List V → Option (VT1s.El vts)
 | [], [] => some ()
 | vt :: r, v :: vs => (match vt.parse v, VT1s.parse r vs with
  | some x, some y => some (x, y)
  | _, _ => none)
 | _, _ => none
def VT.parse : (vt : VT) → V → Option vt.El
 | .v x, u => x.parse u
 | .tup xs, u => (match u with | .tup vs => VT1s.parse xs vs | _ => none)
 | .undef, u => (match u with | .undef => some () | _ => none)
def SSs.parse : (l : List SS) → List Slot → Option (SSs.El l)
 | [], [] => some ()
 | ss :: r, s :: sl => (match ss.parse s, SSs.parse r sl with
  | some x, some y => some (x, y)
  | _, _ => none)
 | _, _ => none
/-- A model of a function at shapes of its arguments and of the slots handed in. -/
structure FX (rt : VT) (outs : List SS) where
 g : Nat
 args : List VT1
 slots : List SS
 m : VT1s.El args × SSs.El slots → Option (rt.El × SSs.El outs)
structure FM where
 rt : VT
 outs : List SS
 fx : FX rt outs
/- The choice that a pointer or nil is. -/
inductive Ann where
 | no
 | key (k : Nat)
 | nilAs (k : Nat) (e : Ty)
 | keyT (k : Nat) (t : Ty)
 | keyB (k : Nat)
 | cutA
 | viewA
 | call (pass news brw : List Nat) (rt : VT) (sss : List SS) (fx : FX rt sss)
def FM.ann (fm : FM) (pass news brw : List Nat) : Ann := .call pass news brw fm.rt fm.outs fm.fx
inductive Ghost where
 | keep (ts : List Nat)
 | drop (k : Nat)
 | ren (k j : Nat)
 | freeze (k : Nat)
 | freezeBox (k : Nat) (t : Ty)
 | nilCell (k i j : Nat) (e : Ty)
 | nilRow (k j T : Nat)
 | fix (k : Nat)
inductive Side where
 | t | f | p (q : Prop) [d : Decidable q]
def Side.holds : Side → Prop
 | .t => True
 | .f => False
 | @Side.p q _ => q
@[simp] theorem Side.holds_t : Side.t.holds = True := rfl
@[simp] theorem Side.holds_f : Side.f.holds = False := rfl
@[simp] theorem Side.holds_p (q : Prop) [Decidable q] : (Side.p q).holds = q := rfl
def Side.and : Side → Prop → Prop
 | .t, k => k
 | .f, _ => False
 | @Side.p q _, k => q ∧ k
def Side.ite {α : Type} : Side → Option α → Option α
 | .t, k => k
 | .f, _ => none
 | @Side.p q d, k => @_root_.ite _ q d k none
structure Res where
 side : Side
 val : V
 st : St
def fail (st : St) : Res := ⟨.f, .top, st⟩
def ok (st : St) (v : V) : Res := ⟨.t, v, st⟩
/- Integers. -/
def bitsOf (op : BinOp) (k : IntKind) (x y : Int) : Int :=
 let a := BitVec.ofInt k.bits x
 let b := BitVec.ofInt k.bits y
 match op with
 | .and => k.wrap (a &&& b).toNat
 | .or => k.wrap (a ||| b).toNat
 | .xor => k.wrap (a ^^^ b).toNat
 | _ => k.wrap (a &&& ~~~b).toNat
def evInt (op : BinOp) (k : IntKind) (a b : Int) : Side × C :=
 match op with
 | .add => (.t, .int k (k.wrap (a + b)))
 | .sub => (.t, .int k (k.wrap (a - b)))
 | .mul => (.t, .int k (k.wrap (a * b)))
 | .quo => (.p (b ≠ 0), .int k (k.wrap (a.tdiv b)))
 | .rem => (.p (b ≠ 0), .int k (a.tmod b))
 | .and => (.t, .int k (bitsOf .and k a b))
 | .or => (.t, .int k (bitsOf .or k a b))
 | .xor => (.t, .int k (bitsOf .xor k a b))
 | .andNot => (.t, .int k (bitsOf .andNot k a b))
 | .eql => (.t, .bool (a == b))
 | .neq => (.t, .bool (a != b))
 | .lss => (.t, .bool (decide (a < b)))
 | .leq => (.t, .bool (decide (a ≤ b)))
 | .gtr => (.t, .bool (decide (a > b)))
 | .geq => (.t, .bool (decide (a ≥ b)))
 | _ => (.f, .top)
def evStr (op : BinOp) (a b : List UInt8) : Side × C :=
 match op with
 | .add => (.p (a.length + b.length < 2 ^ 63), .str (a ++ b))
 | .eql => (.t, .bool (a == b))
 | .neq => (.t, .bool (!(a == b)))
 | .lss => (.t, .bool (Op.bytesLess a b))
 | .leq => (.t, .bool (Op.bytesLess a b || a == b))
 | .gtr => (.t, .bool (!(Op.bytesLess a b || a == b)))
 | .geq => (.t, .bool (!Op.bytesLess a b))
 | _ => (.f, .top)
/-- Two cells the same: scalars and nil. -/
def sameC : TD → C → C → Option Bool
 | .bool, .bool a, .bool b => some (a == b)
 | .ptr _, .ref _ _, .nilP => some false
 | .ptr _, .pp _ _ _, .nilP => some false
 | .ptr _, .nilP, .nilP => some true
 | .ptr _, .op _ x, .nilP => some x.isNone
 | .func, .fn _ _, .nilF => some false
 | .func, .nilF, .nilF => some true
 | .slice _, .nilS, .nilS => some true
 | _, _, _ => none
def evBin (d : TD) (op : BinOp) (x y : V) : Side × C :=
 match x, y with
 | .one (.int k a), .one (.int j b) =>
  (match op with
   | .shl => (.p (0 ≤ b), .int k (k.wrap (a * 2 ^ (min b.toNat k.bits))))
   | .shr => (.p (0 ≤ b), .int k (a.fdiv (2 ^ (min b.toNat k.bits))))
   | op => if k = j then evInt op k a b else (.f, .top))
 | .one (.str a), .one (.str b) => evStr op a b
 | .one (.list _ xs), .one .nilS =>
  (match d, op with
   | .slice _, .eql => (.p (xs.length ≠ 0), .bool false)
   | .slice _, .neq => (.p (xs.length ≠ 0), .bool true)
   | _, _ => (.f, .top))
 | .one a, .one b =>
  (match op with
   | .eql => (match sameC d a b with | some r => (.t, .bool r) | none => (.f, .top))
   | .neq => (match sameC d a b with | some r => (.t, .bool !r) | none => (.f, .top))
   | _ => (.f, .top))
 | _, _ => (.f, .top)
/-- Two cells of a plain type. -/
def sameS : TD → C → C → Option Bool
 | .bool, .bool a, .bool b => some (a == b)
 | .int _, .int k a, .int j b => (match decide (k = j) with | true => some (a == b) | false => none)
 | .str, .str a, .str b => some (a == b)
 | _, _, _ => none
/-- Structs, field by field. -/
def eqF (T : Nat → TInf) : List (Nat × Nat) → List C → List C → Option Bool
 | [], _, _ => some true
 | p :: ps, cs, ds => match cs[p.1]?, ds[p.1]? with
  | some c, some d => (match sameS (T p.2).d c d, eqF T ps cs ds with
   | some a, some b => some (a && b)
   | _, _ => none)
  | _, _ => none
/-- Arrays of elements of one cell. -/
def eqA (d : TD) : List C → List C → Option Bool
 | [], [] => some true
 | c :: cs, e :: es => match sameS d c e, eqA d cs es with
  | some a, some b => some (a && b)
  | _, _ => none
 | _, _ => none
def evAgg (T : Nat → TInf) (t : Nat) (op : BinOp) (cs ds : List C) : Side × C :=
 match (T t).cmp, (T t).d with
 | true, .struct fs => (match eqF T fs cs ds, op with
  | some r, .eql => (.t, .bool r)
  | some r, .neq => (.t, .bool !r)
  | _, _ => (.f, .top))
 | true, .array n el => (match Nat.beq (T el).size 1 && Nat.beq cs.length n, eqA (T el).d cs ds, op with
  | true, some r, .eql => (.t, .bool r)
  | true, some r, .neq => (.t, .bool !r)
  | _, _, _ => (.f, .top))
 | _, _ => (.f, .top)
def evBinT (T : Nat → TInf) (t : Nat) (op : BinOp) (x y : V) : Side × C :=
 match x, y with
 | .agg cs, .agg ds => evAgg T t op cs ds
 | vx, vy => evBin (T t).d op vx vy
def evUn (op : UnOp) (x : V) : Side × C :=
 match op, x with
 | .not, .one (.bool b) => (.t, .bool !b)
 | .neg, .one (.int k n) => (.t, .int k (k.wrap (0 - n)))
 | .xor, .one (.int k n) => (.t, .int k (bitsOf .xor k (if k.signed then -1 else k.max) n))
 | _, _ => (.f, .top)
/- Slices' bounds. -/
def lowOf (lo : Option V) : Option Int :=
 match lo with
 | none => some 0
 | some (.one (.int .i64 l)) => some l
 | _ => none
def highOf (n : Nat) (hi : Option V) : Option Int :=
 match hi with
 | none => some n
 | some (.one (.int .i64 h)) => some h
 | _ => none
def isU8 (cx : Cx) (t : Nat) : Bool := match (cx.T t).d with | .int .u8 => true | _ => false
def tailOf (st : St) (ty : Ty) : V → Option (List ty.El)
 | .one (.list e ys) => if h : e = ty then some (castLs h ys) else none
 | .one (.rs k) => (match st.slot k with
  | some (.lst _ e ys) => if h : e = ty then some (castLs h ys) else none
  | _ => none)
 | .one .nilS => some []
 | .one .cap0 => some []
 | .one (.str s) => if h : Ty.int .u8 = ty then some (castLs h (s.map fun b => (b.toNat : Int))) else none
 | _ => none
def isBytes (cx : Cx) (t : Nat) : Bool := match (cx.T t).d with | .slice e => isU8 cx e | _ => false
/-- The array that begins at a cell's place. -/
def subArr : (t : Ty) → t.El → Nat → Option (Sigma fun e : Ty => List e.El)
 | .arr _ e, xs, 0 => some ⟨e, xs⟩
 | .pair a b, x, o => bif Nat.blt o a.size then subArr a x.1 o else subArr b x.2 (o - a.size)
 | _, _, _ => none
/-- An element of the array that begins at a cell's place is laid anew. -/
def setArr : (t : Ty) → t.El → Nat → (e : Ty) → Nat → e.El → Option t.El
 | .arr _ e0, xs, 0, e, i, y => if h : e = e0 then some (List.set (α := e0.El) xs i (castEl h y)) else none
 | .pair a b, x, o, e, i, y => bif Nat.blt o a.size then (match setArr a x.1 o e i y with | some z => some (z, x.2) | none => none)
     else (match setArr b x.2 (o - a.size) e i y with | some z => some (x.1, z) | none => none)
 | _, _, _, _, _, _ => none
/-- Cells laid at a cell's place, whole parts alone. -/
def setAt : (t : Ty) → t.El → Nat → List C → Option t.El
 | .pair a b, x, o, vs => bif Nat.blt o a.size then
       (bif Nat.ble (o + vs.length) a.size then (match setAt a x.1 o vs with | some z => some (z, x.2) | none => none)
        else (match o with | 0 => parse1 (.pair a b) vs | _ => none))
     else (match setAt b x.2 (o - a.size) vs with | some z => some (x.1, z) | none => none)
 | t, _, 0, vs => parse1 t vs
 | _, _, _, _ => none
/-- Cells read through an address. -/
def readAt (st : St) (a : V) (n : Nat) : Option (Side × List C) :=
 match a with
 | .one (.ref k o) => (match st.slot k with
  | some (.box cs) => (bif len? (cut cs o n) n then some (.t, cut cs o n) else none)
  | some (.tb t x) => (bif Nat.ble (o + n) t.size then some (.t, cut (cellsOf t x) o n) else none)
  | some (.bd _ c) => (bif Nat.beq o 1 && Nat.beq n 1 then some (.t, [c]) else none)
  | _ => none)
 | .one (.rel k e i o) => (match st.slot k with
  | some (.lst _ e' xs) => (if h : e' = e then (bif Nat.ble (o + n) e.size then some (.p (i < xs.length), cut (cellsOf e (castLs h xs |>.getD i e.dflt)) o n) else none) else none)
  | _ => none)
 | .one (.rax k o e i off) => (match st.slot k with
  | some (.tb t x) => (match subArr t x o with
   | some ⟨e', xs⟩ => (if h : e' = e then (bif Nat.ble (off + n) e.size then some (.p (i < xs.length), cut (cellsOf e ((castLs h xs).getD i e.dflt)) off n) else none) else none)
   | none => none)
  | _ => none)
 | .one (.pp t x o) => (bif Nat.ble (o + n) t.size then some (.t, cut (cellsOf t x) o n) else none)
 | .one (.pe e xs i o) => (bif Nat.ble (o + n) e.size then some (.t, cut (cellsOf e (xs.getD i e.dflt)) o n) else none)
 | _ => none
def fillC (place : Nat → Option (Nat × Nat)) (cells : List C) : List (Nat × V) → Option (List C)
 | [] => some cells
 | (i, v) :: r =>
  match place i with
  | none => none
  | some (o, n) =>
   match v with
   | .one c => (bif Nat.beq n 1 && len? (cut cells o n) n then fillC place (putAt cells o [c]) r else none)
   | .agg cs => (bif Nat.ble 1 n && (len? cs n && len? (cut cells o n) n) then fillC place (putAt cells o cs) r else none)
   | _ => none
def nth {α : Type} : List α → Nat → Option α
 | [], _ => none
 | a :: _, 0 => some a
 | _ :: r, n + 1 => nth r n
def repC (cs : List C) : Nat → List C
 | 0 => []
 | n + 1 => cs ++ repC cs n
def refKeys : List V → Option (List Nat)
 | [] => some []
 | .one (.ref k 0) :: r => (match refKeys r with | some ks => some (k :: ks) | none => none)
 | _ => none
def V.cells? : V → Option (List C)
 | .one c => some [c]
 | .agg cs => some cs
 | _ => none
/- Maps: rows of keys and values. -/
def keyEq : (t : Ty) → t.El → t.El → Bool
 | .int _, a, b => decide ((a : Int) = b)
 | .str, a, b => decide ((a : List UInt8) = b)
 | _, _, _ => false
def mget {β : Type} (t : Ty) (key : t.El) : List (t.El × β) → Option β
 | [] => none
 | p :: r => bif keyEq t key p.1 then some p.2 else mget t key r
def mset {β : Type} (t : Ty) (key : t.El) (x : β) : List (t.El × β) → List (t.El × β)
 | [] => [(key, x)]
 | p :: r => bif keyEq t key p.1 then (key, x) :: r else p :: mset t key x r
def keyOk : Ty → TD → Bool
 | .int k, .int j => decide (k = j)
 | .str, .str => true
 | _, _ => false
def mapOk (cx : Cx) (kt vt : Nat) (k v : Ty) (ag : Bool) : Bool :=
 keyOk k (cx.T kt).d && ((match (cx.T vt).ty with | some b => decide (b = v) | none => false) && ((cx.T vt).d.known && decide ((cx.T vt).isAgg = ag)))
def valV (v : Ty) (ag : Bool) (x : v.El) : Option V := match ag with
 | true => some (.agg (cellsOf v x))
 | false => (match cellsOf v x with | [c] => some (.one c) | _ => none)
def valOf (v : Ty) (ag : Bool) (x : V) : Option v.El := match ag, x with
 | true, .agg cs => parse1 v cs
 | false, .one c => parse1 v [c]
 | _, _ => none
def evI (cx : Cx) (op : Op) (an : Ann) (st : St) : Res :=
 match op with
 | .move x | .assign x =>
  (match an with
   | .nilAs k e => (match st.eval cx x with | .one .nilS => ok (st.new k (.lst false e [])) (.one (.rs k)) | _ => fail st)
   | _ => ok st (st.eval cx x))
 | .pick c a b =>
  (match st.eval cx c with
   | .one (.bool t) => (match st.eval cx a, st.eval cx b with
    | .one (.bool x), .one (.bool y) => ok st (.one (.bool (cond t x y)))
    | x, y => ok st (cond t x y))
   | _ => fail st)
 | .nilCheck x => (match st.eval cx x with
  | .one (.ref k o) => ok st (.one (.ref k o))
  | .one (.rel k e i o) => ok st (.one (.rel k e i o))
  | .one (.pp t y o) => ok st (.one (.pp t y o))
  | .one (.pe e xs i o) => ok st (.one (.pe e xs i o))
  | .one (.rax k o e i off) => ok st (.one (.rax k o e i off))
  | .one (.fn f cs) => ok st (.one (.fn f cs))
  | _ => fail st)
 | .binOp op t x y _ => let r := evBinT cx.T t op (st.eval cx x) (st.eval cx y); ⟨r.1, .one r.2, st⟩
 | .unOp op _ x => let r := evUn op (st.eval cx x); ⟨r.1, .one r.2, st⟩
 | .convert src dst x =>
  (bif !(cx.T src).d.known then fail st else match (cx.T dst).d, st.eval cx x with
   | .int k, .one (.int _ n) => ok st (.one (.int k (k.wrap n)))
   | .str, .one (.str s) => ok st (.one (.str s))
   | .str, .one c => (bif isBytes cx src then (match tailOf st (.int .u8) (.one c) with
    | some xs => ok st (.one (.str (xs.map fun n => UInt8.ofNat n.toNat)))
    | none => fail st) else fail st)
   | .slice e, .one (.str s) => (match isU8 cx e, an with
    | true, .key k => ok (st.new k (.lst false (.int .u8) (s.map fun b => (b.toNat : Int)))) (.one (.rs k))
    | _, _ => fail st)
   | _, _ => fail st)
 | .makeFunc (.func f) first caps => (match first.toList, refKeys (caps.toList.map (st.eval cx)) with
  | [], some ks => ok st (.one (.fn f ks))
  | _, _ => fail st)
 | .extract x i => (match st.eval cx x with
  | .tup vs => (match nth vs i with | some v => ok st v | none => fail st)
  | _ => fail st)
 | .field t x f => (match (cx.T t).d, st.eval cx x with
  | .struct fs, .agg cs => (match nth fs f with
   | some (o, ft) =>
    let i := cx.T ft
    (bif i.d.known then (bif i.isAgg then ok st (.agg (cut cs o i.size)) else (match nth cs o with | some c => ok st (.one c) | none => fail st)) else fail st)
   | none => fail st)
  | _, _ => fail st)
 | .index t x i => (match (cx.T t).d, st.eval cx x, st.eval cx i with
  | .str, .one (.str s), .one (.int _ i) => ⟨.p (0 ≤ i ∧ i < s.length), .one (.int .u8 (s.getD i.toNat 0).toNat), st⟩
  | _, _, _ => fail st)
 | .slice t x lo hi none => (match (cx.T t).d, st.eval cx x with
  | .str, .one (.str s) => (match lowOf (lo.map (st.eval cx)), highOf s.length (hi.map (st.eval cx)) with
   | some l, some h => ⟨.p (0 ≤ l ∧ l ≤ h ∧ h ≤ s.length), .one (.str ((s.take h.toNat).drop l.toNat)), st⟩
   | _, _ => fail st)
  | .slice el, .one (.rs k) => (match an with
   | .cutA => (match st.slot k, lo, hi.map (st.eval cx) with
    | some (.lst false e xs), none, some (.one (.int .i64 h)) => (bif Nat.beq e.size (cx.T el).size then ⟨.p (0 ≤ h ∧ h ≤ xs.length), .one (.rs k), st.new k (.lst false e (xs.take h.toNat))⟩ else fail st)
    | _, _, _ => fail st)
   | .viewA => (match st.slot k, lo.map (st.eval cx), hi with
    | some (.lst _ e xs), some (.one (.int .i64 l)), none => (bif Nat.beq e.size (cx.T el).size then ⟨.p (0 ≤ l ∧ l ≤ xs.length), .one (.rv k e l.toNat), st⟩ else fail st)
    | _, _, _ => fail st)
   | _ => fail st)
  | .slice el, .one (.list e xs) => (match Nat.beq e.size (cx.T el).size, lowOf (lo.map (st.eval cx)), highOf xs.length (hi.map (st.eval cx)) with
   | true, some l, some h => ⟨.p (0 ≤ l ∧ l ≤ h ∧ h ≤ xs.length), .one (.list e ((xs.take h.toNat).drop l.toNat)), st⟩
   | _, _, _ => fail st)
  | .slice el, .one (.sb k o n e) => (match Nat.beq e (cx.T el).size, lowOf (lo.map (st.eval cx)), highOf n (hi.map (st.eval cx)) with
   | true, some l, some h => ⟨.p (0 ≤ l ∧ l ≤ h ∧ h ≤ n), .one (.sb k (o + l.toNat * e) (h.toNat - l.toNat) e), st⟩
   | _, _, _ => fail st)
  | .array n el, .one (.pp pt y o) => (match subArr pt y o, lowOf (lo.map (st.eval cx)), highOf n (hi.map (st.eval cx)) with
   | some ⟨e, xs⟩, some l, some h => (bif Nat.beq e.size (cx.T el).size then ⟨.p (0 ≤ l ∧ l ≤ h ∧ h ≤ n ∧ h ≤ xs.length), .one (.list e ((xs.take h.toNat).drop l.toNat)), st⟩ else fail st)
   | _, _, _ => fail st)
  | .array n _, .one (.ref k 0) => (match st.slot k, lo, hi with
   | some (.tb (.arr m _) _), none, none => (bif Nat.beq m n then ok st (.one (.ra k n)) else fail st)
   | _, _, _ => fail st)
  | _, _ => fail st)
 | .indexAddr t x i => (match (cx.T t).d, st.eval cx x, st.eval cx i with
  | .slice el, .one (.list e xs), .one (.int _ i) => (bif Nat.beq e.size (cx.T el).size then ⟨.p (0 ≤ i ∧ i < xs.length), .one (.pe e xs i.toNat 0), st⟩ else fail st)
  | .slice el, .one (.sb k o n e), .one (.int _ i) => (bif Nat.beq e (cx.T el).size then ⟨.p (0 ≤ i ∧ i < n), .one (.ref k (o + i.toNat * e)), st⟩ else fail st)
  | .array n el, .one (.pp pt x o), .one (.int _ i) => (match subArr pt x o with
   | some ⟨e, xs⟩ => (bif Nat.beq e.size (cx.T el).size then ⟨.p (0 ≤ i ∧ i < n ∧ i < xs.length), .one (.pe e xs i.toNat 0), st⟩ else fail st)
   | none => fail st)
  | .slice el, .one (.rs k), .one (.int _ i) => (match st.slot k with
   | some (.lst _ e xs) => (bif Nat.beq e.size (cx.T el).size then ⟨.p (0 ≤ i ∧ i < xs.length), .one (.rel k e i.toNat 0), st⟩ else fail st)
   | _ => fail st)
  | .array n el, .one (.ref k o), .one (.int _ i) => (match st.slot k with
   | some (.tb t x) => (match subArr t x o with
    | some ⟨e, xs⟩ => (bif Nat.beq e.size (cx.T el).size then ⟨.p (0 ≤ i ∧ i < n ∧ i < xs.length), .one (.rax k o e i.toNat 0), st⟩ else fail st)
    | none => fail st)
   | _ => fail st)
  | .array n el, .one (.pe e0 ys j o), .one (.int _ i) => (match subArr e0 (ys.getD j e0.dflt) o with
   | some ⟨e, xs⟩ => (bif Nat.beq e.size (cx.T el).size then ⟨.p (0 ≤ i ∧ i < n ∧ i < xs.length), .one (.pe e xs i.toNat 0), st⟩ else fail st)
   | none => fail st)
  | _, _, _ => fail st)
 | .fieldAddr s x f => (match (cx.T s).d, st.eval cx x with
  | .struct fs, .one c => (match nth fs f with
   | some (fo, ft) => (bif (cx.T ft).d.known && Nat.ble 1 (cx.T ft).size then (match c with
    | .ref k o => ok st (.one (.ref k (o + fo)))
    | .rel k e i o => ok st (.one (.rel k e i (o + fo)))
    | .pp t y o => ok st (.one (.pp t y (o + fo)))
    | .pe e xs i o => ok st (.one (.pe e xs i (o + fo)))
    | .rax k o e i off => ok st (.one (.rax k o e i (off + fo)))
    | _ => fail st) else fail st)
   | none => fail st)
  | _, _ => fail st)
 | .load t a =>
  let i := cx.T t
  (match readAt st (st.eval cx a) i.size with
   | some (p, cs) => (bif !i.d.known then fail st else bif i.isAgg then ⟨p, .agg cs, st⟩ else (match cs with | [c] => ⟨p, .one c, st⟩ | _ => fail st))
   | none => fail st)
 | .store t a x =>
  let i := cx.T t
  (match (st.eval cx x).cells? with
   | some vs => (bif i.d.known && (Nat.ble 1 i.size && len? vs i.size) then (match st.eval cx a with
    | .one (.ref k o) => (match st.slot k with
     | some (.box cs) => (bif len? (cut cs o i.size) i.size then ok (st.set k (.box (putAt cs o vs))) .undef else fail st)
     | some (.tb ty x) => (match setAt ty x o vs with
      | some y => ok (st.set k (.tb ty y)) .undef
      | none => fail st)
     | some (.bd bt _) => (match Nat.beq o 1, vs with | true, [c] => ok (st.set k (.bd bt c)) .undef | _, _ => fail st)
     | _ => fail st)
    | .one (.rax k o e j off) => (match st.slot k with
     | some (.tb ty x) => (match subArr ty x o with
      | some ⟨e', xs⟩ => (if h : e' = e then (match parse1 e (putAt (cellsOf e (castLs h xs |>.getD j e.dflt)) off vs) with
       | some y => (match setArr ty x o e j y with
        | some z => (bif Nat.ble (off + i.size) e.size then ⟨.p (j < xs.length), .undef, st.set k (.tb ty z)⟩ else fail st)
        | none => fail st)
       | none => fail st) else fail st)
      | none => fail st)
     | _ => fail st)
    | .one (.rel k e j o) => (match st.slot k with
     | some (.lst fx e' xs) => (if h : e' = e then (match parse1 e (putAt (cellsOf e (castLs h xs |>.getD j e.dflt)) o vs) with
      | some y => (bif Nat.ble (o + i.size) e.size then ⟨.p (j < xs.length), .undef, st.set k (.lst fx e ((castLs h xs).set j y))⟩ else fail st)
      | none => fail st) else fail st)
     | _ => fail st)
    | _ => fail st) else fail st)
   | none => fail st)
 | .alloc t => (match an with
  | .key k => (bif (cx.T t).d.known then ok (st.new k (.box (cx.T t).zero)) (.one (.ref k 0)) else fail st)
  | .keyT k ty => (bif (cx.T t).d.known && (cx.T t).zt then (match (cx.T t).ty with
   | some ty' => (if ty' = ty then ok (st.new k (.tb ty ty.dflt)) (.one (.ref k 0)) else fail st)
   | none => fail st) else fail st)
  | .keyB k => (bif (cx.T t).d.known then (match (cx.T t).zero with | [.nilP, .nilS] => ok (st.new k (.bd t .nilS)) (.one (.ref k 0)) | _ => fail st) else fail st)
  | _ => fail st)
 | .box _ x => (match an, (st.eval cx x).cells? with
  | .key k, some cs => let g := C.ren (notKey k); ⟨.t, .one (.ref k 0), (st.new k (.box (cs.map g)))⟩
  | .keyT k ty, some cs => (match parse1 ty cs with
   | some x => ok (st.new k (.tb ty x)) (.one (.ref k 0))
   | none => fail st)
  | _, _ => fail st)
 | .build t parts => (match (cx.T t).d with
  | .struct fs => (match fillC (fun f => (nth fs f).map fun p => (p.1, (cx.T p.2).size)) (cx.T t).zero (parts.toList.map fun p => (p.1, st.eval cx p.2)) with
   | some cs => ok st (.agg cs)
   | none => fail st)
  | .array _ e => (match fillC (fun f => some (f * (cx.T e).size, (cx.T e).size)) (cx.T t).zero (parts.toList.map fun p => (p.1, st.eval cx p.2)) with
   | some cs => ok st (.agg cs)
   | none => fail st)
  | _ => fail st)
 | .buildSlice t n parts => (match (cx.T t).d, an with
  | .slice e, .key k => (match (cx.T e).ty with
   | some ty => (match fillC (fun f => some (f * (cx.T e).size, (cx.T e).size)) (repC (cx.T e).zero n) (parts.toList.map fun p => (p.1, st.eval cx p.2)) with
    | some cs => (match parseN ty n cs with
     | some xs => (bif Nat.ble (n * (cx.T e).size) (2 ^ 24) then ok (st.new k (.lst false ty xs)) (.one (.rs k)) else fail st)
     | none => fail st)
    | none => fail st)
   | none => fail st)
  | .slice e, .keyB k => (match fillC (fun f => some (f * (cx.T e).size, (cx.T e).size)) (repC (cx.T e).zero n) (parts.toList.map fun p => (p.1, st.eval cx p.2)) with
   | some cs => (bif Nat.ble (n * (cx.T e).size) (2 ^ 24) && (Nat.ble 1 (cx.T e).size && Nat.ble 1 n) then ok (st.new k (.box (cs.map (C.ren (notKey k))))) (.one (.sb k 0 n (cx.T e).size)) else fail st)
   | none => fail st)
  | .slice _, .viewA => (match n, parts.toList with | 0, [] => ok st (.one .cap0) | _, _ => fail st)
  | .slice e, .no => (match (cx.T e).ty with
   | some ty => (match fillC (fun f => some (f * (cx.T e).size, (cx.T e).size)) (repC (cx.T e).zero n) (parts.toList.map fun p => (p.1, st.eval cx p.2)) with
    | some cs => (match parseN ty n cs with
     | some xs => (bif Nat.ble (n * (cx.T e).size) (2 ^ 24) then ok st (.one (.list ty xs)) else fail st)
     | none => fail st)
    | none => fail st)
   | none => fail st)
  | _, _ => fail st)
 | .makeSlice t l c => (match (cx.T t).d, an, st.eval cx l, st.eval cx c with
  | .slice e, .key k, .one (.int .i64 l), .one (.int .i64 c) => (match (cx.T e).ty with
   | some ty => (bif (cx.T e).zt then ⟨.p (0 ≤ l ∧ l ≤ c ∧ (cx.T e).bytes * c ≤ 140737488355328 ∧ c < 2 ^ 62), .one (.rs k), st.new k (.lst false ty (List.replicate l.toNat ty.dflt))⟩ else fail st)
   | none => fail st)
  | _, _, _, _ => fail st)
 | .makeMap t none => (match (cx.T t).d, an with
  | .map kt vt, .key k => (match (cx.T vt).ty with
   | some vty => (match (cx.T kt).ty with
    | some kty => (bif mapOk cx kt vt kty vty (cx.T vt).isAgg then ok (st.new k (.mp kty vty (cx.T vt).isAgg [])) (.one (.rm k)) else fail st)
    | none => fail st)
   | none => fail st)
  | _, _ => fail st)
 | .lookup t m x cok => (match (cx.T t).d, st.eval cx m, st.eval cx x with
  | .map kt vt, .one (.rm k), .one c => (match st.slot k with
   | some (.mp kty vty ag es) => (match mapOk cx kt vt kty vty ag && (cx.T vt).zt, parse1 kty [c] with
    | true, some key => (match valV vty ag ((mget kty key es).getD vty.dflt) with
     | some v => (match cok with
      | true => ok st (.tup [v, .one (.bool (mget kty key es).isSome)])
      | false => ok st v)
     | none => fail st)
    | _, _ => fail st)
   | _ => fail st)
  | _, _, _ => fail st)
 | .mapUpdate t m x y => (match (cx.T t).d, st.eval cx m, st.eval cx x with
  | .map kt vt, .one (.rm k), .one c => (match st.slot k with
   | some (.mp kty vty ag es) => (match mapOk cx kt vt kty vty ag, parse1 kty [c], valOf vty ag (st.eval cx y) with
    | true, some key, some z => ok (st.set k (.mp kty vty ag (mset kty key z es))) .undef
    | _, _, _ => fail st)
   | _ => fail st)
  | _, _, _ => fail st)
 | _ => fail st
/- Builtins. -/
def evMin (st : St) (x y : V) : Res :=
 match x, y with
 | .one (.int k a), .one (.int j b) => if k = j then ok st (.one (.int k (if b < a then b else a))) else fail st
 | _, _ => fail st
def isTail : TD → Bool
 | .slice _ => true
 | .str => true
 | _ => false
/-- What is put behind an empty row without room is a new row. -/
def evAppP (cx : Cx) (t u : Nat) (x y : V) (st : St) : Res :=
 match (cx.T t).d, isTail (cx.T u).d with
 | .slice e, true => (match (cx.T e).ty with
  | none => fail st
  | some ty => (match tailOf st ty y with
   | none => fail st
   | some ys => (match x with
    | .one .nilS => ⟨.p (ys.length * (cx.T e).bytes ≤ 140737488355328), .one (.list ty ys), st⟩
    | .one .cap0 => ⟨.p (ys.length * (cx.T e).bytes ≤ 140737488355328), .one (.list ty ys), st⟩
    | _ => fail st)))
 | _, _ => fail st
def evB (cx : Cx) (b : Builtin) (tys : List Nat) (args : List V) (an : Ann) (st : St) : Res :=
 match b, tys, args with
 | .len, t :: _, [x] => (match (cx.T t).d, x with
  | .str, .one (.str s) => ok st (.one (.int .i64 s.length))
  | .slice _, .one (.list _ xs) => ok st (.one (.int .i64 xs.length))
  | .slice _, .one (.sb _ _ n _) => ok st (.one (.int .i64 n))
  | .slice _, .one (.rs k) => (match st.slot k with
   | some (.lst _ _ xs) => ok st (.one (.int .i64 xs.length))
   | some (.brow _ xs) => ok st (.one (.int .i64 xs.length))
   | _ => fail st)
  | .slice _, .one .nilS => ok st (.one (.int .i64 0))
  | .slice _, .one .cap0 => ok st (.one (.int .i64 0))
  | .map _ _, .one (.rm k) => (match st.slot k with
   | some (.mp _ _ _ es) => ok st (.one (.int .i64 es.length))
   | _ => fail st)
  | _, _ => fail st)
 | .min, _, [x, y] => evMin st x y
 | .clear, [t], [x] => (match (cx.T t).d, x with
  | .slice el, .one (.rv k e i) => (match st.slot k, (cx.T el).ty, (cx.T el).zt with
   | some (.lst fx e' xs), some ty, true => (match decide (e' = e), decide (ty = e') with
    | true, true => ok (st.set k (.lst fx e' (xs.take i ++ List.replicate (xs.length - i) e'.dflt))) (.tup [])
    | _, _ => fail st)
   | _, _, _ => fail st)
  | _, _ => fail st)
 | .copy, t :: _, [x, y] => (match (cx.T t).d, x, y with
  | .slice el, .one (.ra k n), .one (.str s) => (match Nat.beq (cx.T el).size 1, st.slot k with
   | true, some (.tb (.arr m (.int .u8)) xs) => (bif Nat.beq m n then ok (st.set k (.tb (.arr m (.int .u8)) ((s.take n).map (fun b => (b.toNat : Int)) ++ List.drop (α := Int) s.length xs))) (.one (.int .i64 (min s.length n : Nat))) else fail st)
   | _, _ => fail st)
  | _, _, _ => fail st)
 | .append, [t, u], [x, y] => (match an with | .viewA => evAppP cx t u x y st | _ => (match (cx.T t).d, isTail (cx.T u).d with
  | .slice e, true => (match (cx.T e).ty with
   | none => fail st
   | some ty => (match tailOf st ty y with
    | none => fail st
    | some ys => (match x with
     | .one (.rs k) => (match st.slot k with
      | some (.lst false ty' xs) => (if h : ty' = ty then
          ⟨.p ((xs.length + ys.length) * (cx.T e).bytes ≤ 140737488355328), .one (.rs k), st.new k (.lst false ty (castLs h xs ++ ys))⟩ else fail st)
      | some (.brow T xs) => (bif Nat.beq T e then (if h : ty = Ty.int .u8 then
          ⟨.p ((xs.length + ys.length) * (cx.T e).bytes ≤ 140737488355328), .one (.rs k), st.new k (.brow T (xs ++ castLs h ys))⟩ else fail st) else fail st)
      | _ => fail st)
     | .one .nilS => (match an with
      | .key k => ⟨.p (ys.length * (cx.T e).bytes ≤ 140737488355328), .one (.rs k), st.new k (.lst false ty ys)⟩
      | _ => fail st)
     | .one .cap0 => (match an with
      | .key k => ⟨.p (ys.length * (cx.T e).bytes ≤ 140737488355328), .one (.rs k), st.new k (.lst false ty ys)⟩
      | _ => fail st)
     | _ => fail st)))
  | _, _ => fail st))
 | _, _, _ => fail st
/- Ghost steps. -/
def keepRegs (ts : List Nat) (st : St) : List (Nat × V) := ts.map fun t => (t, st.get t)
def C.frz (k : Nat) (e : Ty) (xs : List e.El) : C → C
 | .rs j => bif Nat.beq j k then .list e xs else .rs j
 | .rel j e' i o => bif Nat.beq j k then .top else .rel j e' i o
 | .ref j o => bif Nat.beq j k then .top else .ref j o
 | .rm j => bif Nat.beq j k then .top else .rm j
 | .rax j o e' i off => bif Nat.beq j k then .top else .rax j o e' i off
 | .rv j e' i => bif Nat.beq j k then .top else .rv j e' i
 | .ra j n => bif Nat.beq j k then .top else .ra j n
 | .sb j o n e' => bif Nat.beq j k then .top else .sb j o n e'
 | .selfp j => bif Nat.beq j k then .top else .selfp j
 | .fn f cs => bif mem k cs then .top else .fn f cs
 | c => c
def C.frzB (k : Nat) (t : Ty) (x : t.El) : C → C
 | .rs j => bif Nat.beq j k then .top else .rs j
 | .rel j e' i o => bif Nat.beq j k then .top else .rel j e' i o
 | .ref j o => bif Nat.beq j k then .pp t x o else .ref j o
 | .rm j => bif Nat.beq j k then .top else .rm j
 | .rax j o e' i off => bif Nat.beq j k then .top else .rax j o e' i off
 | .rv j e' i => bif Nat.beq j k then .top else .rv j e' i
 | .ra j n => bif Nat.beq j k then .top else .ra j n
 | .sb j o n e' => bif Nat.beq j k then .top else .sb j o n e'
 | .selfp j => bif Nat.beq j k then .top else .selfp j
 | .fn f cs => bif mem k cs then .top else .fn f cs
 | c => c
def toKey (k j : Nat) : Nat → Option Nat := fun i => bif Nat.beq i j then none else (bif Nat.beq i k then some j else some i)
def ghost (g : Ghost) (st : St) : Option St :=
 match g with
 | .keep ts => some ⟨keepRegs ts st, st.slots⟩
 | .drop k => some (st.del k)
 | .ren k j => (match st.slot k with
  | some s => (bif Nat.beq k j then some st else
      let st' := (⟨st.regs, del k (del j st.slots)⟩ : St).map (C.ren (toKey k j))
      some ⟨st'.regs, (j, s.map (C.ren (toKey k j))) :: st'.slots⟩)
  | none => none)
 | .freeze k => (match st.slot k with
  | some (.lst _ e xs) => some ((st.del k).map (C.frz k e xs))
  | _ => none)
 | .freezeBox k t => (match st.slot k with
  | some (.box cs) => (match parse1 t cs with
   | some x => some ((st.del k).map (C.frzB k t x))
   | none => none)
  | some (.tb t' x) => (if h : t' = t then some ((st.del k).map (C.frzB k t (castEl h x))) else none)
  | _ => none)
 | .nilCell k i j e => (match (st.kill j).slot k with
  | some (.box cs) => (match nth cs i, Nat.beq k j with
   | some .nilS, false => some (((st.kill j).set j (.lst false e [])).set k (.box (putAt cs i [.rs j])))
   | _, _ => none)
  | some (.bd bt .nilS) => (match Nat.beq i 1, Nat.beq k j with
   | true, false => some (((st.kill j).set j (.lst false e [])).set k (.bd bt (.rs j)))
   | _, _ => none)
  | _ => none)
 | .fix k => (match st.slot k with
  | some (.lst _ e xs) => some (st.set k (.lst true e xs))
  | _ => none)
 | .nilRow k j T => (match (st.kill j).slot k with
  | some (.bd bt .nilS) => (match Nat.beq k j with
   | false => some (((st.kill j).set j (.brow T [])).set k (.bd bt (.rs j)))
   | true => none)
  | _ => none)
def ghosts : List Ghost → St → Option St
 | [], st => some st
 | g :: r, st => match ghost g st with | some st' => ghosts r st' | none => none
/- Calls. -/
abbrev Con := Nat → List V → List Slot → V → List Slot → Prop
def posOf (k : Nat) : List Nat → Nat → Option Nat
 | [], _ => none
 | j :: r, n => bif Nat.beq k j then some n else posOf k r (n + 1)
def slotsOf (st : St) : List Nat → Option (List Slot)
 | [] => some []
 | k :: r => match st.slot k, slotsOf st r with
  | some s, some ss => some (s :: ss)
  | _, _ => none
def nodupB : List Nat → Bool
 | [] => true
 | k :: r => bif mem k r then false else nodupB r
def zipS : List Nat → List Slot → List (Nat × Slot)
 | k :: ks, s :: ss => (k, s) :: zipS ks ss
 | _, _ => []
def delAll {α : Type} : List Nat → List (Nat × α) → List (Nat × α)
 | [], l => l
 | k :: ks, l => delAll ks (del k l)
def notKeys (ks : List Nat) : Nat → Option Nat := fun j => bif mem j ks then none else some j
def killAll (ks : List Nat) (st : St) : St := st.map (C.ren (notKeys ks))
def lstKeys (st : St) : List Nat → List Nat
 | [] => []
 | k :: ks => match st.slot k with
  | some (.lst fx _ _) => (match fx with | false => k :: lstKeys st ks | true => lstKeys st ks)
  | some (.brow _ _) => k :: lstKeys st ks
  | none => k :: lstKeys st ks
  | some _ => lstKeys st ks
def afterCall (st : St) (pass news : List Nat) (ss' : List Slot) : St :=
 let st1 := killAll (news ++ lstKeys st pass) (⟨st.regs, delAll (pass ++ news) st.slots⟩ : St)
 ⟨st1.regs, zipS (pass ++ news) (ss'.map (Slot.map (C.ren (nth (pass ++ news))))) ++ st1.slots⟩
def Ty.flat : Ty → Bool
 | .pair a b => a.flat && b.flat
 | .arr _ e => e.flat
 | .list _ => false
 | .ptr _ => false
 | _ => true
def C.flat : C → Bool
 | .list _ _ => false
 | .pp _ _ _ => false
 | .pe _ _ _ _ => false
 | .op _ _ => false
 | _ => true
def CT.flat : CT → Bool
 | .ty t => t.flat
 | .con c => c.flat
 | .fnv _ => true
 | .optp _ => false
 | .sbv _ _ => true
def VT1.flat : VT1 → Bool
 | .one ct => ct.flat
 | .agg cts => cts.all CT.flat
 | .str t => t.flat
def VT.flat : VT → Bool
 | .v x => x.flat
 | .tup xs => xs.all VT1.flat
 | .undef => true
def SS.flat : SS → Bool
 | .box cts => cts.all CT.flat
 | .str t => t.flat
 | .lst _ e => e.flat
 | .tb t => t.flat
 | .bd _ ct => ct.flat
 | .mp k v _ => k.flat && v.flat
 | .brow _ => true
def isLst (st : St) (k : Nat) : Bool := match st.slot k with | some (.lst _ _ _) => true | _ => false
/-- Rows that are lent: told as rows that stay. -/
def C.brw (st : St) (brw : List Nat) : C → C
 | .rs k => bif mem k brw then (match st.slot k with | some (.lst _ e xs) => .list e xs | _ => .rs k) else .rs k
 | c => c
def brwOk (st : St) (keys brw : List Nat) (rt : VT) (sss : List SS) : Bool :=
 match brw with
 | [] => true
 | _ => rt.flat && (sss.all SS.flat && brw.all fun k => isLst st k && !mem k keys)
def wpCall (Φ : Con) (st : St) (f : Nat) (args : List V) (pass news brw : List Nat) (rt : VT) (sss : List SS) (κ : V → St → Prop) : Prop :=
 match slotsOf st pass, nodupB (pass ++ news) && Nat.beq sss.length (pass ++ news).length && brwOk st (pass ++ news) brw rt sss with
 | some ss, true =>
  ∃ (x : rt.El) (y : SSs.El sss), Φ f ((args.map (V.map (C.brw st brw))).map (V.map (C.ren fun k => posOf k pass 0))) (ss.map (Slot.map (C.ren fun k => posOf k pass 0))) (rt.enc x) (SSs.enc sss y) ∧
   κ ((rt.enc x).map (C.ren (nth (pass ++ news)))) (afterCall st pass news (SSs.enc sss y))
 | _, _ => False
def wpOp (cx : Cx) (Φ : Con) (o : Oper) (an : Ann) (st : St) (κ : V → St → Prop) : Prop :=
 match o.op with
 | .call c => (match c.callee with
  | .builtin b => let r := evB cx b c.argTypes.toList (c.args.toList.map (st.eval cx)) an st; r.side.and (κ r.val r.st)
  | .value f => (match st.eval cx f, an with
   | .one (.fn g caps), .call pass news brw rt sss _ => wpCall Φ st g (c.args.toList.map (st.eval cx) ++ caps.map fun k => V.one (.ref k 0)) pass news brw rt sss κ
   | _, _ => False)
  | _ => False)
 | op => let r := evI cx op an st; r.side.and (κ r.val r.st)
/- Regions and code. -/
def wpOpsA (cx : Cx) (Φ : Con) (all : Array Oper) (Q : Exit → St → Prop) : List Oper → List (List Ghost × Ann) → St → Prop
 | [], _, st => Q .normal st
 | _ :: _, [], _ => False
 | o :: os, a :: as, st =>
  match ghosts a.1 st with
  | none => False
  | some st =>
   match o.guard with
   | none => wpOp cx Φ o a.2 st fun v st' => wpOpsA cx Φ all Q os as (st'.put o.dst v)
   | some (j, want) =>
    match (all[j]?).bind (·.dst) with
    | none => False
    | some t =>
     match st.get t with
     | .one (.bool b) =>
      (match want with
       | true => cond b (wpOp cx Φ o a.2 (st.put (some t) (.one (.bool true))) fun v st' => wpOpsA cx Φ all Q os as (st'.put o.dst v))
           (wpOpsA cx Φ all Q os as ((st.put (some t) (.one (.bool false))).put o.dst .undef))
       | false => cond b (wpOpsA cx Φ all Q os as ((st.put (some t) (.one (.bool true))).put o.dst .undef))
           (wpOp cx Φ o a.2 (st.put (some t) (.one (.bool false))) fun v st' => wpOpsA cx Φ all Q os as (st'.put o.dst v)))
     | .undef => wpOpsA cx Φ all Q os as (st.put o.dst .undef)
     | _ => False
inductive An where
 | leaf
 | reg (as : List (List Ghost × Ann))
 | gh (gs : List Ghost) (a : An)
 | seq (a b : An)
 | cond (a b : An)
 | block (a : An)
 | loop (l : LS) (fu : l.El → Nat) (a : An)
 | join (all : Bool) (l : LS) (a : An)
 | post (a : An) (gs : List Ghost)
 | unopt (r : Nat) (t : Ty) (a : An)
 | eqi (r : Nat) (k : IntKind) (n : Nat) (a b : An)
 | eqs (r o n : Nat) (a b : An)
 | rng (ts : List Nat) (k : Nat) (a : An)
/- Regions that draw their order. -/
def still : Op → Bool
 | .move _ | .assign _ | .pick _ _ _ | .nilCheck _ | .binOp _ _ _ _ _ | .unOp _ _ _ | .convert _ _ _ | .makeFunc _ _ _ | .extract _ _ | .field _ _ _
 | .index _ _ _ | .slice _ _ _ _ none | .indexAddr _ _ _ | .fieldAddr _ _ _ | .load _ _ | .build _ _ | .buildSlice _ _ _ => true
 | _ => false
def tmpsOf : List Operand → List Nat
 | [] => []
 | .tmp t :: r => t :: tmpsOf r
 | _ :: r => tmpsOf r
def guardT (ops : Array Oper) (o : Oper) : List Nat :=
 match o.guard with
 | some (j, _) => (match (ops[j]?).bind (·.dst) with | some t => [t] | none => [])
 | none => []
def readsT (ops : Array Oper) (o : Oper) : List Nat := tmpsOf o.op.operands.toList ++ guardT ops o
def isCallV : Op → Bool
 | .call c => (match c.callee with | .value _ => true | _ => false)
 | _ => false
def isLen : Op → Bool
 | .call c => (match c.callee with | .builtin .len => true | .builtin .min => true | _ => false)
 | _ => false
def edgeTo (o : Oper) (i : Nat) : Bool := o.after.toList.any fun e => Region.binds .any e && Nat.beq e.on i
def pairOk (ops : Array Oper) (i : Nat) (oi : Oper) (j : Nat) (oj : Oper) : Bool :=
 -- i ahead of j
 (match oi.dst with
  | some t => (match oj.dst with | some u => !Nat.beq t u | none => true) && (!mem t (readsT ops oj) || edgeTo oj i)
  | none => true) &&
 (match oj.dst with
  | some u => !mem u (readsT ops oi) || edgeTo oj i
  | none => true)
def backOk (i : Nat) (o : Oper) : Bool := o.after.toList.all fun e => !Region.binds .any e || Nat.blt e.on i
def pairsFrom (ops : Array Oper) (i : Nat) (oi : Oper) : Nat → List Oper → Bool
 | _, [] => true
 | j, oj :: r => pairOk ops i oi j oj && pairsFrom ops i oi (j + 1) r
def drawOkL (ops : Array Oper) : Nat → List Oper → Bool
 | _, [] => true
 | i, o :: r => backOk i o && (pairsFrom ops i o (i + 1) r && drawOkL ops (i + 1) r)
def drawOk (ops : Array Oper) : Bool := drawOkL ops 0 ops.toList
/-- Operations that may stand in a drawn region. -/
def plainOp (o : Oper) (an : Ann) : Bool :=
 match o.op with
 | .call c => (match c.callee, an with
  | .value _, .call [] [] [] _ [] _ => true
  | .builtin .len, .no => true
  | .builtin .min, .no => true
  | .builtin .append, .viewA => true
  | _, _ => false)
 | .buildSlice _ _ _ => (match an with | .no => true | .viewA => true | _ => false)
 | op => (match an with | .no => still op | _ => false)
def plainL : List Oper → List (List Ghost × Ann) → Bool
 | [], _ => true
 | o :: l, (gs, a) :: as => (match gs with | [] => true | _ => false) && (plainOp o a && plainL l as)
 | _ :: _, [] => false
def C.noK (K : List Nat) : C → Bool
 | .ref k _ => !mem k K
 | .rel k _ _ _ => !mem k K
 | .rs k => !mem k K
 | .rm k => !mem k K
 | .rax k _ _ _ _ => !mem k K
 | .rv k _ _ => !mem k K
 | .ra k _ => !mem k K
 | .sb k _ _ _ => !mem k K
 | .selfp k => !mem k K
 | .fn _ caps => caps.all fun k => !mem k K
 | _ => true
mutual
def V.noK (K : List Nat) : V → Bool
 | .one c => c.noK K
 | .agg cs => cs.all (C.noK K)
 | .tup vs => V.noKs K vs
 | _ => true
def V.noKs (K : List Nat) : List V → Bool
 | [] => true
 | v :: r => V.noK K v && V.noKs K r
end
def Slot.noK (K : List Nat) : Slot → Bool
 | .box cs => cs.all (C.noK K)
 | .bd _ c => c.noK K
 | _ => true
def St.noK (K : List Nat) (st : St) : Bool := (st.regs.all fun p => p.2.noK K) && st.slots.all fun p => !mem p.1 K && p.2.noK K
/-- A new box. -/
def allocOp (o : Oper) (a : List Ghost × Ann) : Option Nat :=
 match a.1, o.op, a.2, o.guard with
 | [], .alloc _, .key k, none => some k
 | [], .alloc _, .keyT k _, none => some k
 | _, _, _, _ => none
/- Parts of a drawn region: plain operations, new boxes, and what comes behind all these. -/
def allocKeys : List Oper → List (List Ghost × Ann) → List Nat
 | o :: os, a :: as => (match allocOp o a with | some k => k :: allocKeys os as | none => [])
 | _, _ => []
def plainN : List Oper → List (List Ghost × Ann) → Nat
 | o :: os, a :: as => bif (match a.1 with | [] => true | _ => false) && plainOp o a.2 then plainN os as + 1 else 0
 | _, _ => 0
def dstsOf : List Oper → List Nat
 | [] => []
 | o :: r => (match o.dst with | some t => t :: dstsOf r | none => dstsOf r)
def disjB : List Nat → List Nat → Bool
 | [], _ => true
 | a :: l, m => !mem a m && disjB l m
/- What each operation comes behind, straight or by way of others. -/
def behind (o : Oper) (acc : List (List Nat)) : List Nat := o.after.toList.flatMap fun e => bif Region.binds .any e then e.on :: acc.getD e.on [] else []
def behindL : List Oper → List (List Nat) → List (List Nat)
 | [], acc => acc
 | o :: r, acc => behindL r (acc ++ [behind o acc])
def lastOk (l : List (List Nat)) (p : Nat) : Bool := (List.range l.length).all fun j => Nat.blt j p || (List.range j).all fun i => mem i (l.getD j [])
def tailOk (ops : List Oper) (as : List (List Ghost × Ann)) : Bool :=
 let p := plainN ops as
 let A := allocKeys (ops.drop p) (as.drop p)
 let q := p + A.length
 lastOk (behindL ops []) q && (nodupB A && disjB (dstsOf ((ops.take q).drop p)) ((ops.take p).flatMap (fun o => readsT ops.toArray o)))
/-- What a new box is laid with: a store ahead of what comes behind all. -/
def initOp (o : Oper) (a : List Ghost × Ann) : Option Nat :=
 match a.1, o.op, a.2, o.guard, o.dst with
 | [], .store _ (.tmp r) _, .no, none, none => some r
 | _, _, _, _, _ => none
def initRs : List Oper → List (List Ghost × Ann) → List Nat
 | o :: os, a :: as => (match initOp o a with | some r => r :: initRs os as | none => [])
 | _, _ => []
def xReads : List Oper → List Nat
 | [] => []
 | o :: r => (match o.op with | .store _ _ (.tmp x) => x :: xReads r | _ => xReads r)
def tail2Ok (ops : List Oper) (as : List (List Ghost × Ann)) : Bool :=
 let p := plainN ops as
 let A := allocKeys (ops.drop p) (as.drop p)
 let q := p + A.length
 let R := initRs (ops.drop q) (as.drop q)
 let ds := dstsOf ((ops.take q).drop p)
 lastOk (behindL ops []) (q + R.length) && (nodupB A && (disjB ds ((ops.take p).flatMap (fun o => readsT ops.toArray o)) && (R.all (fun r => mem r ds) && (nodupB R && disjB ds (xReads ((ops.drop q).take R.length))))))
/- Stores that may come ahead of moves between registers: every other operation is behind them or ahead of them. -/
def isStore (o : Oper) : Bool := match o.op with | .store _ _ _ => true | _ => false
def lateStore (o : Oper) (a : List Ghost × Ann) : Bool :=
 match a.1, o.op, a.2, o.guard, o.dst with
 | [], .store _ _ _, .no, none, none => true
 | _, _, _, _, _ => false
def pureReg (o : Oper) : Bool := match o.op, o.guard with | .move _, none => true | .assign _, none => true | _, _ => false
def lateL : List Oper → List (List Ghost × Ann) → Bool
 | [], _ => true
 | o :: l, a :: as => (lateStore o a || ((match a.1 with | [] => true | _ => false) && plainOp o a.2)) && lateL l as
 | _ :: _, [] => false
def lateOk (ops : List Oper) (as : List (List Ghost × Ann)) : Bool :=
 lateL ops as && (List.range ops.length).all fun s => match ops[s]? with
  | some o => !isStore o || (List.range ops.length).all fun j => match ops[j]? with
   | some x => Nat.beq j s || (pureReg x || (bif Nat.blt j s then mem j ((behindL ops []).getD s []) else mem s ((behindL ops []).getD j [])))
   | none => true
  | none => true
/- Moves whose source no operation of the region lays: they may always come first, so the others may be taken to be behind them. -/
def freeMove (ds : List Nat) (o : Oper) : Bool :=
 pureReg o && ((o.after.toList.all fun e => !Region.binds .any e) && (match o.op with
  | .move (.tmp t) => !mem t ds
  | .assign (.tmp t) => !mem t ds
  | _ => false))
def notSel (o : Oper) : Bool := match o.op with | .select _ _ => false | _ => true
def freeAt (ops : List Oper) : List Nat := bif ops.all notSel then (List.range ops.length).filter fun i => match ops[i]? with | some o => freeMove (dstsOf ops) o | none => false else []
def relaxO (fr : List Nat) (j : Nat) (o : Oper) : Oper := { o with after := o.after ++ (bif mem j fr then #[] else ((fr.filter fun i => Nat.blt i j).map fun i => (⟨i, .data⟩ : Edge)).toArray) }
def relaxL (fr : List Nat) : Nat → List Oper → List Oper
 | _, [] => []
 | j, o :: r => relaxO fr j o :: relaxL fr (j + 1) r
def relax (ops : Array Oper) : Array Oper := (relaxL (freeAt ops.toList) 0 ops.toList).toArray
/- A loop over a map that only looks whether some entry passes a test. -/
structure Rng where
 m : Nat
 t1 : Nat
 it : Nat
 n : Nat
 c : Nat
 e : Nat
 v : Nat
 x : Nat
 y : Nat
 q : Nat
 T : Nat
 b1 : Nat
 b2 : Nat
 ops : Array Oper
 thn : Code
def nog (o : Oper) : Bool := match o.guard with | none => true | _ => false
def rngOps (o1 o2 o3 o4 o5 o6 o7 : Oper) : Option Rng :=
 match o1.op, o2.op, o3.op, o4.op, o5.op, o6.op, o7.op with
 | .move (.tmp m), .range T (.tmp t1'), .next (.tmp it1) false, .extract (.tmp n1) 0, .entry (.tmp it2), .extract (.tmp e1) q, .assign (.tmp v1) =>
  (match o1.dst, o2.dst, o3.dst, o4.dst, o5.dst, o6.dst, o7.dst with
  | some t1, some it, some n, some c, some e, some v, some x =>
   (bif (nog o1 && (nog o2 && (nog o3 && (nog o4 && (nog o5 && (nog o6 && nog o7)))))) && (Nat.beq t1' t1 && (Nat.beq it1 it && (Nat.beq n1 n && (Nat.beq it2 it && (Nat.beq e1 e && (Nat.beq v1 v && Nat.ble q 1)))))) then
    some ⟨m, t1, it, n, c, e, v, x, 0, q, T, 0, 0, #[], .skip⟩ else none)
  | _, _, _, _, _, _, _ => none)
 | _, _, _, _, _, _, _ => none
def rngShape (cd : Code) : Option Rng :=
 match cd with
 | .seq (.region _ r1 false) (.block b1 (.loop (.seq (.region _ r2 false) (.seq (.cond (.tmp cc) .skip (.exit b1')) (.block b2 (.seq (.region _ r3 false) (.seq (.region _ ops false) (.cond (.tmp y) thn .skip)))))))) =>
  (match r1.toList, r2.toList, r3.toList with
  | [o1, o2], [o3, o4], [o5, o6, o7] => (match rngOps o1 o2 o3 o4 o5 o6 o7 with
   | some R => (bif Nat.beq cc R.c && (Nat.beq b1' b1 && !Nat.beq b2 b1) then some { R with y := y, b1 := b1, b2 := b2, ops := ops, thn := thn } else none)
   | none => none)
  | _, _, _ => none)
 | _ => none
def Rng.scratch (R : Rng) : List Nat := [R.t1, R.it, R.n, R.c, R.e, R.v, R.x] ++ dstsOf R.ops.toList
def rngOk (cx : Cx) (R : Rng) (ts : List Nat) (k v : Ty) (ag : Bool) : Bool :=
 disjB ts R.scratch && (disjB [R.it] ([R.n, R.c, R.e, R.v, R.x] ++ dstsOf R.ops.toList) && (match (cx.T R.T).d with | .map _ _ => true | _ => false))
def cmpV (op : BinOp) (a b : Int) : Option V := match op with
 | .eql => some (.one (.bool (a == b)))
 | .neq => some (.one (.bool (a != b)))
 | .lss => some (.one (.bool (decide (a < b))))
 | .leq => some (.one (.bool (decide (a ≤ b))))
 | .gtr => some (.one (.bool (decide (a > b))))
 | .geq => some (.one (.bool (decide (a ≥ b))))
 | _ => none
def tinyOp (cx : Cx) (st : St) : Op → Option V
 | .move x => some (st.eval cx x)
 | .assign x => some (st.eval cx x)
 | .binOp op _ x y _ => (match st.eval cx x, st.eval cx y with
  | .one (.int k a), .one (.int j b) => (match decide (k = j) with | true => cmpV op a b | false => none)
  | _, _ => none)
 | _ => none
def runPlain (cx : Cx) : List Oper → St → Option St
 | [], st => some st
 | o :: r, st => match nog o, tinyOp cx st o.op with
  | true, some v => runPlain cx r (st.put o.dst v)
  | _, _ => none
def rngTest (cx : Cx) (st : St) (R : Rng) (k v : Ty) (ag : Bool) (p : k.El × v.El) : Option Bool :=
 match (match R.q with | 0 => valV k false p.1 | _ => valV v ag p.2) with
 | none => none
 | some u => (match runPlain cx R.ops.toList (st.put (some R.x) u) with
  | none => none
  | some st' => (match st'.get R.y with | .one (.bool b) => some b | _ => none))
def anyC {α : Type} (t : α → Option Bool) : List α → Option Bool
 | [] => some false
 | p :: r => match t p, anyC t r with | some a, some b => some (a || b) | _, _ => none
def rngQ (R : Rng) (Q : Exit → St → Prop) : Exit → St → Prop
 | .normal, _ => False
 | .exit j, st => (bif Nat.beq j R.b2 then False else bif Nat.beq j R.b1 then Q .normal st else Q (.exit j) st)
 | e, st => Q e st
/-- A register that is told to hold a pointer or nil. -/
def optAt (st : St) (r : Nat) (t : Ty) : Option (Option t.El) := match st.get r with | .one c => (CT.optp t).parse c | _ => none
def wpTail (cx : Cx) (Φ : Con) (ops : Array Oper) (as : List (List Ghost × Ann)) (Q : Exit → St → Prop) (p : Nat) (K : List Nat) (st : St) : Prop :=
 match (tailOk ops.toList as || tail2Ok ops.toList as) && st.noK K with
 | true => wpOpsA cx Φ ops (fun e st' => match e with | .normal => (st'.noK K = true ∧ wpOpsA cx Φ ops Q (ops.toList.drop p) (as.drop p) st') | e => Q e st') (ops.toList.take p) (as.take p) st
 | false => False
def wpA (cx : Cx) (Φ : Con) : An → Code → St → (Exit → St → Prop) → Prop
 | .gh gs a, c, st, Q => (match ghosts gs st with | some st' => wpA cx Φ a c st' Q | none => False)
 | .unopt r t a, c, st, Q => (match optAt st r t with | some x => ∃ y, x = some y ∧ wpA cx Φ a c (st.put (some r) (.one (.pp t y 0))) Q | none => False)
 | .eqs r o n a b, c, st, Q => (match st.get r with | .one (.sb k o' n' e) => (o' = o ∧ n' = n → wpA cx Φ a c (st.put (some r) (.one (.sb k o n e))) Q) ∧ (¬ (o' = o ∧ n' = n) → wpA cx Φ b c st Q) | _ => False)
 | .eqi r k n a b, c, st, Q => (match st.get r with | .one (.int k' v) => k' = k ∧ (v = n → wpA cx Φ a c (st.put (some r) (.one (.int k n))) Q) ∧ (v ≠ n → wpA cx Φ b c st Q) | _ => False)
 | .rng ts k a, c, st, Q => (match rngShape c with
  | some R => (match st.get R.m, st.slot k with
   | .one (.rm k'), some (.mp kty vty ag es) => (match Nat.beq k k' && rngOk cx R ts kty vty ag with
    | true => ∃ b, anyC (rngTest cx ⟨keepRegs ts st, st.slots⟩ R kty vty ag) es = some b ∧ (match b with
     | true => wpA cx Φ a R.thn ⟨keepRegs ts st, st.slots⟩ (rngQ R Q)
     | false => Q .normal ⟨keepRegs ts st, st.slots⟩)
    | false => False)
   | _, _ => False)
  | none => False)
 | .post a gs, c, st, Q => wpA cx Φ a c st fun e st' => (match e with | .normal => (match ghosts gs st' with | some st2 => Q .normal st2 | none => False) | e => Q e st')
 | .leaf, .skip, st, Q => Q .normal st
 | .leaf, .exit id, st, Q => Q (.exit id) st
 | .leaf, .ret, st, Q => Q .ret st
 | .reg as, .region _ ops false, st, Q => wpOpsA cx Φ ops Q ops.toList as st
 | .reg as, .region _ ops true, st, Q => (match drawOk ops, plainL ops.toList as with | true, true => wpOpsA cx Φ ops Q ops.toList as st | true, false => (match lateOk ops.toList as with | true => wpOpsA cx Φ ops Q ops.toList as st | false => (match drawOk (relax ops) with | true => wpTail cx Φ (relax ops) as Q (plainN (relax ops).toList as) (allocKeys ((relax ops).toList.drop (plainN (relax ops).toList as)) (as.drop (plainN (relax ops).toList as))) st | false => False)) | _, _ => False)
 | .seq a b, .seq x y, st, Q => wpA cx Φ a x st fun e st' => (match e with | .normal => wpA cx Φ b y st' Q | e => Q e st')
 | .cond a b, .cond c x y, st, Q => (match st.eval cx c with
  | .one (.bool t) => cond t (wpA cx Φ a x st Q) (wpA cx Φ b y st Q)
  | _ => False)
 | .block a, .block id x, st, Q => wpA cx Φ a x st fun e st' => (match e with | .exit j => (bif Nat.beq j id then Q .normal st' else Q (.exit j) st') | e => Q e st')
 | .join _ l a, c, st, Q => ∃ J : l.El → Prop, wpA cx Φ a c st (fun e st' => (match e with | .normal => (match l.parse st' with | some s => J s | none => False) | e => Q e st')) ∧ ∀ s, J s → Q .normal (l.enc s)
 | .loop l _ a, .loop x, st, Q => (match l.parse st with
  | some s0 => ∃ (I : l.El → Prop) (μ : l.El → Nat), I s0 ∧ ∀ s, I s → wpA cx Φ a x (l.enc s) fun e st' => (match e with
   | .normal => (match l.parse st' with | some s' => I s' ∧ μ s' < μ s | none => False)
   | e => Q e st')
  | none => False)
 | _, _, _, _ => False
def result1 (cx : Cx) (st : St) : ResultVar → Option V
 | .tmp t => some (st.get t)
 | .cell x t => (match readAt st (st.get x) (cx.T t).size with
  | some (.t, cs) => (bif !(cx.T t).d.known then none else bif (cx.T t).isAgg then some (.agg cs) else (match cs with | [c] => some (.one c) | _ => none))
  | _ => none)
def resultOf (cx : Cx) (st : St) : List ResultVar → Option V
 | [r] => result1 cx st r
 | rs => (match go rs with | some vs => some (.tup vs) | none => none)
where
 go : List ResultVar → Option (List V)
 | [] => some []
 | x :: r => (match result1 cx st x, go r with | some v, some vs => some (v :: vs) | _, _ => none)
end Go.AM
/- The relation between abstract states and the machine's world; its stability. -/
namespace Go.AM
open Go
def All2 {α β : Type} (R : α → β → Prop) : List α → List β → Prop
 | [], [] => True
 | a :: as, b :: bs => R a b ∧ All2 R as bs
 | _, _ => False
section
variable {α β γ : Type} {R S : α → β → Prop}
theorem All2.mono (h : ∀ a b, R a b → S a b) : ∀ {as : List α} {bs : List β}, All2 R as bs → All2 S as bs
 | [], [], _ => trivial
 | _ :: _, _ :: _, ⟨h1, h2⟩ => ⟨h _ _ h1, All2.mono h h2⟩
theorem All2.length : ∀ {as : List α} {bs : List β}, All2 R as bs → as.length = bs.length
 | [], [], _ => rfl
 | _ :: _, _ :: _, ⟨_, h2⟩ => by simp [All2.length h2]
theorem All2.get : ∀ {as : List α} {bs : List β}, All2 R as bs → ∀ {i : Nat} {a : α}, as[i]? = some a → ∃ b, bs[i]? = some b ∧ R a b
 | [], [], _, i, a, h => by simp at h
 | x :: as, y :: bs, ⟨h1, h2⟩, 0, a, h => by simp at h; subst h; exact ⟨y, rfl, h1⟩
 | x :: as, y :: bs, ⟨h1, h2⟩, i + 1, a, h => by simp at h; simpa using All2.get h2 h
theorem All2.get' : ∀ {as : List α} {bs : List β}, All2 R as bs → ∀ {i : Nat} {b : β}, bs[i]? = some b → ∃ a, as[i]? = some a ∧ R a b
 | [], [], _, i, a, h => by simp at h
 | x :: as, y :: bs, ⟨h1, h2⟩, 0, a, h => by simp at h; subst h; exact ⟨x, rfl, h1⟩
 | x :: as, y :: bs, ⟨h1, h2⟩, i + 1, a, h => by simp at h; simpa using All2.get' h2 h
theorem All2.append : ∀ {as : List α} {bs : List β} {as' : List α} {bs' : List β}, All2 R as bs → All2 R as' bs' → All2 R (as ++ as') (bs ++ bs')
 | [], [], _, _, _, h => h
 | _ :: _, _ :: _, _, _, ⟨h1, h2⟩, h => ⟨h1, All2.append h2 h⟩
theorem All2.map_left {T : γ → β → Prop} {f : α → γ} (h : ∀ a b, R a b → T (f a) b) : ∀ {as : List α} {bs : List β}, All2 R as bs → All2 T (as.map f) bs
 | [], [], _ => trivial
 | _ :: _, _ :: _, ⟨h1, h2⟩ => ⟨h _ _ h1, All2.map_left h h2⟩
theorem All2.drop : ∀ (n : Nat) {as : List α} {bs : List β}, All2 R as bs → All2 R (as.drop n) (bs.drop n)
 | 0, _, _, h => h
 | _ + 1, [], [], _ => trivial
 | n + 1, _ :: _, _ :: _, ⟨_, h2⟩ => All2.drop n h2
theorem All2.take : ∀ (n : Nat) {as : List α} {bs : List β}, All2 R as bs → All2 R (as.take n) (bs.take n)
 | 0, _, _, _ => trivial
 | _ + 1, [], [], _ => trivial
 | n + 1, _ :: _, _ :: _, ⟨h1, h2⟩ => ⟨h1, All2.take n h2⟩
theorem All2.of_get : ∀ {as : List α} {bs : List β}, as.length = bs.length → (∀ (i : Nat) a b, as[i]? = some a → bs[i]? = some b → R a b) → All2 R as bs
 | [], [], _, _ => trivial
 | a :: as, b :: bs, hl, h => ⟨h 0 a b rfl rfl, All2.of_get (by simpa using hl) fun i x y hx hy => h (i + 1) x y (by simpa using hx) (by simpa using hy)⟩
 | [], _ :: _, hl, _ => by simp at hl
 | _ :: _, [], hl, _ => by simp at hl
theorem All2.split : ∀ {as as' : List α} {bs : List β}, All2 R (as ++ as') bs → ∃ us us', bs = us ++ us' ∧ All2 R as us ∧ All2 R as' us'
 | [], _, bs, h => ⟨[], bs, rfl, trivial, h⟩
 | _ :: as, as', b :: bs, ⟨h1, h2⟩ => by
  obtain ⟨us, us', rfl, h3, h4⟩ := All2.split h2
  exact ⟨b :: us, us', rfl, ⟨h1, h3⟩, h4⟩
end
/-- A row of elements in a block outside 'X'. -/
def Row {α : Type} (X : Nat → Prop) (w : World) (R : α → List Value → Prop) (n b off : Nat) (xs : List α) : Prop :=
 ¬X b ∧ ∃ vals el fr, w.heap[b]? = some (.cells vals el fr) ∧ ∀ (i : Nat) x, xs[i]? = some x → ∃ us, R x us ∧ ∀ (j : Nat) u, us[j]? = some u → vals[off + i * n + j]? = some u
def Rep (X : Nat → Prop) (w : World) : (t : Ty) → t.El → List Value → Prop
 | .bool, b, vs => vs = [.bool b]
 | .int k, n, vs => vs = [.int k n]
 | .str, s, vs => vs = [.string ⟨s.toArray⟩]
 | .unit, _, vs => vs = []
 | .pair a b, x, vs => ∃ us us', vs = us ++ us' ∧ Rep X w a x.1 us ∧ Rep X w b x.2 us'
 | .list e, xs, vs => ∃ a cap, vs = [.slice a (List.length (α := e.El) xs) cap] ∧ List.length (α := e.El) xs ≤ cap ∧ ((xs : List e.El) = [] ∨ ∃ b off, a = some ⟨b, off, none⟩ ∧ Row X w (Rep X w e) e.size b off xs)
 | .ptr t, x, vs => ∃ b, vs = [.pointer (some ⟨b, 0, none⟩)] ∧ ¬X b ∧ ∃ vals el fr, w.heap[b]? = some (.cells vals el fr) ∧ ∃ us, Rep X w t x us ∧ ∀ (j : Nat) u, us[j]? = some u → vals[j]? = some u
 | .arr n e, xs, vs => List.length (α := e.El) xs = n ∧ ∃ uss : List (List Value), vs = uss.flatten ∧ All2 (Rep X w e) xs uss
theorem flatten_len {n : Nat} : ∀ {uss : List (List Value)}, (∀ us ∈ uss, us.length = n) → uss.flatten.length = uss.length * n
 | [], _ => by simp
 | us :: uss, h => by
  have h1 := flatten_len (fun v hv => h v (List.mem_cons_of_mem _ hv))
  have h2 := h us (List.mem_cons_self ..)
  simp only [List.flatten_cons, List.length_append, List.length_cons, h1, h2, Nat.succ_mul]; omega
theorem Rep.len {X : Nat → Prop} {w : World} : ∀ (t : Ty) {x : t.El} {vs : List Value}, Rep X w t x vs → vs.length = t.size
 | .bool, _, _, h => by subst h; rfl
 | .int _, _, _, h => by subst h; rfl
 | .str, _, _, h => by subst h; rfl
 | .unit, _, _, h => by subst h; rfl
 | .pair a b, _, _, ⟨us, us', h, h1, h2⟩ => by subst h; simp [Ty.size, Rep.len a h1, Rep.len b h2]
 | .list _, _, _, ⟨_, _, h, _⟩ => by subst h; rfl
 | .ptr _, _, _, ⟨_, h, _⟩ => by subst h; rfl
 | .arr n e, xs, vs, ⟨hn, uss, h, hu⟩ => by
  subst h
  rw [flatten_len (n := e.size), ← hu.length, hn]; rfl
  intro us hus
  obtain ⟨i, hi⟩ := List.mem_iff_getElem?.1 hus
  obtain ⟨x, _, hx⟩ := hu.get' hi
  exact Rep.len e hx
/-- What lies outside 'X' stays, and stays outside. -/
def Fr (X : Nat → Prop) (w : World) (X' : Nat → Prop) (w' : World) : Prop :=
 ∀ b o, w.heap[b]? = some o → ¬X b → w'.heap[b]? = some o ∧ ¬X' b
theorem Fr.refl (X : Nat → Prop) (w : World) : Fr X w X w := fun _ _ h hx => ⟨h, hx⟩
theorem Row.mono {α : Type} {X X' : Nat → Prop} {w w' : World} {R R' : α → List Value → Prop} (hf : Fr X w X' w') (hr : ∀ x vs, R x vs → R' x vs) {n b off : Nat} {xs : List α}
    (h : Row X w R n b off xs) : Row X' w' R' n b off xs := by
 obtain ⟨hx, vals, el, fr, hb, hall⟩ := h
 obtain ⟨hb', hx'⟩ := hf _ _ hb hx
 exact ⟨hx', vals, el, fr, hb', fun i x hi => let ⟨us, h1, h2⟩ := hall i x hi; ⟨us, hr _ _ h1, h2⟩⟩
theorem Rep.mono {X X' : Nat → Prop} {w w' : World} (hf : Fr X w X' w') : ∀ (t : Ty) {x : t.El} {vs : List Value}, Rep X w t x vs → Rep X' w' t x vs
 | .bool, _, _, h => h
 | .int _, _, _, h => h
 | .str, _, _, h => h
 | .unit, _, _, h => h
 | .pair a b, _, _, ⟨us, us', h, h1, h2⟩ => ⟨us, us', h, Rep.mono hf a h1, Rep.mono hf b h2⟩
 | .list e, _, _, ⟨a, cap, h, hc, h1⟩ => ⟨a, cap, h, hc, h1.imp id fun ⟨b, off, ha, hr⟩ => ⟨b, off, ha, hr.mono hf fun _ _ => Rep.mono hf e⟩⟩
 | .ptr t, _, _, ⟨b, h, hx, vals, el, fr, hb, us, hu, hc⟩ => by
  obtain ⟨hb', hx'⟩ := hf _ _ hb hx
  exact ⟨b, h, hx', vals, el, fr, hb', us, Rep.mono hf t hu, hc⟩
 | .arr n e, xs, vs, ⟨hn, uss, h, hu⟩ => ⟨hn, uss, h, hu.mono fun _ _ => Rep.mono hf e⟩
def boxAt (v : Value) (b : Nat) : Prop := v = .pointer (some ⟨b, 0, none⟩)
def RepC (β : Nat → Value) (X : Nat → Prop) (w : World) : C → Value → Prop
 | .bool b, v => v = .bool b
 | .int k n, v => v = .int k n
 | .str s, v => v = .string ⟨s.toArray⟩
 | .list e xs, v => Rep X w (.list e) xs [v]
 | .pp t x o, v => ∃ b, v = .pointer (some ⟨b, o, none⟩) ∧ Rep X w (.ptr t) x [.pointer (some ⟨b, 0, none⟩)]
 | .pe e xs i o, v => i < xs.length ∧ ∃ b off, v = .pointer (some ⟨b, off + i * e.size + o, none⟩) ∧ Row X w (Rep X w e) e.size b off xs
 | .ref k o, v => ∃ b, boxAt (β k) b ∧ v = .pointer (some ⟨b, o, none⟩)
 | .rel k e i o, v => ∃ b len cap, β k = .slice (some ⟨b, 0, none⟩) len cap ∧ v = .pointer (some ⟨b, i * e.size + o, none⟩)
 | .rs k, v => v = β k ∧ ∃ a l c, v = .slice a l c
 | .rm k, v => v = β k ∧ ∃ b, v = .map (some b)
 | .rax k o e i off, v => ∃ b, boxAt (β k) b ∧ v = .pointer (some ⟨b, o + i * e.size + off, none⟩)
 | .rv k e i, v => ∃ a len cap a' c', β k = .slice a len cap ∧ i ≤ len ∧ v = .slice a' (len - i) c' ∧ (i < len → ∃ b, a = some ⟨b, 0, none⟩ ∧ a' = some ⟨b, i * e.size, none⟩)
 | .ra k n, v => ∃ b, boxAt (β k) b ∧ v = .slice (some ⟨b, 0, none⟩) n n
 | .sb k o n _, v => ∃ b ad c, boxAt (β k) b ∧ v = .slice ad n c ∧ n ≤ c ∧ (0 < n → ad = some ⟨b, o, none⟩)
 | .selfp k, v => v = .pointer none ∨ ∃ b, boxAt (β k) b ∧ v = .pointer (some ⟨b, 0, none⟩)
 | .nilI, v => v = .nilIface
 | .op t x, v => (x = none ∧ v = .pointer none) ∨ ∃ y b, x = some y ∧ v = .pointer (some ⟨b, 0, none⟩) ∧ Rep X w (.ptr t) y [.pointer (some ⟨b, 0, none⟩)]
 | .fn f caps, v => (∀ k ∈ caps, ∃ b, boxAt (β k) b) ∧ v = .func (.func f) #[] (caps.map β).toArray
 | .cap0, v => ∃ a, v = .slice a 0 0
 | .nilS, v => v = .slice none 0 0
 | .nilP, v => v = .pointer none
 | .nilF, v => v = .nilFunc
 | .nilM, v => v = .map none
 | .top, v => v.oneCell' = true
mutual
def RepV (β : Nat → Value) (X : Nat → Prop) (w : World) : V → Value → Prop
 | .one c, v => RepC β X w c v
 | .agg cs, v => ∃ vs, v = .agg (List.toArray vs) ∧ All2 (RepC β X w) cs vs
 | .tup vs, v => ∃ us, v = .tuple (List.toArray us) ∧ RepVs β X w vs us
 | .undef, v => v = Go.undef
 | .top, _ => True
def RepVs (β : Nat → Value) (X : Nat → Prop) (w : World) : List V → List Value → Prop
 | [], [] => True
 | v :: vs, u :: us => RepV β X w v u ∧ RepVs β X w vs us
 | _, _ => False
end
theorem RepC.one {β : Nat → Value} {X : Nat → Prop} {w : World} : ∀ {c : C} {v : Value}, RepC β X w c v → v.oneCell' = true
 | .bool _, _, h => by subst h; rfl
 | .int _ _, _, h => by subst h; rfl
 | .str _, _, h => by subst h; rfl
 | .list _ _, _, ⟨_, _, h, _⟩ => by simp at h; subst h; rfl
 | .pp _ _ _, _, ⟨_, h, _⟩ => by subst h; rfl
 | .pe _ _ _ _, _, ⟨_, _, _, h, _⟩ => by subst h; rfl
 | .ref _ _, _, ⟨_, _, h⟩ => by subst h; rfl
 | .rel _ _ _ _, _, ⟨_, _, _, _, h⟩ => by subst h; rfl
 | .rs _, _, ⟨_, _, _, _, h⟩ => by subst h; rfl
 | .fn _ _, _, ⟨_, h⟩ => by subst h; rfl
 | .cap0, _, ⟨_, h⟩ => by subst h; rfl
 | .nilS, _, h => by subst h; rfl
 | .nilP, _, h => by subst h; rfl
 | .nilF, _, h => by subst h; rfl
 | .nilM, _, h => by subst h; rfl
 | .nilI, _, h => by subst h; rfl
 | .op _ _, _, h => by rcases h with ⟨_, h⟩ | ⟨_, _, _, h, _⟩ <;> subst h <;> rfl
 | .rax _ _ _ _ _, _, ⟨_, _, h⟩ => by subst h; rfl
 | .rv _ _ _, _, ⟨_, _, _, _, _, _, _, h, _⟩ => by subst h; rfl
 | .ra _ _, _, ⟨_, _, h⟩ => by subst h; rfl
 | .sb _ _ _ _, _, ⟨_, _, _, _, h, _⟩ => by subst h; rfl
 | .selfp _, _, h => by rcases h with h | ⟨_, _, h⟩ <;> subst h <;> rfl
 | .top, _, h => h
 | .rm _, _, ⟨_, _, h⟩ => by subst h; rfl
theorem renL_spec {β β' : Nat → Value} {ρ : Nat → Option Nat} (hρ : ∀ k j, ρ k = some j → β' j = β k) :
    ∀ {ks js : List Nat}, renL ρ ks = some js → js.map β' = ks.map β
 | [], js, h => by simp [renL] at h; subst h; rfl
 | k :: ks, js, h => by
  simp only [renL] at h
  split at h
  ·simp at h
  ·rename_i j hj
   split at h
   ·simp at h
   ·rename_i s hs
    simp at h; subst h
    simp [hρ _ _ hj, renL_spec hρ hs]
theorem RepC.ren {β β' : Nat → Value} {X X' : Nat → Prop} {w w' : World} {ρ : Nat → Option Nat} (hf : Fr X w X' w') (hρ : ∀ k j, ρ k = some j → β' j = β k) :
    ∀ {c : C} {v : Value}, RepC β X w c v → RepC β' X' w' (c.ren ρ) v
 | .bool _, _, h => h
 | .int _ _, _, h => h
 | .str _, _, h => h
 | .list e _, _, h => Rep.mono hf (.list e) h
 | .pp t _ _, _, ⟨b, h1, h2⟩ => ⟨b, h1, Rep.mono hf (.ptr t) h2⟩
 | .pe e _ _ _, _, ⟨hi, b, off, h1, h2⟩ => ⟨hi, b, off, h1, h2.mono hf fun _ _ => Rep.mono hf e⟩
 | .ref k o, v, h => by
  have h0 := RepC.one h
  obtain ⟨b, h1, h2⟩ := h
  simp only [C.ren]
  cases hk : ρ k with
  | none => exact h0
  | some j => exact ⟨b, by rw [hρ _ _ hk]; exact h1, h2⟩
 | .rel k e i o, v, h => by
  have h0 := RepC.one h
  obtain ⟨b, len, cap, h1, h2⟩ := h
  simp only [C.ren]
  cases hk : ρ k with
  | none => exact h0
  | some j => exact ⟨b, len, cap, by rw [hρ _ _ hk]; exact h1, h2⟩
 | .rs k, v, h => by
  have h0 := RepC.one h
  simp only [C.ren]
  cases hk : ρ k with
  | none => exact h0
  | some j => exact ⟨by rw [hρ _ _ hk]; exact h.1, h.2⟩
 | .fn f caps, v, h => by
  have h0 := RepC.one h
  obtain ⟨h1, h2⟩ := h
  simp only [C.ren]
  cases hk : renL ρ caps with
  | none => exact h0
  | some js =>
   have hm := renL_spec hρ hk
   refine ⟨?_, by rw [hm]; exact h2⟩
   intro j hj
   have : β' j ∈ caps.map β := by rw [← hm]; exact List.mem_map_of_mem hj
   obtain ⟨k, hk, he⟩ := List.mem_map.1 this
   rw [← he]; exact h1 k hk
 | .rv k e i, v, h => by
  have h0 := RepC.one h
  obtain ⟨a, len, cap, a', c', h1, h2⟩ := h
  simp only [C.ren]
  cases hk : ρ k with
  | none => exact h0
  | some j => exact ⟨a, len, cap, a', c', by rw [hρ _ _ hk]; exact h1, h2⟩
 | .rax k o e i off, v, h => by
  have h0 := RepC.one h
  obtain ⟨b, h1, h2⟩ := h
  simp only [C.ren]
  cases hk : ρ k with
  | none => exact h0
  | some j => exact ⟨b, by rw [hρ _ _ hk]; exact h1, h2⟩
 | .ra k n, v, h => by
  have h0 := RepC.one h
  obtain ⟨b, h1, h2⟩ := h
  simp only [C.ren]
  cases hk : ρ k with
  | none => exact h0
  | some j => exact ⟨b, by rw [hρ _ _ hk]; exact h1, h2⟩
 | .sb k o n e, v, h => by
  have h0 := RepC.one h
  obtain ⟨b, ad, c, h1, h2⟩ := h
  simp only [C.ren]
  cases hk : ρ k with
  | none => exact h0
  | some j => exact ⟨b, ad, c, by rw [hρ _ _ hk]; exact h1, h2⟩
 | .selfp k, v, h => by
  have h0 := RepC.one h
  simp only [C.ren]
  cases hk : ρ k with
  | none => exact h0
  | some j =>
   rcases h with h | ⟨b, h1, h2⟩
   ·exact .inl h
   ·exact .inr ⟨b, by rw [hρ _ _ hk]; exact h1, h2⟩
 | .op t x, _, h => h.imp id fun ⟨y, b, h1, h2, h3⟩ => ⟨y, b, h1, h2, Rep.mono hf (.ptr t) h3⟩
 | .nilI, _, h => h
 | .cap0, _, h => h
 | .nilS, _, h => h
 | .nilP, _, h => h
 | .nilF, _, h => h
 | .nilM, _, h => h
 | .top, _, h => h
 | .rm k, v, h => by
  have h0 := RepC.one h
  simp only [C.ren]
  cases hk : ρ k with
  | none => exact h0
  | some j => exact ⟨by rw [hρ _ _ hk]; exact h.1, h.2⟩
theorem RepC.mono {β : Nat → Value} {X X' : Nat → Prop} {w w' : World} (hf : Fr X w X' w') : ∀ {c : C} {v : Value}, RepC β X w c v → RepC β X' w' c v
 | .bool _, _, h => h
 | .int _ _, _, h => h
 | .str _, _, h => h
 | .list e _, _, h => Rep.mono hf (.list e) h
 | .pp t _ _, _, ⟨b, h1, h2⟩ => ⟨b, h1, Rep.mono hf (.ptr t) h2⟩
 | .pe e _ _ _, _, ⟨hi, b, off, h1, h2⟩ => ⟨hi, b, off, h1, h2.mono hf fun _ _ => Rep.mono hf e⟩
 | .ref _ _, _, h => h
 | .rel _ _ _ _, _, h => h
 | .rs _, _, h => h
 | .fn _ _, _, h => h
 | .cap0, _, h => h
 | .nilS, _, h => h
 | .nilP, _, h => h
 | .nilF, _, h => h
 | .nilM, _, h => h
 | .nilI, _, h => h
 | .op t x, _, h => h.imp id fun ⟨y, b, h1, h2, h3⟩ => ⟨y, b, h1, h2, Rep.mono hf (.ptr t) h3⟩
 | .rax _ _ _ _ _, _, h => h
 | .rv _ _ _, _, h => h
 | .ra _ _, _, h => h
 | .sb _ _ _ _, _, h => h
 | .selfp _, _, h => h
 | .top, _, h => h
 | .rm _, _, h => h
mutual
/-- A law of the cells is a law of the values. -/
theorem RepV.map {β β' : Nat → Value} {X X' : Nat → Prop} {w w' : World} {g : C → C} (hg : ∀ c v, RepC β X w c v → RepC β' X' w' (g c) v) :
    ∀ (x : V) {v : Value}, RepV β X w x v → RepV β' X' w' (x.map g) v
 | .one c, _, h => hg c _ h
 | .agg _, _, ⟨vs, h, h1⟩ => ⟨vs, h, h1.map_left hg⟩
 | .tup xs, _, ⟨us, h, h1⟩ => ⟨us, h, RepVs.map hg xs h1⟩
 | .undef, _, h => h
 | .top, _, _ => trivial
theorem RepVs.map {β β' : Nat → Value} {X X' : Nat → Prop} {w w' : World} {g : C → C} (hg : ∀ c v, RepC β X w c v → RepC β' X' w' (g c) v) :
    ∀ (xs : List V) {us : List Value}, RepVs β X w xs us → RepVs β' X' w' (V.maps g xs) us
 | [], [], _ => trivial
 | x :: xs, _ :: _, ⟨h1, h2⟩ => ⟨RepV.map hg x h1, RepVs.map hg xs h2⟩
 | [], _ :: _, h => h.elim
 | _ :: _, [], h => h.elim
end
mutual
theorem V.map_id : ∀ (x : V), x.map (fun c => c) = x
 | .one _ => rfl
 | .agg cs => by simp [V.map]
 | .tup vs => by simp [V.map, V.maps_id vs]
 | .undef => rfl
 | .top => rfl
theorem V.maps_id : ∀ (xs : List V), V.maps (fun c => c) xs = xs
 | [] => rfl
 | x :: xs => by simp [V.maps, V.map_id x, V.maps_id xs]
end
theorem RepV.mono {β : Nat → Value} {X X' : Nat → Prop} {w w' : World} (hf : Fr X w X' w') {x : V} {v : Value} (h : RepV β X w x v) : RepV β X' w' x v := by
 have := RepV.map (g := fun c => c) (β' := β) (fun c v => RepC.mono hf) x h
 rwa [V.map_id] at this
theorem RepVs.mono {β : Nat → Value} {X X' : Nat → Prop} {w w' : World} (hf : Fr X w X' w') {x : List V} {v : List Value} (h : RepVs β X w x v) : RepVs β X' w' x v := by
 have := RepVs.map (g := fun c => c) (β' := β) (fun c v => RepC.mono hf) x h
 rwa [V.maps_id] at this
/-- The block that a slot's value holds alone. -/
def blk : Value → Option Nat
 | .pointer (some a) => some a.block
 | .slice (some a) _ (_ + 1) => some a.block
 | .map (some b) => some b
 | _ => none
def thawed (vals : Array Value) (fr : Nat × Nat) : Prop := ∀ j, j < vals.size → ¬(fr.1 ≤ j ∧ j < fr.2)
/-- A row that is no text's bytes bears no mark behind its cells either. -/
def thawedL (e : Ty) (vals : Array Value) (fr : Nat × Nat) : Prop := thawed vals fr ∧ (e = .int .u8 ∨ fr.2 ≤ fr.1)
def mval (ag : Bool) (vs : List Value) : Value := match ag with | true => .agg vs.toArray | false => vs.headD Go.undef
/-- An entry of a map. -/
def RepE (X : Nat → Prop) (w : World) (k v : Ty) (ag : Bool) (p : k.El × v.El) (e : MapEntry) : Prop := Rep X w k p.1 [e.key] ∧ ∃ vs, Rep X w v p.2 vs ∧ e.val = mval ag vs
theorem RepE.mono {X X' : Nat → Prop} {w w' : World} (hf : Fr X w X' w') {k v : Ty} {ag : Bool} {p : k.El × v.El} {e : MapEntry} (h : RepE X w k v ag p e) : RepE X' w' k v ag p e := by
 obtain ⟨h1, vs, h2, h3⟩ := h
 exact ⟨Rep.mono hf k h1, vs, Rep.mono hf v h2, h3⟩
def born (arr : List MapEntry) : Prop := ∀ (i : Nat) e, arr[i]? = some e → e.born = i
def RepS (β : Nat → Value) (X : Nat → Prop) (w : World) : Slot → Value → Prop
 | .box cs, v => ∃ b vs el fr, boxAt v b ∧ w.heap[b]? = some (.cells (List.toArray vs) el fr) ∧ thawed vs.toArray fr ∧ All2 (RepC β X w) cs vs
 | .tb t x, v => ∃ b vs el fr, boxAt v b ∧ w.heap[b]? = some (.cells (List.toArray vs) el fr) ∧ thawed vs.toArray fr ∧ Rep X w t x vs
 | .bd t c, v => ∃ b v0 v1 fr, boxAt v b ∧ w.heap[b]? = some (.cells (List.toArray [v0, v1]) t fr) ∧ thawed (List.toArray [v0, v1]) fr ∧ (v0 = .pointer none ∨ v0 = .pointer (some ⟨b, 0, none⟩)) ∧ RepC β X w c v1
 | .mp k v ag es, u => ∃ b arr, u = .map (some b) ∧ w.heap[b]? = some (.map (List.toArray arr) arr.length) ∧ All2 (RepE X w k v ag) es arr ∧ born arr
 | .brow T xs, v => (xs = [] ∧ v = .slice none 0 0) ∨ ∃ b cap vals fr, v = .slice (some ⟨b, 0, none⟩) xs.length (cap + 1) ∧ w.heap[b]? = some (.cells vals T fr) ∧ thawed vals fr ∧
     xs.length ≤ cap + 1 ∧ cap + 1 ≤ vals.size ∧ ∀ (i : Nat) x, xs[i]? = some x → vals[i]? = some (.int .u8 x)
 | .lst _ e xs, v => (xs = [] ∧ ∃ a, v = .slice a 0 0) ∨ ∃ b cap vals el fr, v = .slice (some ⟨b, 0, none⟩) xs.length (cap + 1) ∧ w.heap[b]? = some (.cells vals el fr) ∧ thawedL e vals fr ∧
     xs.length ≤ cap + 1 ∧ (cap + 1) * e.size ≤ vals.size ∧ ∀ (i : Nat) x, xs[i]? = some x → ∃ us, Rep X w e x us ∧ ∀ (j : Nat) u, us[j]? = some u → vals[i * e.size + j]? = some u
/-- A slot whose block stays. -/
theorem RepS.map {β β' : Nat → Value} {X X' : Nat → Prop} {w w' : World} {g : C → C} (hf : Fr X w X' w') (hg : ∀ c v, RepC β X w c v → RepC β' X' w' (g c) v) :
    ∀ {s : Slot} {v : Value}, (∀ b o, blk v = some b → w.heap[b]? = some o → w'.heap[b]? = some o) → RepS β X w s v → RepS β' X' w' (s.map g) v
 | .box _, _, hb, ⟨b, vs, el, fr, h1, h2, h3, h4⟩ => ⟨b, vs, el, fr, h1, hb b _ (by rw [h1]; rfl) h2, h3, h4.map_left hg⟩
 | .tb t x, _, hb, ⟨b, vs, el, fr, h1, h2, h3, h4⟩ => ⟨b, vs, el, fr, h1, hb b _ (by rw [h1]; rfl) h2, h3, Rep.mono hf t h4⟩
 | .bd t c, _, hb, ⟨b, v0, v1, fr, h1, h2, h3, h4, h5⟩ => ⟨b, v0, v1, fr, h1, hb b _ (by rw [h1]; rfl) h2, h3, h4, hg _ _ h5⟩
 | .mp k v ag es, _, hb, ⟨b, arr, h1, h2, h3, h4⟩ => ⟨b, arr, h1, hb b _ (by rw [h1]; rfl) h2, h3.mono fun _ _ => RepE.mono hf, h4⟩
 | .brow T xs, v, hb, h => by
  rcases h with h | ⟨b, cap, vals, fr, h1, h2, h3, h4, h5, h6⟩
  ·exact .inl h
  ·exact .inr ⟨b, cap, vals, fr, h1, hb b _ (by rw [h1]; rfl) h2, h3, h4, h5, h6⟩
 | .lst _ e xs, v, hb, h => by
  rcases h with h | ⟨b, cap, vals, el, fr, h1, h2, h3, h4, h5, h6⟩
  ·exact .inl h
  ·exact .inr ⟨b, cap, vals, el, fr, h1, hb b _ (by rw [h1]; rfl) h2, h3, h4, h5, fun i x hi => let ⟨us, hu, hc⟩ := h6 i x hi; ⟨us, Rep.mono hf e hu, hc⟩⟩
theorem Slot.map_id : ∀ (s : Slot), s.map (fun c => c) = s
 | .box cs => by simp [Slot.map]
 | .bd _ _ => rfl
 | .mp _ _ _ _ => rfl
 | .lst _ _ _ => rfl
 | .brow _ _ => rfl
 | .tb _ _ => rfl
theorem Slot.fixd_map (g : C → C) : ∀ (s : Slot), (s.map g).fixd = s.fixd
 | .box _ => rfl
 | .bd _ _ => rfl
 | .mp _ _ _ _ => rfl
 | .lst _ _ _ => rfl
 | .brow _ _ => rfl
 | .tb _ _ => rfl
theorem RepS.mono {β : Nat → Value} {X X' : Nat → Prop} {w w' : World} (hf : Fr X w X' w') {s : Slot} {v : Value} (hb : ∀ b o, blk v = some b → w.heap[b]? = some o → w'.heap[b]? = some o)
    (h : RepS β X w s v) : RepS β X' w' s v := by
 have := RepS.map (g := fun c => c) (β' := β) hf (fun c v => RepC.mono hf) hb h
 rwa [Slot.map_id] at this
end Go.AM
/- The relation of states, and its steps. -/
namespace Go.AM
open Go
section
variable {α : Type}
theorem beq_iff (a b : Nat) : Nat.beq a b = true ↔ a = b := ⟨Nat.eq_of_beq_eq_true, fun h => by subst h; exact Nat.beq_refl a⟩
theorem look_cons (k : Nat) (p : Nat × α) (r : List (Nat × α)) : look k (p :: r) = if k = p.1 then some p.2 else look k r := by
 simp only [look]
 by_cases h : k = p.1
 ·simp [h, (beq_iff p.1 p.1).2 rfl]
 ·have : Nat.beq k p.1 = false := by
   cases hb : Nat.beq k p.1
   ·rfl
   ·exact absurd ((beq_iff _ _).1 hb) h
  simp [h, this]
theorem look_del (k j : Nat) : ∀ (l : List (Nat × α)), look j (del k l) = if j = k then none else look j l
 | [] => by simp [del, look]
 | p :: r => by
  have ih := look_del k j r
  simp only [del]
  cases hb : Nat.beq k p.1
  ·simp only [cond_false, look_cons, ih]
   by_cases h1 : j = p.1
   ·have : j ≠ k := fun e => by
     have := (beq_iff k p.1).2 (e ▸ h1)
     rw [hb] at this; cases this
    simp [h1]; intro e; exact absurd (h1.trans e) this
   ·simp [h1]
  ·have hk := (beq_iff _ _).1 hb
   simp only [cond_true, ih, look_cons]
   by_cases h1 : j = k
   ·simp [h1]
   ·have : ¬ j = p.1 := fun e => h1 (e.trans hk.symm)
    simp [h1, this]
theorem look_map {β : Type} (f : α → β) (k : Nat) : ∀ (l : List (Nat × α)), look k (l.map fun p => (p.1, f p.2)) = (look k l).map f
 | [] => rfl
 | p :: r => by
  simp only [List.map_cons, look_cons, look_map f k r]
  split <;> rfl
end
theorem St.slot_set (st : St) (k j : Nat) (s : Slot) : (st.set k s).slot j = if j = k then some s else st.slot j := by
 simp only [St.set, St.slot, look_cons, look_del]
 by_cases h : j = k <;> simp [h]
theorem St.slot_del (st : St) (k j : Nat) : (st.del k).slot j = if j = k then none else st.slot j := by
 simp only [St.del, St.slot, look_del]
theorem St.slot_map (st : St) (g : C → C) (j : Nat) : (st.map g).slot j = (st.slot j).map (Slot.map g) := by
 simp only [St.map, St.slot]; exact look_map (Slot.map g) j st.slots
theorem St.slot_new (st : St) (k j : Nat) (s : Slot) : (st.new k s).slot j = if j = k then some s else (st.slot j).map (Slot.map (C.ren (notKey k))) := by
 simp only [St.new, St.slot_set, St.kill, St.slot_map]
theorem St.look_map (st : St) (g : C → C) (t : Nat) : look t (st.map g).regs = (look t st.regs).map (V.map g) := by
 simp only [St.map]; exact AM.look_map (V.map g) t st.regs
structure Fm where
 w₀ : World
 own : Nat → Prop
 X₀ : Nat → Prop
 n : Nat
 fix : Nat → Option Value
def AnnFix (F : Fm) : Ann → Prop
 | .no => True
 | .key k => F.fix k = none
 | .nilAs k _ => F.fix k = none
 | .keyT k _ => F.fix k = none
 | .keyB k => F.fix k = none
 | .cutA => True
 | .viewA => True
 | .call _ news _ _ _ _ => ∀ k ∈ news, F.fix k = none
def XX (F : Fm) (st : St) (β : Nat → Value) (b : Nat) : Prop := F.X₀ b ∨ ∃ k s, st.slot k = some s ∧ blk (β k) = some b
/-- What lies outside the heap is as it was. -/
def Same (w w' : World) : Prop := w'.os = w.os ∧ w'.tape = w.tape ∧ w'.output = w.output
theorem Same.refl (w : World) : Same w w := ⟨rfl, rfl, rfl⟩
theorem Same.trans {a b c : World} (h : Same a b) (k : Same b c) : Same a c := ⟨k.1.trans h.1, k.2.1.trans h.2.1, k.2.2.trans h.2.2⟩
structure Rel (cx : Cx) (F : Fm) (st : St) (β : Nat → Value) (a : Act) (w : World) : Prop where
 defers : a.defers = []
 size : a.tmps.size = F.n
 regs : ∀ t v, look t st.regs = some v → RepV β (XX F st β) w v (a.tmps.getD t Go.undef)
 slots : ∀ k s, st.slot k = some s → RepS β (XX F st β) w s (β k)
 inj : ∀ j k s s' b, st.slot j = some s → st.slot k = some s' → blk (β j) = some b → blk (β k) = some b → j = k
 glob : ∀ g t x, cx.G g = some ⟨t, x⟩ → Rep (XX F st β) w (.ptr t) x [.pointer (some ⟨g, 0, none⟩)]
 frame : ∀ b o, F.w₀.heap[b]? = some o → ¬F.own b → w.heap[b]? = some o
 owned : ∀ k s b, st.slot k = some s → blk (β k) = some b → (F.own b ∨ F.w₀.heap.size ≤ b) ∧ ¬F.X₀ b
 sizes : F.w₀.heap.size ≤ w.heap.size
 outer : ∀ b, F.X₀ b → b < F.w₀.heap.size
 fix : ∀ k v, F.fix k = some v → β k = v ∧ ∀ s, st.slot k = some s → s.fixd = true
 same : Same F.w₀ w
section
variable {cx : Cx} {F : Fm} {st : St} {β : Nat → Value} {a : Act} {w : World}
theorem Rel.get (h : Rel cx F st β a w) (t : Nat) : RepV β (XX F st β) w (st.get t) (a.tmps.getD t Go.undef) := by
 unfold St.get
 cases hl : look t st.regs with
 | none => exact trivial
 | some v => exact h.regs t v hl
theorem ofConst_rep (β : Nat → Value) (X : Nat → Prop) (w : World) (v : Value) : RepV β X w (ofConst v) v := by
 unfold ofConst
 split <;> simp only [RepV, RepC]
theorem ofConsts_rep (β : Nat → Value) (X : Nat → Prop) (w : World) : ∀ (vs : List Value) {cs : List C}, ofConsts vs = some cs → All2 (RepC β X w) cs vs
 | [], cs, h => by simp [ofConsts] at h; subst h; exact trivial
 | v :: r, cs, h => by
  simp only [ofConsts] at h
  split at h
  ·rename_i c cs' hc hr
   simp at h; subst h
   refine ⟨?_, ofConsts_rep β X w r hr⟩
   have := ofConst_rep β X w v
   rw [hc] at this; exact this
  ·simp at h
theorem ofConst'_rep (β : Nat → Value) (X : Nat → Prop) (w : World) (v : Value) : RepV β X w (ofConst' v) v := by
 unfold ofConst'
 split
 ·rename_i cs
  split
  ·rename_i l hl
   exact ⟨cs.toList, by simp, ofConsts_rep β X w _ hl⟩
  ·exact trivial
 ·exact ofConst_rep β X w v
theorem Rel.eval (h : Rel cx F st β a w) (x : Operand) : RepV β (XX F st β) w (st.eval cx x) (a.eval x) := by
 cases x with
 | tmp t => exact h.get t
 | const v => exact ofConst'_rep _ _ _ v
 | global g =>
  simp only [St.eval, Act.eval]
  cases hg : cx.G g with
  | none => exact trivial
  | some p => obtain ⟨t, x⟩ := p; exact ⟨g, rfl, h.glob g t x hg⟩
 | func f => exact ⟨fun k hk => by simp at hk, rfl⟩
theorem Rel.put (h : Rel cx F st β a w) {d : Option Nat} {v : V} {u : Value} (hd : ∀ t, d = some t → t < F.n) (hv : RepV β (XX F st β) w v u) :
    Rel cx F (st.put d v) β (a.put d u) w := by
 cases d with
 | none => exact h
 | some t =>
  have ht := hd t rfl
  refine ⟨h.defers, by simp [Act.put, h.size], ?_, h.slots, h.inj, h.glob, h.frame, h.owned, h.sizes, h.outer, h.fix, h.same⟩
  intro j x hj
  simp only [St.put, look_cons] at hj
  simp only [Act.put]
  by_cases e : j = t
  ·subst e
   simp at hj; subst hj
   simp [Array.getD, h.size, ht]
   exact hv
  ·simp [e] at hj
   have := h.regs j x hj
   have hne : ¬ t = j := fun e' => e e'.symm
   have he : (a.tmps.setIfInBounds t u).getD j Go.undef = a.tmps.getD j Go.undef := by
    simp [Array.getElem?_setIfInBounds, hne]
   rw [he]; exact this
/-- What the state says of the live slots' blocks: they lie in the world. -/
theorem RepS.lt {X : Nat → Prop} {s : Slot} {v : Value} {b : Nat} (h : RepS β X w s v) (hb : blk v = some b) : ∃ o, w.heap[b]? = some o := by
 cases s with
 | box cs =>
  obtain ⟨b', vs, el, fr, h1, h2, _⟩ := h
  rw [h1] at hb; simp [blk] at hb; subst hb
  exact ⟨_, h2⟩
 | tb t x =>
  obtain ⟨b', vs, el, fr, h1, h2, _⟩ := h
  rw [h1] at hb; simp [blk] at hb; subst hb
  exact ⟨_, h2⟩
 | bd t c =>
  obtain ⟨b', v0, v1, fr, h1, h2, _⟩ := h
  rw [h1] at hb; simp [blk] at hb; subst hb
  exact ⟨_, h2⟩
 | mp k v ag es =>
  obtain ⟨b', arr, h1, h2, _⟩ := h
  rw [h1] at hb; simp [blk] at hb; subst hb
  exact ⟨_, h2⟩
 | brow T xs =>
  rcases h with ⟨_, rfl⟩ | ⟨b', cap, vals, fr, rfl, h2, _⟩
  ·simp [blk] at hb
  ·simp [blk] at hb; subst hb
   exact ⟨_, h2⟩
 | lst fx e xs =>
  rcases h with ⟨_, a, h⟩ | ⟨b', cap, vals, el, fr, h1, h2, _⟩
  ·rw [h] at hb; cases a <;> simp [blk] at hb
  ·rw [h1] at hb; simp [blk] at hb; subst hb
   exact ⟨_, h2⟩
theorem lt_of_heap {w : World} {b : Nat} {o : Obj} (h : w.heap[b]? = some o) : b < w.heap.size := (Array.getElem?_eq_some_iff.1 h).1
def upd (β : Nat → Value) (k : Nat) (v : Value) : Nat → Value := fun j => if j = k then v else β j
theorem notKey_spec {β : Nat → Value} {k : Nat} {v : Value} : ∀ i j, notKey k i = some j → upd β k v j = β i := by
 intro i j h
 simp only [notKey] at h
 cases hb : Nat.beq i k
 ·rw [hb] at h; simp at h; subst h
  have : i ≠ k := fun e => by rw [(beq_iff i k).2 e] at hb; cases hb
  simp [upd, this]
 ·rw [hb] at h; simp at h
/-- A new slot (or an old name given to a new block). -/
theorem Rel.new (h : Rel cx F st β a w) (k : Nat) (s : Slot) (bv : Value) (w' : World) (hfix : F.fix k = none) (hsame : Same w w')
    (keep : ∀ b o, w.heap[b]? = some o → (∀ s0, st.slot k = some s0 → blk (β k) ≠ some b) → w'.heap[b]? = some o)
    (hblk : ∀ b, blk bv = some b → w.heap.size ≤ b ∨ ∃ s0, st.slot k = some s0 ∧ blk (β k) = some b)
    (hsz : w.heap.size ≤ w'.heap.size)
    (hs : Fr (XX F st β) w (XX F (st.new k s) (upd β k bv)) w' → RepS (upd β k bv) (XX F (st.new k s) (upd β k bv)) w' s bv) :
    Rel cx F (st.new k s) (upd β k bv) a w' ∧ Fr (XX F st β) w (XX F (st.new k s) (upd β k bv)) w' := by
 have hslot : ∀ j s', (st.new k s).slot j = some s' → (j = k ∧ s' = s) ∨ (j ≠ k ∧ ∃ s0, st.slot j = some s0 ∧ s' = s0.map (C.ren (notKey k))) := by
  intro j s' hj
  rw [St.slot_new] at hj
  by_cases e : j = k
  ·simp [e] at hj; exact .inl ⟨e, hj.symm⟩
  ·simp [e] at hj
   obtain ⟨s0, h1, h2⟩ := hj
   exact .inr ⟨e, s0, h1, h2.symm⟩
 have hne : ∀ j, j ≠ k → upd β k bv j = β j := fun j e => by simp [upd, e]
 have hk : upd β k bv k = bv := by simp [upd]
 have hfr : Fr (XX F st β) w (XX F (st.new k s) (upd β k bv)) w' := by
  intro b o hb hx
  refine ⟨keep b o hb fun s0 h0 e => hx (.inr ⟨k, s0, h0, e⟩), ?_⟩
  rintro (h0 | ⟨j, s', hj, hbj⟩)
  ·exact hx (.inl h0)
  ·rcases hslot j s' hj with ⟨rfl, _⟩ | ⟨hjk, s0, h1, _⟩
   ·rw [hk] at hbj
    rcases hblk b hbj with h2 | ⟨s0, h2, h3⟩
    ·have := lt_of_heap hb; omega
    ·exact hx (.inr ⟨_, s0, h2, h3⟩)
   ·rw [hne j hjk] at hbj
    exact hx (.inr ⟨j, s0, h1, hbj⟩)
 have hC : ∀ c v, RepC β (XX F st β) w c v → RepC (upd β k bv) (XX F (st.new k s) (upd β k bv)) w' (c.ren (notKey k)) v :=
  fun c v => RepC.ren hfr notKey_spec
 refine ⟨⟨h.defers, h.size, ?_, ?_, ?_, ?_, ?_, ?_, Nat.le_trans h.sizes hsz, h.outer, ?_, h.same.trans hsame⟩, hfr⟩
 ·intro t v ht
  have : look t (st.new k s).regs = (look t st.regs).map (V.map (C.ren (notKey k))) := by
   show look t (st.kill k).regs = _
   exact St.look_map st _ t
  rw [this] at ht
  cases h0 : look t st.regs with
  | none => rw [h0] at ht; simp at ht
  | some v0 =>
   rw [h0] at ht; simp at ht; subst ht
   exact RepV.map hC v0 (h.regs t v0 h0)
 ·intro j s' hj
  rcases hslot j s' hj with ⟨rfl, rfl⟩ | ⟨hjk, s0, h1, rfl⟩
  ·rw [hk]; exact hs hfr
  ·rw [hne j hjk]
   refine RepS.map hfr hC ?_ (h.slots j s0 h1)
   intro b o hb ho
   exact keep b o ho fun s1 h2 e => hjk (h.inj j k s0 s1 b h1 h2 hb e)
 ·intro i j s1 s2 b h1 h2 hb1 hb2
  rcases hslot i s1 h1 with ⟨rfl, rfl⟩ | ⟨hik, t1, g1, rfl⟩ <;> rcases hslot j s2 h2 with ⟨rfl, _⟩ | ⟨hjk, t2, g2, rfl⟩
  ·rfl
  ·rw [hk] at hb1; rw [hne j hjk] at hb2
   rcases hblk b hb1 with h3 | ⟨s0, h3, h4⟩
   ·obtain ⟨o, ho⟩ := (h.slots j t2 g2).lt hb2
    have := lt_of_heap ho; omega
   ·exact absurd (h.inj j i t2 s0 b g2 h3 hb2 h4) hjk
  ·rw [hk] at hb2; rw [hne i hik] at hb1
   rcases hblk b hb2 with h3 | ⟨s0, h3, h4⟩
   ·obtain ⟨o, ho⟩ := (h.slots i t1 g1).lt hb1
    have := lt_of_heap ho; omega
   ·exact absurd (h.inj i j t1 s0 b g1 h3 hb1 h4) hik
  ·rw [hne i hik] at hb1; rw [hne j hjk] at hb2
   exact h.inj i j t1 t2 b g1 g2 hb1 hb2
 ·intro g t x hg
  exact Rep.mono hfr (.ptr t) (h.glob g t x hg)
 ·intro b o hb ho
  refine keep b o (h.frame b o hb ho) fun s0 h0 e => ?_
  rcases (h.owned k s0 b h0 e).1 with h1 | h1
  ·exact ho h1
  ·have := lt_of_heap hb; omega
 ·intro j s' b hj hb
  rcases hslot j s' hj with ⟨rfl, rfl⟩ | ⟨hjk, s0, h1, rfl⟩
  ·rw [hk] at hb
   rcases hblk b hb with h3 | ⟨s0, h3, h4⟩
   ·refine ⟨.inr (Nat.le_trans h.sizes h3), fun hx => ?_⟩
    have := h.outer b hx; have := h.sizes; omega
   ·exact h.owned _ s0 b h3 h4
  ·rw [hne j hjk] at hb
   exact h.owned j s0 b h1 hb
 ·intro j v hj
  have hjk : j ≠ k := fun e => by subst e; rw [hfix] at hj; cases hj
  refine ⟨by rw [hne j hjk]; exact (h.fix j v hj).1, fun s' he => ?_⟩
  rcases hslot j _ he with ⟨rfl, _⟩ | ⟨_, s0, h1, rfl⟩
  ·exact (hjk rfl).elim
  ·rw [Slot.fixd_map]; exact (h.fix j v hj).2 s0 h1
theorem XX_set (F : Fm) (st : St) (β : Nat → Value) (k : Nat) (s s0 : Slot) (hk : st.slot k = some s0) : XX F (st.set k s) β = XX F st β := by
 funext b
 apply propext
 constructor
 ·rintro (h | ⟨j, s', hj, hb⟩)
  ·exact .inl h
  ·rw [St.slot_set] at hj
   by_cases e : j = k
   ·subst e; exact .inr ⟨j, s0, hk, hb⟩
   ·simp [e] at hj; exact .inr ⟨j, s', hj, hb⟩
 ·rintro (h | ⟨j, s', hj, hb⟩)
  ·exact .inl h
  ·by_cases e : j = k
   ·subst e; exact .inr ⟨j, s, by rw [St.slot_set]; simp, hb⟩
   ·exact .inr ⟨j, s', by rw [St.slot_set]; simp [e, hj], hb⟩
/-- A slot's content is turned, its block stays. -/
theorem Rel.set (h : Rel cx F st β a w) (k : Nat) (s s0 : Slot) (w' : World) (hk : st.slot k = some s0)
    (keep : ∀ b o, w.heap[b]? = some o → blk (β k) ≠ some b → w'.heap[b]? = some o)
    (hsz : w.heap.size ≤ w'.heap.size) (hsame : Same w w') (hkind : s0.fixd = true → s.fixd = true)
    (hs : Fr (XX F st β) w (XX F st β) w' → RepS β (XX F st β) w' s (β k)) : Rel cx F (st.set k s) β a w' := by
 have hfr : Fr (XX F st β) w (XX F st β) w' := fun b o hb hx => ⟨keep b o hb fun e => hx (.inr ⟨k, s0, hk, e⟩), hx⟩
 have hX := XX_set F st β k s s0 hk
 refine ⟨h.defers, h.size, ?_, ?_, ?_, ?_, ?_, ?_, Nat.le_trans h.sizes hsz, h.outer, ?_, h.same.trans hsame⟩
 ·intro t v ht; rw [hX]; exact RepV.mono hfr (h.regs t v ht)
 ·intro j s' hj
  rw [hX]
  rw [St.slot_set] at hj
  by_cases e : j = k
  ·subst e; simp at hj; subst hj; exact hs hfr
  ·simp [e] at hj
   exact RepS.mono hfr (fun b o hb ho => keep b o ho fun e' => e (h.inj j k s' s0 b hj hk hb e')) (h.slots j s' hj)
 ·intro i j s1 s2 b h1 h2 hb1 hb2
  have lift : ∀ i s1, (st.set k s).slot i = some s1 → ∃ s0, st.slot i = some s0 := by
   intro i s1 h1
   rw [St.slot_set] at h1
   by_cases e : i = k
   ·exact ⟨s0, e ▸ hk⟩
   ·simp [e] at h1; exact ⟨s1, h1⟩
  obtain ⟨t1, g1⟩ := lift i s1 h1
  obtain ⟨t2, g2⟩ := lift j s2 h2
  exact h.inj i j t1 t2 b g1 g2 hb1 hb2
 ·intro g t x hg; rw [hX]; exact Rep.mono hfr (.ptr t) (h.glob g t x hg)
 ·intro b o hb ho
  refine keep b o (h.frame b o hb ho) fun e => ?_
  rcases (h.owned k s0 b hk e).1 with h1 | h1
  ·exact ho h1
  ·have := lt_of_heap hb; omega
 ·intro j s' b hj hb
  rw [St.slot_set] at hj
  by_cases e : j = k
  ·subst e; exact h.owned j s0 b hk hb
  ·simp [e] at hj; exact h.owned j s' b hj hb
 ·intro j v hj
  refine ⟨(h.fix j v hj).1, fun s' he => ?_⟩
  rw [St.slot_set] at he
  split at he
  ·rename_i hjk
   subst hjk
   obtain rfl := Option.some.inj he
   exact hkind ((h.fix j v hj).2 _ hk)
  ·exact (h.fix j v hj).2 _ he
end
end Go.AM
/- Soundness of the operations: those that leave the heap alone. -/
set_option linter.unusedSimpArgs false
set_option linter.unusedVariables false
namespace Go.AM
open Go
def sameF : List (Nat × Nat) → List Field → Bool
 | [], [] => true
 | p :: ps, f :: fs => Nat.beq p.1 f.offset && (Nat.beq p.2 f.type && sameF ps fs)
 | _, _ => false
def tdOk : TD → TypeDesc → Bool
 | .bool, .bool => true
 | .int k, .int j => decide (k = j)
 | .str, .string => true
 | .slice e, .slice e' => Nat.beq e e'
 | .struct fs, .struct gs => sameF fs gs.toList
 | .array n e, .array n' e' => Nat.beq n n' && Nat.beq e e'
 | .ptr e, .pointer e' => Nat.beq e e'
 | .map k v, .map k' v' => Nat.beq k k' && Nat.beq v v'
 | .func, .func _ _ _ => true
 | _, _ => false
def zeroOk : C → Value → Bool
 | .bool a, .bool b => a == b
 | .int k n, .int j m => decide (k = j) && decide (n = m)
 | .str s, .string t => s == t.data.toList
 | .nilS, .slice none 0 0 => true
 | .nilP, .pointer none => true
 | .nilF, .nilFunc => true
 | .nilM, .map none => true
 | .nilI, .nilIface => true
 | _, _ => false
theorem zeroOk_rep {β : Nat → Value} {X : Nat → Prop} {w : World} {c : C} {v : Value} (h : zeroOk c v = true) : RepC β X w c v := by
 unfold zeroOk at h
 split at h <;> simp at h <;> simp only [RepC]
 ·rw [h]
 ·rw [h.1, h.2]
 ·rw [h]
structure TOk1 (P : Program) (T : Nat → TInf) (t : Nat) : Prop where
 desc : ∃ d, P.underlying t = some d ∧ tdOk (T t).d d = true
 info : ∃ ti z, P.info? t = some ti ∧ ti.size = (T t).size ∧ ti.bytes = (T t).bytes ∧ ti.zero = some z ∧
  All2 (fun c v => zeroOk c v = true) (T t).zero z.cells.toList ∧ z.cells.size = (T t).size ∧ ((T t).zt = true → ∀ ty, (T t).ty = some ty → ∀ X w, Rep X w ty ty.dflt z.cells.toList)
 ty : ∀ ty, (T t).ty = some ty → ty.size = (T t).size ∧ 0 < (T t).size ∧ 0 < (T t).bytes
 struct : ∀ fs, (T t).d = .struct fs → ∀ p ∈ fs, (T p.2).d.known = true
 slice : ∀ e, (T t).d = .slice e → (T e).d.known = true
 array : ∀ n e, (T t).d = .array n e → (T e).d.known = true
 zagg : ∀ ti z, P.info? t = some ti → ti.zero = some z → z = mval (T t).isAgg z.cells.toList
 cmp : (T t).cmp = true → P.stoodInHeld t = false ∧ P.eqGuardType P.depth t = false ∧ ∀ gs, P.underlying t = some (.struct gs) → ∀ f ∈ gs.toList, f.name ≠ "_"
def TOk (P : Program) (cx : Cx) : Prop := ∀ t, (cx.T t).d.known = true → TOk1 P cx.T t
theorem Side.and_iff {s : Side} {k : Prop} (h : s.and k) : s.holds ∧ k := by
 cases s with
 | t => exact ⟨trivial, h⟩
 | f => exact False.elim h
 | p q => exact h
def Gives (P : Program) (s : Sem Next) (w : World) (v : Value) (w' : World) : Prop :=
 s.run P w = .ok (.value v) w' ∨ (s.run P w = .ok .skip w' ∧ v = Go.undef)
def Sound (P : Program) (cx : Cx) (F : Fm) (a : Act) (w : World) (s : Sem Next) (r : Res) : Prop :=
 r.side.holds → ∃ v β' w', Gives P s w v w' ∧ Rel cx F r.st β' a w' ∧ RepV β' (XX F r.st β') w' r.val v
section
variable {P : Program} {cx : Cx} {F : Fm} {st : St} {β : Nat → Value} {a : Act} {w : World} {s : Sem Next}
theorem Sound.fail : Sound P cx F a w s (fail st) := fun h => False.elim h
theorem Sound.pure (h : Rel cx F st β a w) {p : Side} {val : V} {v : Value} (hr : p.holds → s.run P w = .ok (.value v) w) (hv : p.holds → RepV β (XX F st β) w val v) :
    Sound P cx F a w s ⟨p, val, st⟩ := fun hp => ⟨v, β, w, .inl (hr hp), h, hv hp⟩
theorem Sound.ok (h : Rel cx F st β a w) {val : V} {v : Value} (hr : s.run P w = .ok (.value v) w) (hv : RepV β (XX F st β) w val v) :
    Sound P cx F a w s (ok st val) := fun _ => ⟨v, β, w, .inl hr, h, hv⟩
theorem TOk.und (T : TOk P cx) {t : Nat} (h : (cx.T t).d.known = true) : ∃ d, P.underlying t = some d ∧ tdOk (cx.T t).d d = true := (T t h).desc
theorem und_str (T : TOk P cx) {t : Nat} (h : (cx.T t).d = .str) : P.underlying t = some .string := by
 obtain ⟨d, hd, ho⟩ := (T t (by rw [h]; rfl)).desc
 rw [h] at ho; cases d <;> simp [tdOk] at ho; exact hd
theorem und_bool (T : TOk P cx) {t : Nat} (h : (cx.T t).d = .bool) : P.underlying t = some .bool := by
 obtain ⟨d, hd, ho⟩ := (T t (by rw [h]; rfl)).desc
 rw [h] at ho; cases d <;> simp [tdOk] at ho; exact hd
theorem und_int (T : TOk P cx) {t : Nat} {k : IntKind} (h : (cx.T t).d = .int k) : P.underlying t = some (.int k) := by
 obtain ⟨d, hd, ho⟩ := (T t (by rw [h]; rfl)).desc
 rw [h] at ho; cases d <;> simp [tdOk] at ho; rw [ho]; exact hd
theorem und_slice (T : TOk P cx) {t e : Nat} (h : (cx.T t).d = .slice e) : P.underlying t = some (.slice e) := by
 obtain ⟨d, hd, ho⟩ := (T t (by rw [h]; rfl)).desc
 rw [h] at ho; cases d <;> simp [tdOk, beq_iff] at ho; rw [ho]; exact hd
theorem und_ptr (T : TOk P cx) {t e : Nat} (h : (cx.T t).d = .ptr e) : P.underlying t = some (.pointer e) := by
 obtain ⟨d, hd, ho⟩ := (T t (by rw [h]; rfl)).desc
 rw [h] at ho; cases d <;> simp [tdOk, beq_iff] at ho; rw [ho]; exact hd
theorem und_array (T : TOk P cx) {t n e : Nat} (h : (cx.T t).d = .array n e) : P.underlying t = some (.array n e) := by
 obtain ⟨d, hd, ho⟩ := (T t (by rw [h]; rfl)).desc
 rw [h] at ho; cases d <;> simp [tdOk, beq_iff] at ho; rw [ho.1, ho.2]; exact hd
theorem und_map (T : TOk P cx) {t k v : Nat} (h : (cx.T t).d = .map k v) : P.underlying t = some (.map k v) := by
 obtain ⟨d, hd, ho⟩ := (T t (by rw [h]; rfl)).desc
 rw [h] at ho; cases d <;> simp [tdOk, beq_iff] at ho; rw [ho.1, ho.2]; exact hd
theorem und_func (T : TOk P cx) {t : Nat} (h : (cx.T t).d = .func) : ∃ a b c, P.underlying t = some (.func a b c) := by
 obtain ⟨d, hd, ho⟩ := (T t (by rw [h]; rfl)).desc
 rw [h] at ho; cases d <;> simp [tdOk] at ho; exact ⟨_, _, _, hd⟩
theorem sameF_nth : ∀ {fs : List (Nat × Nat)} {gs : List Field}, sameF fs gs = true → ∀ {f : Nat} {p : Nat × Nat}, nth fs f = some p → ∃ g, gs[f]? = some g ∧ g.offset = p.1 ∧ g.type = p.2
 | [], [], _, f, p, h => by simp [nth] at h
 | q :: fs, g :: gs, hs, 0, p, h => by
  simp [sameF, beq_iff] at hs
  simp [nth] at h; subst h
  exact ⟨g, rfl, hs.1.symm, hs.2.1.symm⟩
 | q :: fs, g :: gs, hs, f + 1, p, h => by
  simp [sameF, beq_iff] at hs
  simp only [nth] at h
  simpa using sameF_nth hs.2.2 h
 | [], _ :: _, hs, _, _, _ => by simp [sameF] at hs
 | _ :: _, [], hs, _, _, _ => by simp [sameF] at hs
theorem nth_mem {α : Type} : ∀ {l : List α} {n : Nat} {x : α}, nth l n = some x → x ∈ l
 | [], n, x, h => by simp [nth] at h
 | y :: l, 0, x, h => by simp [nth] at h; subst h; simp
 | y :: l, n + 1, x, h => by simp only [nth] at h; exact List.mem_cons_of_mem _ (nth_mem h)
theorem nth_get {α : Type} : ∀ {l : List α} {n : Nat}, nth l n = l[n]?
 | [], n => by simp [nth]
 | y :: l, 0 => by simp [nth]
 | y :: l, n + 1 => by simp [nth, nth_get]
theorem und_struct (T : TOk P cx) {t : Nat} {fs : List (Nat × Nat)} (h : (cx.T t).d = .struct fs) : ∃ gs, P.underlying t = some (.struct gs) ∧ sameF fs gs.toList = true := by
 obtain ⟨d, hd, ho⟩ := (T t (by rw [h]; rfl)).desc
 rw [h] at ho; cases d <;> simp [tdOk] at ho; exact ⟨_, hd, ho⟩
theorem run_size (T : TOk P cx) {t : Nat} (h : (cx.T t).d.known = true) (w : World) : (sizeOf t).run P w = .ok (cx.T t).size w := by
 obtain ⟨ti, z, hi, hs, _⟩ := (T t h).info
 simp [sizeOf, typeInfo, hi, hs]
theorem isAgg_of (T : TOk P cx) {t : Nat} (h : (cx.T t).d.known = true) (w : World) : (isAgg t).run P w = .ok (cx.T t).isAgg w := by
 obtain ⟨d, hd, ho⟩ := (T t h).desc
 simp only [isAgg, Sem.run_bind, run_underlying hd, Result.andThen_ok, TInf.isAgg]
 cases hT : (cx.T t).d <;> rw [hT] at ho h <;> cases d <;> simp [tdOk, TD.known] at ho h <;> rfl
theorem utf8_toList (s : ByteArray) : s.toList = s.data.toList := by
 have loop : ∀ (n i : Nat) (r : List UInt8), s.size - i = n → ByteArray.toList.loop s i r = r.reverse ++ s.data.toList.drop i := by
  intro n
  induction n with
  | zero =>
   intro i r h
   unfold ByteArray.toList.loop
   have : ¬ i < s.size := by omega
   simp only [this, if_false]
   have h2 : s.data.toList.length ≤ i := by simpa using (show s.data.size ≤ i from by have : s.data.size = s.size := rfl; omega)
   simp [List.drop_eq_nil_of_le h2]
  | succ n ih =>
   intro i r h
   unfold ByteArray.toList.loop
   have hi : i < s.size := by omega
   simp only [hi, if_true]
   rw [ih (i + 1) _ (by omega)]
   have hi' : i < s.data.toList.length := by simpa using hi
   rw [List.drop_eq_getElem_cons hi']
   have : s.get! i = s.data.toList[i] := by
    have : s.get! i = s.data[i]! := rfl
    rw [this]; simp [getElem!_pos, hi, show i < s.data.size from hi]
   simp [this]
 unfold ByteArray.toList
 rw [loop _ 0 [] rfl]; simp
end
end Go.AM
