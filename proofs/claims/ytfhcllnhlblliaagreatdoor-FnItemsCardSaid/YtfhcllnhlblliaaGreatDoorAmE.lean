/- Part E of a maker of conditions for walks, and why it is sound. -/
import Derived.Test.YtfhcllnhlblliaaGreatDoorAmD
import Derived.ChangeArms
import Derived.DataReads
import Derived.WideShapes
import Derived.Deep.Slices
import Derived.RowKit
import Derived.Below
import Derived.Lib.Bytealg
import Derived.Shelf.Strings.OnBuilder
import Derived.Shelf.Strings.Repeat
import Derived.Shelf.Strings.Builder1
import Derived.Shelf.Strings.Search3
import Derived.SizedLaws
import Derived.Handed
set_option linter.unusedVariables false
set_option linter.unusedSimpArgs false
set_option linter.unusedVariables false
set_option linter.unusedSimpArgs false
namespace Go.AM
open Go Go.RowKit
section
variable {P : Program}
def OpR (P : Program) (t : TypeId) (ty : Ty) (Q : ty.El -> Prop) : Prop :=
 ∀ {H : Type} (enc : TypeId × Value -> H) (w : World) (base : Nat) (spare : Nat -> Bool) (held : Bool) (fuel : Nat) (cs : List Value) (x : DataW H × List MemPlace),
  DataW.trod enc P w base spare held fuel t cs = some x -> ∃ a : ty.El, Rep X0 w ty a cs /\ Q a
theorem qdy {t : TypeId} {k : IntKind} (ht : P.underlying t = some (.int k)) : OpR P t (.int k) (fun n => (Lit.int k n).wf = true) := by
 intro H enc w base spare held fuel cs x h
 obtain ⟨n, rfl, _, hw⟩ := DataW.trod_int ht h
 exact ⟨n, rfl, hw⟩
theorem qpy {α : Type} (R : Nat -> α -> Prop) (n : Nat) (h : ∀ i, i < n -> ∃ a, R i a) : ∃ l : List α, l.length = n /\ ∀ i a, l[i]? = some a -> R i a := by
 induction n with
 | zero => exact ⟨[], rfl, fun i a h => by simp at h⟩
 | succ n ih =>
  obtain ⟨l, hl, hr⟩ := ih (fun i hi => h i (by omega));obtain ⟨a, ha⟩ := h n (by omega);refine ⟨l ++ [a], by simp [hl], fun i b hb => ?_⟩
  by_cases hi : i < n
  .rw [List.getElem?_append_left (by omega)] at hb; exact hr i b hb
  .have hin : i = n := by
    have := (List.getElem?_eq_some_iff.1 hb).1;simp at this; omega
   subst hin;rw [List.getElem?_append_right (by omega), hl] at hb;simp at hb;subst hb; exact ha
theorem qPt {w : World} {a : Addr} {u : Value} (h : w.cell? a = some u) : a.spot = none /\ ∃ c el fr, w.heap[a.block]? = some (.cells c el fr) /\ c[a.off]? = some u := by
 refine ⟨World.cell?_spot h, ?_⟩
 unfold World.cell? at h
 split at h
 .next c el fr hh =>
  split at h
  .cases h
  .exact ⟨c, el, fr, hh, h⟩
 .cases h
theorem qkv (a : Addr) (n : Nat) : (a.add n).block = a.block /\ (a.add n).off = a.off + n := by
 unfold Addr.add
 split
 .next h => subst h; exact ⟨rfl, rfl⟩
 .exact ⟨rfl, rfl⟩
theorem qyx {t e : TypeId} {ty : Ty} {Q : ty.El -> Prop} (ht : P.underlying t = some (.slice e)) (hz : P.cellsOf e = ty.size) (hp : 0 < ty.size) (h : OpR P e ty Q) :
    OpR P t (.list ty) (fun l => List.length (α := ty.El) l <= maxLen /\ ∀ a ∈ (l : List ty.El), Q a) := by
 intro H enc w base spare held fuel cs x hx
 rcases Go.Deep.open_slice ht hx with ⟨rfl, _⟩ | ⟨a, len, cap, m, n, D, Pl, rfl, hb, hl, hm, hmm, _, hi⟩
 .exact ⟨([] : List ty.El), ⟨none, 0, rfl, Nat.le_refl _, Or.inl rfl⟩, Nat.zero_le _, fun a ha => nomatch ha⟩
 .have hlm : len <= m := by rw [hmm]; split <;> omega
  obtain ⟨l, hll, hr⟩ := qpy (fun i (a' : ty.El) => Q a' /\ ∃ c, c.length = ty.size /\ Rep X0 w ty a' c /\ ∀ j u, c[j]? = some u -> w.cell? (a.add (i * ty.size + j)) = some u) len (fun i hil => by
   obtain ⟨cs', hc, ht'⟩ := hi i (by omega);obtain ⟨_, hcl, hat⟩ := World.cells?_some hc;obtain ⟨a', hk, hq⟩ := h enc w base spare held n cs' _ ht';refine ⟨a', hq, cs', hcl.trans hz, hk, fun j u hu => ?_⟩;have hj : j < cs'.length := (List.getElem?_eq_some_iff.1 hu).1;have := hat j (by omega);rw [hu, hz] at this;rw [<- Go.Deep.add_add]; exact this)
  refine ⟨l, ⟨some a, cap, ?_, ?_, ?_⟩, ?_, fun b hb' => ?_⟩
  .show [Value.slice (some a) len cap] = [Value.slice (some a) (List.length l) cap]
   rw [hll]
  .show List.length l <= cap
   omega
  .cases l with
   | nil => exact Or.inl rfl
   | cons y l' =>
    right;obtain ⟨_, c, hcl, _, hcc⟩ := hr 0 y rfl;have h0 : c[0]? = some (c[0]'(by omega)) := List.getElem?_eq_getElem _;obtain ⟨hsp, vals, el, fr, hh, _⟩ := qPt (hcc 0 _ h0);have hsp' : a.spot = none := by
     rw [Nat.zero_mul] at hsp; exact hsp
    rw [(qkv a _).1] at hh;refine ⟨a.block, a.off, ?_, ?_⟩
    .cases a; subst hsp'; rfl
    .refine ⟨fun hf => hf, vals, el, fr, hh, fun i z hz' => ?_⟩
     obtain ⟨_, c', _, hrep, hcc'⟩ := hr i z hz';refine ⟨c', hrep, fun j u hu => ?_⟩;obtain ⟨hs2, vals', el', fr', hh', hv⟩ := qPt (hcc' j u hu);obtain ⟨hb2, ho2⟩ := qkv a (i * ty.size + j);rw [hb2, hh] at hh';cases hh';rw [ho2] at hv;rw [Nat.add_assoc]; exact hv
  .show List.length l <= maxLen
   omega
  .obtain ⟨i, hi', rfl⟩ := List.getElem_of_mem hb'
   exact (hr i _ (List.getElem?_eq_getElem hi')).1
end
end Go.AM
set_option linter.unusedSimpArgs false
set_option linter.unusedVariables false
namespace Go.AM
open Go Go.RowKit
theorem Ans.below {X : Nat -> Prop} {β : Nat -> Value} {w w' : World} {r : V} {v : Value} (h : RepV β (YY X β []) w' r v) (hb : Below w.heap.size w w') : Ans X β w [] r [] v w' β := by
 refine ⟨h, fun k s hk => by simp [nth] at hk, fun j k s s' b hj => by simp [nth] at hj, fun b o hb' _ => ?_, ?_, hb.size, ⟨hb.os, hb.tape, hb.output⟩, fun k s hk => by simp [nth] at hk, fun k s hk => by simp [nth] at hk⟩
 .rw [hb.block b (by obtain ⟨h, _⟩ := Array.getElem?_eq_some_iff.1 hb'; exact h)]; exact hb'
 .rintro b ⟨k, s, hk, _⟩
  simp [nth] at hk
theorem FX.of_calls {P : Program} {cx : Cx} {rt : VT} (g : Nat) (vts : List VT1) (m : VT1s.El vts × SSs.El [] -> Option (rt.El × SSs.El []))
    (henter : ∀ vs w, (callFunc g vs).run P w = .ok (.enter g vs) w)
    (h : ∀ (x : VT1s.El vts × SSs.El []) (y : rt.El × SSs.El []), m x = some y -> ∀ (β : Nat -> Value) (Y : Nat -> Prop) w vs, qqd β Y w (VT1s.enc vts x.1) vs -> (∀ b, Y b -> b < w.heap.size) ->
     Calls P g vs.toArray w fun e w' => (∃ v, e = .returned v /\ ∀ β Y, RepV β Y w' (rt.enc y.1) v) /\ Below w.heap.size w w') : (⟨g, vts, [], m⟩ : FX rt []).Valid P cx := by
 rintro ⟨x, x2⟩ ⟨y, y2⟩ hr X β w vs hpre
 refine .inl ⟨henter _ _, (h _ _ hr β (YY X β []) w vs hpre.args ?_).mono ?_⟩
 .rintro b (hb | ⟨k, s, hk, _⟩)
  .exact hpre.outer b hb
  .simp [SSs.enc, nth] at hk
 .rintro e w' ⟨⟨v, rfl, hv⟩, hb⟩
  exact ⟨v, β, rfl, Ans.below (hv _ _) hb⟩
end Go.AM
set_option linter.unusedSimpArgs false
set_option linter.unusedVariables false
namespace Go.AM
open Go Go.RowKit Go.Proofs Go.Shelf
def qzk (s : List UInt8) (c : Int) : Option (List UInt8 × Unit) :=
 if 0 <= c /\ c <= 9223372036854775807 /\ s.length * c.toNat <= 140737488355328 then some (Lib.repeatL s c.toNat, ()) else none
theorem qcr {P : Program} {cx : Cx} {ρ : Ren} (L : Lays.n105 P ρ) (X : Builder.Extra P ρ) :
    (⟨ρ.f 105, [.one (.ty .str), .one (.ty (.int .i64))], [], fun x => qzk x.1.1 x.1.2.1⟩ : FX (.v (.one (.ty .str))) []).Valid P cx := by
 refine FX.of_calls _ _ _ (enters_of L.f105 (by kernel_rfl) rfl) ?_
 rintro ⟨⟨s, c, u⟩, u2⟩ ⟨y, y2⟩ hm β Y w vs hr hY
 have hm' : qzk s c = some (y, ()) := hm
 unfold qzk at hm'
 split at hm'
 case isFalse => cases hm'
 case isTrue hc =>
  simp only [Option.some.injEq, Prod.mk.injEq, and_true] at hm'
  match vs, hr with
  | [v1, v2], ⟨h1, h2, _⟩ =>
   have h1' : v1 = .string ⟨s.toArray⟩ := h1;have h2' : v2 = .int .i64 c := h2;subst h1'; subst h2';obtain ⟨n, rfl⟩ : ∃ n : Nat, c = n := ⟨c.toNat, (Int.toNat_of_nonneg hc.1).symm⟩;have := Any.strings_Repeat L X ⟨s.toArray⟩ n w (by omega) (by have := hc.2.2; rw [Int.toNat_natCast] at this; exact this);refine this.mono fun e w' ⟨he, hb⟩ => ⟨⟨_, he, fun β Y => ?_⟩, hb⟩
   subst hm'; rfl
end Go.AM
set_option linter.unusedSimpArgs false
set_option linter.unusedVariables false
namespace Go.AM
open Go Go.RowKit Go.Proofs Go.Shelf
def qel (xs : List Int) : List UInt8 := xs.map fun n => n.toNat.toUInt8
theorem qjl {P : Program} (w : World) : ∀ (l : List Int) (a : Addr) (acc : ByteArray), (∀ (j : Nat) x, l[j]? = some x -> w.cell? (a.add j) = some (.int .u8 x)) ->
    (loadBytes a acc l.length).run P w = .ok ⟨acc.data ++ (qel l).toArray⟩ w
 | [], a, acc, _ => by simp [loadBytes, qel]
 | x :: l, a, acc, h => by
  have h0 : w.cell? a = some (.int .u8 x) := by
   have := h 0 x rfl;simpa [Addr.add] using this
  have ih := qjl (P := P) w l (a.add 1) (acc.push x.toNat.toUInt8) (fun j y hy => by
   have := h (j + 1) y (by simpa using hy);have e : (a.add 1).add j = a.add (j + 1) := by
    unfold Addr.add
    by_cases hj : j = 0
    .subst hj; simp
    .simp [hj]; omega
   rw [e]; exact this)
  simp only [List.length_cons, loadBytes, Sem.run_bind, run_load, h0, Result.andThen];rw [ih];congr 1
  apply ByteArray.ext
  simp [ByteArray.push, qel]
theorem qTh {P : Program} (w : World) (pt it ty e : TypeId) (hp : P.underlying pt = some (.pointer e)) (hc : P.cellsOf e = 1) (g cells : Nat) (hsh : w.shape? g = some (e, cells)) (l : List Int) (h0 : l ≠ []) (hn : l.length <= cells) (h63 : l.length <= 9223372036854775807)
    (hcell : ∀ (j : Nat) x, l[j]? = some x -> w.cell? ((⟨g, 0, none⟩ : Addr).add j) = some (.int .u8 x)) :
    (Builtin.unsafeString_ #[pt, it] ty #[.pointer (some ⟨g, 0, none⟩), .int .i64 l.length]).run P w = .ok (.string ⟨(qel l).toArray⟩) (w.freeze ⟨g, 0, none⟩ l.length) := by
 have hl : l.length ≠ 0 := by simpa using h0
 have hlb := qjl (P := P) w l ⟨g, 0, none⟩ .empty hcell
 have hlies := Lib.liesAt_bytes (P := P) hc (cells / P.cellsOf e) l.length (by rw [hc]; simpa using hn)
 have h63' : ¬ (9223372036854775807 : Int) < (l.length : Int) := by omega
 have hdef : Builtin.unsafeString_ #[pt, it] ty #[.pointer (some ⟨g, 0, none⟩), .int .i64 l.length] =
     (do
      let n <- asInt (.int .i64 l.length)
      if n < 0 then runtimePanic (.error "unsafe.String: len out of range")
      if n > IntKind.i64.max then unsupported (.unsafePointer "String: a length above the largest int")
      if n = 0 then pure (.string .empty)
      else if <- variablesAt ⟨g, 0, none⟩ (<- elemOf pt) n.toNat then do
       let s <- loadBytes ⟨g, 0, none⟩ .empty n.toNat
       freeze ⟨g, 0, none⟩ n.toNat
       pure (.string s)
      else unsupported (.unsafePointer "String: not so many bytes at ptr")) := rfl
 rw [hdef]
 have hmax : IntKind.i64.max = 9223372036854775807 := rfl
 have hneg : ¬ (l.length : Int) < 0 := by omega
 simp [asInt, asIntOf, hmax, h63', hneg, hl, variablesAt, hsh, elemOf, run_underlying hp, hlies, hlb]
theorem qit (w : World) (a : Addr) (n : Nat) {k : Nat} (hk : k ≠ a.block) : (w.freeze a n).heap[k]? = w.heap[k]? := by
 unfold World.freeze
 split
 .rfl
 .simp only [Array.getElem?_modify]; rw [if_neg (fun e => hk e.symm)]
theorem qOs (w : World) (a : Addr) (n : Nat) : Same w (w.freeze a n) := by
 unfold World.freeze
 split
 .exact Same.refl w
 .exact ⟨rfl, rfl, rfl⟩
theorem qht (w : World) (a : Addr) (n : Nat) : (w.freeze a n).heap.size = w.heap.size := by
 unfold World.freeze
 split
 .rfl
 .simp
section
variable {P : Program} {ρ : Ren}
set_option maxHeartbeats 2000000 in
set_option maxRecDepth 100000 in
theorem qly (L : Lays.n169 P ρ) (X : Builder.Extra P ρ) (b g cap : Nat) (xs : List Int) (p : Value) (fr fr2 : Nat × Nat) (cur : Array Value) (w : World)
    (hbk : w.heap[b]? = some (.cells #[p, .slice (some ⟨g, 0, none⟩) xs.length (cap + 1)] (ρ.t 72) fr)) (hg : w.heap[g]? = some (.cells cur (ρ.t 5) fr2)) (hn : xs.length <= cur.size)
    (hc : ∀ (j : Nat) x, xs[j]? = some x -> cur[j]? = some (.int .u8 x)) (h63 : xs.length <= 9223372036854775807) (h0 : xs ≠ []) :
    Calls P (ρ.f 169) #[.pointer (some ⟨b, 0, none⟩)] w fun e w' => e = .returned (.string ⟨(qel xs).toArray⟩) /\ ∃ W : World, W.heap = w.heap /\ Same w W /\ w' = W.freeze ⟨g, 0, none⟩ xs.length := by
 have c1 : w.drew.cell? ⟨b, 1, none⟩ = some (.slice (some ⟨g, 0, none⟩) xs.length (cap + 1)) := by
  have : w.drew.heap[b]? = some (.cells #[p, .slice (some ⟨g, 0, none⟩) xs.length (cap + 1)] (ρ.t 72) fr) := hbk;rw [Lib.cell_of_heap this]; rfl
 have hSD : (Builtin.unsafeSliceData_ #[(ρ.t 37)] (ρ.t 127) #[.slice (some ⟨g, 0, none⟩) xs.length (cap + 1)]).run P w.drew = .ok (.pointer (some ⟨g, 0, none⟩)) w.drew :=
  Lib.run_unsafeSliceData_row _ _ _ _ _ _ (by omega)
 have hUS : (Builtin.unsafeString_ #[(ρ.t 127), (ρ.t 3)] (ρ.t 9) #[.pointer (some ⟨g, 0, none⟩), .int .i64 xs.length]).run P w.drew = .ok (.string ⟨(qel xs).toArray⟩) (w.drew.freeze ⟨g, 0, none⟩ xs.length) := by
  have hg' : w.drew.heap[g]? = some (.cells cur (ρ.t 5) fr2) := hg;refine qTh w.drew (ρ.t 127) (ρ.t 3) (ρ.t 9) (ρ.t 5) L.t127 X.cellsByte g cur.size (by simp [World.shape?, hg']) xs h0 hn h63 ?_;intro j x hx;rw [Addr.add_lit, qTf (w := w.drew) hg'];simpa using hc j x hx
 have mixed := L.mixed
 have t72 := L.t72; have a72 := L.a72; have z72 := L.z72; have v72 := L.v72; have u72 := run_underlying L.t72
 have t70 := L.t70; have a70 := L.a70; have z70 := L.z70; have v70 := L.v70; have u70 := run_underlying L.t70
 have t37 := L.t37; have a37 := L.a37; have z37 := L.z37; have v37 := L.v37; have u37 := run_underlying L.t37
 have t127 := L.t127; have a127 := L.a127; have z127 := L.z127; have v127 := L.v127; have u127 := run_underlying L.t127
 have t3 := L.t3; have a3 := L.a3; have z3 := L.z3; have v3 := L.v3; have u3 := run_underlying L.t3
 have t9 := L.t9; have a9 := L.a9; have z9 := L.z9; have v9 := L.v9; have u9 := run_underlying L.t9
 have t5 := X.t5; have a5 := X.a5; have z5 := X.z5; have v5 := X.v5; have u5 := run_underlying X.t5
 go_enter L.f169, Body.n169_ntmps ρ
 go_wp2
 go_region_o
 all_goals (go_wp2; go_ret; exact ⟨rfl, w.drew, rfl, ⟨rfl, rfl, rfl⟩, rfl⟩)
set_option maxHeartbeats 2000000 in
set_option maxRecDepth 100000 in
theorem qDr (L : Lays.n169 P ρ) (X : Builder.Extra P ρ) (b g cap : Nat) (p : Value) (fr : Nat × Nat) (w : World) (hbk : w.heap[b]? = some (.cells #[p, .slice (some ⟨g, 0, none⟩) 0 (cap + 1)] (ρ.t 72) fr)) :
    Calls P (ρ.f 169) #[.pointer (some ⟨b, 0, none⟩)] w fun e w' => e = .returned (.string ⟨#[]⟩) /\ w'.heap = w.heap /\ Same w w' := by
 have hUS := Any.unsafeString_none L X
 have c1 : w.drew.cell? ⟨b, 1, none⟩ = some (.slice (some ⟨g, 0, none⟩) 0 (cap + 1)) := by
  have : w.drew.heap[b]? = some (.cells #[p, .slice (some ⟨g, 0, none⟩) 0 (cap + 1)] (ρ.t 72) fr) := hbk;rw [Lib.cell_of_heap this]; rfl
 have hSD : (Builtin.unsafeSliceData_ #[(ρ.t 37)] (ρ.t 127) #[.slice (some ⟨g, 0, none⟩) 0 (cap + 1)]).run P w.drew = .ok (.pointer (some ⟨g, 0, none⟩)) w.drew :=
  Lib.run_unsafeSliceData_row _ _ _ _ _ _ (by omega)
 have mixed := L.mixed
 have t72 := L.t72; have a72 := L.a72; have z72 := L.z72; have v72 := L.v72; have u72 := run_underlying L.t72
 have t70 := L.t70; have a70 := L.a70; have z70 := L.z70; have v70 := L.v70; have u70 := run_underlying L.t70
 have t37 := L.t37; have a37 := L.a37; have z37 := L.z37; have v37 := L.v37; have u37 := run_underlying L.t37
 have t127 := L.t127; have a127 := L.a127; have z127 := L.z127; have v127 := L.v127; have u127 := run_underlying L.t127
 have t3 := L.t3; have a3 := L.a3; have z3 := L.z3; have v3 := L.v3; have u3 := run_underlying L.t3
 have t9 := L.t9; have a9 := L.a9; have z9 := L.z9; have v9 := L.v9; have u9 := run_underlying L.t9
 have t5 := X.t5; have a5 := X.a5; have z5 := X.z5; have v5 := X.v5; have u5 := run_underlying X.t5
 go_enter L.f169, Body.n169_ntmps ρ
 go_wp2
 go_region_o
 all_goals (go_wp2; go_ret; exact ⟨rfl, rfl, rfl, rfl, rfl⟩)
set_option maxHeartbeats 2000000 in
set_option maxRecDepth 100000 in
theorem qws (L : Lays.n169 P ρ) (X : Builder.Extra P ρ) (b : Nat) (p : Value) (fr : Nat × Nat) (w : World) (hbk : w.heap[b]? = some (.cells #[p, .slice none 0 0] (ρ.t 72) fr)) :
    Calls P (ρ.f 169) #[.pointer (some ⟨b, 0, none⟩)] w fun e w' => e = .returned (.string ⟨#[]⟩) /\ w'.heap = w.heap /\ Same w w' := by
 have hUS := Any.unsafeString_none L X
 have c1 : w.drew.cell? ⟨b, 1, none⟩ = some (.slice none 0 0) := by
  have : w.drew.heap[b]? = some (.cells #[p, .slice none 0 0] (ρ.t 72) fr) := hbk;rw [Lib.cell_of_heap this]; rfl
 have hSD : (Builtin.unsafeSliceData_ #[(ρ.t 37)] (ρ.t 127) #[.slice none 0 0]).run P w.drew = .ok (.pointer none) w.drew := rfl
 have mixed := L.mixed
 have t72 := L.t72; have a72 := L.a72; have z72 := L.z72; have v72 := L.v72; have u72 := run_underlying L.t72
 have t70 := L.t70; have a70 := L.a70; have z70 := L.z70; have v70 := L.v70; have u70 := run_underlying L.t70
 have t37 := L.t37; have a37 := L.a37; have z37 := L.z37; have v37 := L.v37; have u37 := run_underlying L.t37
 have t127 := L.t127; have a127 := L.a127; have z127 := L.z127; have v127 := L.v127; have u127 := run_underlying L.t127
 have t3 := L.t3; have a3 := L.a3; have z3 := L.z3; have v3 := L.v3; have u3 := run_underlying L.t3
 have t9 := L.t9; have a9 := L.a9; have z9 := L.z9; have v9 := L.v9; have u9 := run_underlying L.t9
 have t5 := X.t5; have a5 := X.a5; have z5 := X.z5; have v5 := X.v5; have u5 := run_underlying X.t5
 go_enter L.f169, Body.n169_ntmps ρ
 go_wp2
 go_region_o
 all_goals (go_wp2; go_ret; exact ⟨rfl, rfl, rfl, rfl, rfl⟩)
theorem qSr {cx : Cx} (L : Lays.n169 P ρ) (X0 : Builder.Extra P ρ) :
    (⟨ρ.f 169, [.one (.con (.ref 0 0))], [.bd (ρ.t 72) (.con (.rs 1)), .brow (ρ.t 5)], fun x => if x.2.2.1.length <= 140737488355328 then some (qel x.2.2.1, ((), ([], ()))) else none⟩ : FX (.v (.one (.ty .str))) [.bd (ρ.t 72) (.con .top), .brow (ρ.t 5)]).Valid P cx := by
 rintro ⟨⟨u0, u1⟩, s0, xs, u⟩ ⟨y, y0, ys, u3⟩ hm X β w vs hpre
 have hm' : (if xs.length <= 140737488355328 then some (qel xs, ((), (([] : List Int), ()))) else none) = some (y, (y0, ys, u3)) := hm
 split at hm'
 case isFalse => cases hm'
 case isTrue hc =>
  simp only [Option.some.injEq, Prod.mk.injEq] at hm';obtain ⟨rfl, _, rfl, _⟩ := hm';obtain ⟨b, v0, v1, fr, h1, h2, h3, h4, h5⟩ := hpre.slots 0 (.bd (ρ.t 72) (.rs 1)) rfl;have hrow := hpre.slots 1 (.brow (ρ.t 5) xs) rfl;have h5' : v1 = β 1 := h5.1
  match vs, hpre.args with
  | [a], ⟨ha, _⟩ =>
   obtain ⟨b', hb', rfl⟩ : ∃ b', qNe (β 0) b' /\ a = .pointer (some ⟨b', 0, none⟩) := ha;have : b' = b := by have := hb'.symm.trans h1; simpa using this
   subst this;have hblk0 : blk (β 0) = some b' := by rw [h1]; rfl
   have fin : ∀ w' : World, (∀ k o, w.heap[k]? = some o -> blk (β 1) ≠ some k -> w'.heap[k]? = some o) -> w'.heap.size = w.heap.size -> Same w w' ->
       ∃ v β', (Ending.returned (.string ⟨(qel xs).toArray⟩)) = .returned v /\ Ans X β w (SSs.enc [.bd (ρ.t 72) (.con (.rs 1)), .brow (ρ.t 5)] (s0, xs, u)) (VT.enc (.v (.one (.ty .str))) (qel xs)) (SSs.enc [.bd (ρ.t 72) (.con .top), .brow (ρ.t 5)] (y0, [], u3)) v w' β' := by
    intro w' hfr hsz hsame;have hne : blk (β 1) ≠ some b' := by
     intro hh;have := hpre.inj 0 1 _ _ b' rfl rfl hblk0 hh;cases this
    refine ⟨_, upd β 1 (.slice none 0 0), rfl, rfl, ?_, ?_, ?_, ?_, by omega, hsame, ?_, ?_⟩
    .intro k s hk
     match k, hk with
     | 0, hk =>
      have hk' : Slot.bd (ρ.t 72) .top = s := by simpa [SSs.enc, nth, SS.enc, CT.enc] using hk
      subst hk';refine ⟨b', v0, v1, fr, by simpa [upd] using h1, hfr _ _ h2 hne, h3, h4, ?_⟩
      show v1.oneCell' = true
      obtain ⟨_, a', l', c', e⟩ := h5;rw [e]; rfl
     | 1, hk =>
      have hk' : Slot.brow (ρ.t 5) [] = s := by simpa [SSs.enc, nth, SS.enc] using hk
      subst hk';exact .inl ⟨rfl, by simp [upd]⟩
     | k + 2, hk => simp [SSs.enc, nth] at hk
    .intro j k s s' bb hj hk hbj hbk
     have key : ∀ i s, nth (SSs.enc [.bd (ρ.t 72) (.con .top), .brow (ρ.t 5)] (y0, [], u3)) i = some s -> blk (upd β 1 (.slice none 0 0) i) = some bb -> i = 0 := by
      intro i s hi hb
      match i, hi with
      | 0, _ => rfl
      | 1, _ => simp [upd, blk] at hb
      | i + 2, hi => simp [SSs.enc, nth] at hi
     rw [key j s hj hbj, key k s' hk hbk]
    .intro bb o hb hnb
     exact hfr bb o hb (fun e => hnb ⟨1, _, rfl, e⟩)
    .rintro bb ⟨k, s, hk, hbk⟩
     match k, hk with
     | 0, hk =>
      have hbk' : blk (β 0) = some bb := by simpa [upd] using hbk
      exact ⟨.inl ⟨0, _, rfl, hbk'⟩, hpre.apart bb ⟨0, _, rfl, hbk'⟩⟩
     | 1, hk => simp [upd, blk] at hbk
     | k + 2, hk => simp [SSs.enc, nth] at hk
    .intro k s hk hf
     match k, hk with
     | 0, _ => simp [upd]
     | 1, hk =>
      have hk' : Slot.brow (ρ.t 5) xs = s := by simpa [SSs.enc, nth, SS.enc] using hk
      subst hk'; cases hf
     | k + 2, hk => simp [SSs.enc, nth] at hk
    .intro k s hk hf s' hk'
     match k, hk with
     | 0, _ =>
      have : Slot.bd (ρ.t 72) .top = s' := by simpa [SSs.enc, nth, SS.enc, CT.enc] using hk'
      subst this; rfl
     | 1, hk =>
      have hk' : Slot.brow (ρ.t 5) xs = s := by simpa [SSs.enc, nth, SS.enc] using hk
      subst hk'; cases hf
     | k + 2, hk => simp [SSs.enc, nth] at hk
   refine .inl ⟨enters_of L.f169 (by kernel_rfl) rfl _ _, ?_⟩;rcases hrow with ⟨rfl, hv⟩ | ⟨g, cap, cur, fr2, hv, hg, hth, hlc, hcap, hcs⟩
   .rw [h5', hv] at h2
    refine (qws L X0 b' v0 fr w h2).mono ?_;rintro e w' ⟨rfl, hh, hsame⟩;exact fin w' (fun k o hk _ => by rw [hh]; exact hk) (by rw [hh]) hsame
   .by_cases h0 : xs = []
    .subst h0
     rw [h5', hv] at h2;refine (qDr L X0 b' g cap v0 fr w h2).mono ?_;rintro e w' ⟨rfl, hh, hsame⟩;exact fin w' (fun k o hk _ => by rw [hh]; exact hk) (by rw [hh]) hsame
    .have h2' := h2
     rw [h5', hv] at h2';refine (qly L X0 b' g cap xs v0 fr fr2 cur w h2' hg (by omega) hcs (by omega) h0).mono ?_;rintro e w' ⟨rfl, W, hW, hs, rfl⟩;refine fin _ (fun k o hk hne => ?_) (by rw [qht, hW]) ?_
     .rw [qit _ _ _ (fun e => hne (by rw [hv, e]; rfl)), hW]; exact hk
     .have h1 := qOs W ⟨g, 0, none⟩ xs.length
      exact hs.trans h1
theorem qjm {cx : Cx} (L : Lays.n240 P ρ) (X0 : Builder.X72 P ρ) :
    (⟨ρ.f 240, [.one (.con (.ref 0 0))], [.bd (ρ.t 72) (.con (.rs 1)), .brow (ρ.t 5)], fun x => some ((), x.2)⟩ : FX (.tup []) [.bd (ρ.t 72) (.con (.rs 1)), .brow (ρ.t 5)]).Valid P cx := by
 rintro ⟨⟨u0, u1⟩, s0, xs, u⟩ ⟨y, y0, ys, u3⟩ hm X β w vs hpre
 have hm' : some ((), (s0, xs, u)) = some (y, (y0, ys, u3)) := hm
 simp only [Option.some.injEq, Prod.mk.injEq] at hm'
 obtain ⟨_, _, rfl, _⟩ := hm'
 obtain ⟨b, v0, v1, fr, h1, h2, h3, h4, h5⟩ := hpre.slots 0 (.bd (ρ.t 72) (.rs 1)) rfl
 have hrow := hpre.slots 1 (.brow (ρ.t 5) xs) rfl
 match vs, hpre.args with
 | [a], ⟨ha, _⟩ =>
  obtain ⟨b', hb', rfl⟩ : ∃ b', qNe (β 0) b' /\ a = .pointer (some ⟨b', 0, none⟩) := ha;have : b' = b := by have := hb'.symm.trans h1; simpa using this
  subst this;have hblk0 : blk (β 0) = some b' := by rw [h1]; rfl
  have hne : blk (β 1) ≠ some b' := by
   intro hh;have := hpre.inj 0 1 _ _ b' rfl rfl hblk0 hh;cases this
  have fin : ∀ (w' : World) (v0' : Value), (v0' = .pointer none ∨ v0' = .pointer (some ⟨b', 0, none⟩)) -> w'.heap[b']? = some (.cells #[v0', v1] (ρ.t 72) fr) -> (∀ k o, w.heap[k]? = some o -> k ≠ b' -> w'.heap[k]? = some o) -> w'.heap.size = w.heap.size -> Same w w' ->
      ∃ v β', (Ending.returned (.tuple #[])) = .returned v /\ Ans X β w (SSs.enc [.bd (ρ.t 72) (.con (.rs 1)), .brow (ρ.t 5)] (s0, xs, u)) (VT.enc (.tup []) y) (SSs.enc [.bd (ρ.t 72) (.con (.rs 1)), .brow (ρ.t 5)] (y0, xs, u3)) v w' β' := by
   intro w' v0' hv0 hb2 hfr hsz hsame;refine ⟨_, β, rfl, ⟨[], rfl, trivial⟩, ?_, ?_, ?_, ?_, by omega, hsame, fun k s _ _ => rfl, ?_⟩
   .intro k s hk
    match k, hk with
    | 0, hk =>
     have hk' : Slot.bd (ρ.t 72) (.rs 1) = s := by simpa [SSs.enc, nth, SS.enc, CT.enc] using hk
     subst hk';exact ⟨b', v0', v1, fr, h1, hb2, h3, hv0, h5⟩
    | 1, hk =>
     have hk' : Slot.brow (ρ.t 5) xs = s := by simpa [SSs.enc, nth, SS.enc] using hk
     subst hk';rcases hrow with hh | ⟨g, cap, cur, fr2, hv, hg, hth, hlc, hcap, hcs⟩
     .exact .inl hh
     .exact .inr ⟨g, cap, cur, fr2, hv, hfr _ _ hg (fun e => hne (by rw [hv, <- e]; rfl)), hth, hlc, hcap, hcs⟩
    | k + 2, hk => simp [SSs.enc, nth] at hk
   .intro j k s s' bb hj hk
    have e : ∀ i s, nth (SSs.enc [.bd (ρ.t 72) (.con (.rs 1)), .brow (ρ.t 5)] (y0, xs, u3)) i = some s -> ∃ t, nth (SSs.enc [.bd (ρ.t 72) (.con (.rs 1)), .brow (ρ.t 5)] (s0, xs, u)) i = some t := by
     intro i s hi
     match i, hi with
     | 0, _ => exact ⟨_, rfl⟩
     | 1, _ => exact ⟨_, rfl⟩
     | i + 2, hi => simp [SSs.enc, nth] at hi
    obtain ⟨t1, g1⟩ := e j s hj;obtain ⟨t2, g2⟩ := e k s' hk;exact hpre.inj j k t1 t2 bb g1 g2
   .intro bb o hb hnb
    exact hfr bb o hb (fun e => hnb ⟨0, _, rfl, by rw [e]; exact hblk0⟩)
   .rintro bb ⟨k, s, hk, hbk⟩
    have : ∃ t, nth (SSs.enc [.bd (ρ.t 72) (.con (.rs 1)), .brow (ρ.t 5)] (s0, xs, u)) k = some t := by
     match k, hk with
     | 0, _ => exact ⟨_, rfl⟩
     | 1, _ => exact ⟨_, rfl⟩
     | k + 2, hk => simp [SSs.enc, nth] at hk
    obtain ⟨t, ht⟩ := this;exact ⟨.inl ⟨k, t, ht, hbk⟩, hpre.apart bb ⟨k, t, ht, hbk⟩⟩
   .intro k s hk hf s' hk'
    match k, hk with
    | 0, _ =>
     have : Slot.bd (ρ.t 72) (.rs 1) = s' := by simpa [SSs.enc, nth, SS.enc, CT.enc] using hk'
     subst this; rfl
    | 1, hk =>
     have hk' : Slot.brow (ρ.t 5) xs = s := by simpa [SSs.enc, nth, SS.enc] using hk
     subst hk'; cases hf
    | k + 2, hk => simp [SSs.enc, nth] at hk
  refine .inl ⟨enters_of L.f240 (by kernel_rfl) rfl _ _, ?_⟩;have c0 : w.cell? ⟨b', 0, none⟩ = some v0 := by rw [Lib.cell_of_heap h2]; rfl
  rcases h4 with rfl | rfl
  .refine (Any.Builder_copyCheck_fresh L X0 b' w c0 (by simp [World.shape?, h2]) ?_).mono ?_
   .have := h3 0 (by simp)
    simp only [World.frozen?, h2];simpa using this
   .rintro e w' ⟨rfl, rfl⟩
    refine fin _ _ (.inr rfl) ?_ (fun k o hk hne' => ?_) (by simp [World.setCell]) ⟨rfl, rfl, rfl⟩
    .simp [World.setCell, Array.getElem?_modify, h2]
    .simp only [World.setCell, Array.getElem?_modify]
     rw [if_neg (fun e => hne' e.symm)]; exact hk
  .refine (Any.Builder_copyCheck_used L X0 b' w c0).mono ?_
   rintro e w' ⟨rfl, rfl⟩;exact fin w' _ (.inr rfl) h2 (fun k o hk _ => hk) rfl (Same.refl w')
theorem qpk {cx : Cx} (L : Lays.n105 P ρ) (X0 : Builder.Extra P ρ) :
    (⟨ρ.f 240, [.one (.con (.ref 0 0))], [.bd (ρ.t 72) (.con (.rs 1)), .brow (ρ.t 5)], fun x => some ((), x.2)⟩ : FX (.tup []) [.bd (ρ.t 72) (.con (.rs 1)), .brow (ρ.t 5)]).Valid P cx := qjm { L with } X0.toX72
end
end Go.AM
set_option linter.unusedSimpArgs false
set_option linter.unusedVariables false
namespace Go.AM
open Go Go.RowKit Go.Proofs Go.Shelf
end Go.AM
set_option linter.unusedVariables false
namespace Go.AM
open Go
variable {H : Type} {enc : TypeId × Value -> H}
end Go.AM
