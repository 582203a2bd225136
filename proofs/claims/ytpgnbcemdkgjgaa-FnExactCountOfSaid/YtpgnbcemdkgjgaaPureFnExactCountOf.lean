/- The statement FnExactCountOf over the printed functions: true at all arguments. Conditions: none. -/
import Derived.Test.YtpgnbcemdkgjgaaPFnExactCountOfx0
import Derived.Test.YtpgnbcemdkgjgaaPFnExactCountOfx1
import Derived.Test.YtpgnbcemdkgjgaaPFnExactCountOfx2
import Derived.Test.YtpgnbcemdkgjgaaQFnExactCountOf
import Derived.RowKit
import Derived.Lib.IndexBytes
import Derived.Laws.BitsLemmas
namespace Go.Proofs.Ytpgnbcemdkgjgaa.Fc
open Go Go.RowKit
set_option linter.unusedVariables false
set_option linter.unusedSimpArgs false


/-! ### rounds -/
/-- From some number of rounds on, g answers r. -/
def Er {α : Type} (g : Nat → Option α) (r : α) : Prop := ∃ K, ∀ k, K ≤ k → g k = some r
theorem Er.some {α : Type} {r : α} : Er (fun _ => some r) r := ⟨0, fun _ _ => rfl⟩
theorem Er.const {α : Type} {o : Option α} {r : α} (h : o = .some r) : Er (fun _ => o) r := ⟨0, fun _ _ => h⟩
theorem Er.now {α : Type} {g : Nat → Option α} {r : α} (h : ∀ k, g k = .some r) : Er g r := ⟨0, fun k _ => h k⟩
theorem Er.rounds {α : Type} {g : Nat → Option α} {r : α} (h : Er g r) : ∃ k, g k = .some r := h.elim fun K h => ⟨K, h K (Nat.le_refl _)⟩
theorem Er.congr {α : Type} {g f : Nat → Option α} {r : α} (k : Er f r) (h : ∀ k, g k = f k) : Er g r := k.elim fun K k => ⟨K, fun n hn => (h n).trans (k n hn)⟩
theorem Er.step {α : Type} {g f : Nat → Option α} {r : α} (h : ∀ k, g (k + 1) = f k) (k : Er f r) : Er g r := by
  obtain ⟨K, k⟩ := k
  refine ⟨K + 1, fun n hn => ?_⟩
  obtain ⟨m, rfl⟩ : ∃ m, n = m + 1 := ⟨n - 1, by omega⟩
  rw [h]
  exact k m (by omega)
theorem Er.bind {α β : Type} {g : Nat → Option α} {f : Nat → α → Option β} {a : α} {r : β} (h : Er g a) (k : Er (fun n => f n a) r) : Er (fun n => (g n).bind (f n)) r := by
  obtain ⟨K, h⟩ := h
  obtain ⟨K', k⟩ := k
  refine ⟨max K K', fun n hn => ?_⟩
  show (g n).bind (f n) = _
  rw [h n (by omega)]
  exact k n (by omega)
theorem Er.bindc {α β : Type} {o : Option α} {f : Nat → α → Option β} {a : α} {r : β} (h : o = .some a) (k : Er (fun n => f n a) r) : Er (fun n => o.bind (f n)) r := by
  subst h; exact k
theorem Er.ite {α : Type} {c : Prop} [Decidable c] {f g : Nat → Option α} {r : α} (h : c → Er f r) (k : ¬c → Er g r) : Er (fun n => if c then f n else g n) r := by
  by_cases hc : c
  · exact (h hc).congr fun n => if_pos hc
  · exact (k hc).congr fun n => if_neg hc
theorem Er.pos {α : Type} {c : Prop} [Decidable c] {f g : Nat → Option α} {r : α} (hc : c) (h : Er f r) : Er (fun n => if c then f n else g n) r := h.congr fun _ => if_pos hc
theorem Er.neg {α : Type} {c : Prop} [Decidable c] {f g : Nat → Option α} {r : α} (hc : ¬c) (h : Er g r) : Er (fun n => if c then f n else g n) r := h.congr fun _ => if_neg hc
theorem Er.val {α : Type} {g : Nat → Option α} {r s : α} (h : Er g r) (e : r = s) : Er g s := e ▸ h
theorem Er.unique {α : Type} {g : Nat → Option α} {r s : α} (h : Er g r) (k : Er g s) : r = s := by
  obtain ⟨K, h⟩ := h
  obtain ⟨K', k⟩ := k
  have a := h (max K K') (by omega)
  have b := k (max K K') (by omega)
  rw [a] at b
  exact Option.some.inj b

/-! ### integers -/
theorem w64 {x : Int} (h : -9223372036854775808 ≤ x) (h' : x ≤ 9223372036854775807) : wrap64 x = x := by unfold wrap64; omega

/-! ### bytes -/
/-- The bytes of a text, as numbers. -/
def nb (s : ByteArray) : List Int := s.data.toList.map fun b => (b.toNat : Int)
theorem nb_length (s : ByteArray) : (nb s).length = s.size := by unfold nb; rw [List.length_map, Array.length_toList]; rfl
theorem nb_range (s : ByteArray) : ∀ x ∈ nb s, 0 ≤ x ∧ x ≤ 255 := by
  intro x hx
  unfold nb at hx
  obtain ⟨b, _, rfl⟩ := List.mem_map.1 hx
  have := b.toNat_lt
  omega
theorem nb_inj {s t : ByteArray} (h : nb s = nb t) : s = t := by
  apply ByteArray.ext
  apply Array.toList_inj.1
  unfold nb at h
  refine List.map_inj_right (fun a b h => ?_) |>.1 h
  exact UInt8.toNat_inj.1 (by omega)
theorem toList_nb (s : ByteArray) : s.toList.map (fun b => (b.toNat : Int)) = nb s := by rw [ByteArray.toList_eq]; rfl
theorem toList_eq_iff (s t : ByteArray) : s.toList = t.toList ↔ nb s = nb t := by
  constructor
  · intro h; rw [← toList_nb, h, toList_nb]
  · intro h; rw [nb_inj h]
theorem toList_eq_lit (s : ByteArray) (l : List UInt8) : s.toList = l ↔ nb s = l.map (fun b => (b.toNat : Int)) := by
  constructor
  · intro h; rw [← toList_nb, h]
  · intro h
    rw [← toList_nb] at h
    refine List.map_inj_right (fun a b h => ?_) |>.1 h
    exact UInt8.toNat_inj.1 (by omega)
theorem nb_extract (s : ByteArray) (a b : Nat) : nb (s.extract a b) = ((nb s).take b).drop a := by
  unfold nb
  rw [ByteArray.data_extract, Array.toList_extract, List.extract_eq_drop_take', List.map_drop, List.map_take]
theorem nb_extract_end (s : ByteArray) (a : Nat) : nb (s.extract a s.size) = (nb s).drop a := by
  rw [nb_extract, List.take_of_length_le (by rw [nb_length]; omega)]
theorem nb_append (s t : ByteArray) : nb (s ++ t) = nb s ++ nb t := by
  unfold nb; rw [ByteArray.data_append, Array.toList_append, List.map_append]



def nx (h : Int) : Int := wrap64 (wrap64 (h * 6364136223846793005) + 1442695040888963407)
def gz (h : Int) : Int := 6364136223846793005 * h + 1442695040888963407
def it (f : Int → Int) : Nat → Int → Int
  | 0, h => h
  | n + 1, h => it f n (f h)
theorem it_add (f : Int → Int) (m n : Nat) (h : Int) : it f (m + n) h = it f n (it f m h) := by
  induction m generalizing h with
  | zero => rw [Nat.zero_add]; rfl
  | succ m ih => rw [Nat.succ_add]; exact ih (f h)
def uz : Nat → Int
  | 0 => 1591034055961698251
  | k + 1 => uz k + 2 * 2 ^ k * (uz k * uz k)
def vz : Nat → Int
  | 0 => 721347520444481703
  | k + 1 => vz k + (2 * vz k + 1) * (2 ^ k * uz k)
theorem gz_pow (k : Nat) : ∀ h, it gz (2 ^ k) h = (1 + 4 * 2 ^ k * uz k) * h + 2 ^ k * (2 * vz k + 1) := by
  induction k with
  | zero => intro h; show gz h = _; unfold gz uz vz; omega
  | succ k ih =>
    intro h
    have e : 2 ^ (k + 1) = 2 ^ k + 2 ^ k := by rw [Nat.pow_succ]; omega
    rw [e, it_add, ih, ih]
    have e2 : (2 : Int) ^ (k + 1) = 2 * 2 ^ k := by rw [Int.pow_succ]; omega
    rw [e2]
    simp only [uz, vz]
    generalize (2 : Int) ^ k = p
    generalize uz k = u
    generalize vz k = v
    grind
theorem gz_reach (h t : Int) (k : Nat) : ∃ n, ∃ q : Int, it gz n h = t + 2 ^ k * q := by
  induction k with
  | zero => exact ⟨0, h - t, by simp [it]; omega⟩
  | succ k ih =>
    obtain ⟨n, q, hq⟩ := ih
    have e2 : (2 : Int) ^ (k + 1) = 2 * 2 ^ k := by rw [Int.pow_succ]; omega
    rcases Int.emod_two_eq q with h0 | h1
    · refine ⟨n, q / 2, ?_⟩
      rw [hq, e2]
      have : q = 2 * (q / 2) := by omega
      generalize (2 : Int) ^ k = p
      generalize q / 2 = z at *
      subst this
      grind
    · refine ⟨n + 2 ^ k, ?_⟩
      rw [it_add, gz_pow, hq, e2]
      have : q = 2 * (q / 2) + 1 := by omega
      generalize (2 : Int) ^ k = p
      generalize q / 2 = z at *
      generalize uz k = u
      generalize vz k = v
      subst this
      exact ⟨z + 1 + v + 2 * u * (t + p * (2 * z + 1)), by grind⟩
theorem wrap64_mod (x : Int) : ∃ q, wrap64 x = x + 18446744073709551616 * q := by
  unfold wrap64
  exact ⟨-((x + 9223372036854775808) / 18446744073709551616), by omega⟩
theorem wrap64_congr {x y q : Int} (h : x = y + 18446744073709551616 * q) : wrap64 x = wrap64 y := by
  unfold wrap64; omega
theorem wrap64_idem (x : Int) : wrap64 (wrap64 x) = wrap64 x := by unfold wrap64; omega
theorem nx_gz (h : Int) : nx h = wrap64 (gz h) := by
  unfold nx gz
  obtain ⟨q, hq⟩ := wrap64_mod (h * 6364136223846793005)
  rw [hq]
  exact wrap64_congr (q := q) (by omega)
theorem gz_wrap (h : Int) : wrap64 (gz (wrap64 h)) = wrap64 (gz h) := by
  obtain ⟨q, hq⟩ := wrap64_mod h
  exact wrap64_congr (q := 6364136223846793005 * q) (by rw [hq]; unfold gz; omega)
theorem it_nx (n : Nat) : ∀ h, wrap64 (it nx n h) = wrap64 (it gz n h) := by
  have key : ∀ n h, wrap64 (it gz n (wrap64 h)) = wrap64 (it gz n h) := by
    intro n
    induction n with
    | zero => intro h; exact wrap64_idem h
    | succ n ih => intro h; show wrap64 (it gz n (gz (wrap64 h))) = wrap64 (it gz n (gz h)); rw [← ih, gz_wrap, ih]
  induction n with
  | zero => intro h; rfl
  | succ n ih =>
    intro h
    show wrap64 (it nx n (nx h)) = wrap64 (it gz n (gz h))
    rw [ih, nx_gz, key]
/-- From every state the sequence comes to every state. -/
theorem nx_reach (h t : Int) (ht : wrap64 t = t) : ∃ n, it nx (n + 1) h = t := by
  obtain ⟨n, q, hq⟩ := gz_reach (gz h) t 64
  refine ⟨n, ?_⟩
  have last : ∀ n h, it nx (n + 1) h = nx (it nx n h) := by
    intro n
    induction n with
    | zero => intro h; rfl
    | succ n ih => intro h; exact ih (nx h)
  have w : wrap64 (it nx (n + 1) h) = it nx (n + 1) h := by
    rw [last]; unfold nx; exact wrap64_idem _
  rw [← w, it_nx]
  show wrap64 (it gz n (gz h)) = t
  rw [hq, ← ht]
  rw [ht]
  conv => rhs; rw [← ht]
  have e : (2 : Int) ^ 64 = 18446744073709551616 := by decide
  rw [e]
  exact wrap64_congr (q := q) rfl

/-- Element i, as the printed functions read it. -/
theorem getD_mem {α : Type} (xs : List α) (d : α) (i : Nat) (h : i < xs.length) : xs.getD i d ∈ xs := by
  rw [List.getD_eq_getElem?_getD, List.getElem?_eq_getElem h]; exact List.getElem_mem h
theorem drop_getD {α : Type} (xs : List α) (d : α) (i : Nat) (h : i < xs.length) : xs.drop i = xs.getD i d :: xs.drop (i + 1) := by
  rw [List.drop_eq_getElem_cons h, List.getD_eq_getElem?_getD, List.getElem?_eq_getElem h]; rfl
/-- 'szXS': what is left of a sum that is taken down. -/
theorem sz_loop {α : Type} (z : α) (xs : List α) (hx : xs.length ≤ 4611686018427387904) (f : α → Int → Option Int) (g : Nat → Int → Int → Option Int)
    (heq : ∀ k x (i : Int), g (k + 1) x i = if i < (xs.length : Int) then (if 0 ≤ i then ((f (xs.getD i.toNat z) x).bind fun t => (if t < 0 then (some (-1)) else (g k t (wrap64 (i + 1))))) else none) else some x)
    (hf : ∀ a ∈ xs, ∀ x, 0 ≤ x → x ≤ 1048576 → ∃ r, f a x = some r ∧ (r < 0 ∨ 0 ≤ r ∧ r ≤ x)) (d : Nat) :
    ∀ (i : Nat) (x : Int), i + d = xs.length → 0 ≤ x → x ≤ 1048576 → ∃ r, Er (fun k => g k x i) r ∧ (r < 0 ∨ 0 ≤ r ∧ r ≤ x) := by
  induction d with
  | zero =>
    intro i x hi h0 h1
    exact ⟨x, Er.step (fun k => heq k x i) (Er.neg (by omega) Er.some), .inr ⟨h0, Int.le_refl _⟩⟩
  | succ d ih =>
    intro i x hi h0 h1
    have e2 : wrap64 ((i : Int) + 1) = ((i + 1 : Nat) : Int) := by rw [w64 (by omega) (by omega)]; omega
    obtain ⟨r, hr, hq⟩ := hf (xs.getD i z) (getD_mem xs z i (by omega)) x h0 h1
    by_cases hn : r < 0
    · exact ⟨-1, Er.step (fun k => heq k x i) (Er.pos (by omega) (Er.pos (by omega) (Er.bindc (by rw [Int.toNat_natCast]; exact hr) (Er.pos hn Er.some)))), .inl (by omega)⟩
    · obtain ⟨s, hs, hq'⟩ := ih (i + 1) r (by omega) (by omega) (by omega)
      exact ⟨s, Er.step (fun k => heq k x i) (Er.pos (by omega) (Er.pos (by omega) (Er.bindc (by rw [Int.toNat_natCast]; exact hr) (Er.neg hn (by rw [e2]; exact hs))))), by omega⟩
/-- 'toXS': each element turned. -/
theorem to_loop {α β γ : Type} (z : α) (xs : List α) (hx : xs.length ≤ 4611686018427387904) (f : α → Option γ) (mk : γ → β) (conv : α → β) (g : Nat → List β → Int → Option (List β))
    (heq : ∀ k out (i : Int), g (k + 1) out i = if i < (xs.length : Int) then (if 0 ≤ i then ((f (xs.getD i.toNat z)).bind fun b => (if i < (out.length : Int) then (g k (out.set i.toNat (mk b)) (wrap64 (i + 1))) else none)) else none) else some out)
    (hf : ∀ a, ∃ b, f a = some b ∧ mk b = conv a) (d : Nat) :
    ∀ (i : Nat) (out : List β), i + d = xs.length → out.length = xs.length → Er (fun k => g k out i) (out.take i ++ (xs.drop i).map conv) := by
  induction d with
  | zero =>
    intro i out hi ho
    refine Er.step (fun k => heq k out i) (Er.neg (by omega) (Er.some.val ?_))
    rw [List.take_of_length_le (by omega), List.drop_of_length_le (by omega)]
    simp
  | succ d ih =>
    intro i out hi ho
    have e2 : wrap64 ((i : Int) + 1) = ((i + 1 : Nat) : Int) := by rw [w64 (by omega) (by omega)]; omega
    obtain ⟨b, hb, hm⟩ := hf (xs.getD i z)
    refine Er.step (fun k => heq k out i) (Er.pos (by omega) (Er.pos (by omega) (Er.bindc (by rw [Int.toNat_natCast]; exact hb) (Er.pos (by omega) ?_))))
    rw [e2, Int.toNat_natCast]
    refine (ih (i + 1) (out.set i (mk b)) (by omega) (by rw [List.length_set]; exact ho)).val ?_
    rw [drop_getD xs z i (by omega), List.map_cons, ← hm]
    rw [List.take_succ_eq_append_getElem (by rw [List.length_set]; omega), List.getElem_set_self, List.take_set_of_le (Nat.le_refl _), List.append_assoc]
    rfl
/-- 'eqXS' of a list and itself. -/
theorem eq_loop {α : Type} (z : α) (xs : List α) (hx : xs.length ≤ 4611686018427387904) (f : α → α → Option Bool) (g : Nat → Int → Option Bool)
    (heq : ∀ k (i : Int), g (k + 1) i = if i < (xs.length : Int) then (if 0 ≤ i then (if i < (xs.length : Int) then ((f (xs.getD i.toNat z) (xs.getD i.toNat z)).bind fun t => (if t = true then (g k (wrap64 (i + 1))) else (some false))) else none) else none) else some true)
    (hf : ∀ a, f a a = some true) (d : Nat) : ∀ i : Nat, i + d = xs.length → Er (fun k => g k i) true := by
  induction d with
  | zero => intro i hi; exact Er.step (fun k => heq k i) (Er.neg (by omega) Er.some)
  | succ d ih =>
    intro i hi
    have e2 : wrap64 ((i : Int) + 1) = ((i + 1 : Nat) : Int) := by rw [w64 (by omega) (by omega)]; omega
    exact Er.step (fun k => heq k i) (Er.pos (by omega) (Er.pos (by omega) (Er.pos (by omega) (Er.bindc (hf _) (Er.pos (by rfl) (by rw [e2]; exact ih (i + 1) (by omega)))))))

end Go.Proofs.Ytpgnbcemdkgjgaa.Fc
namespace Go.Proofs.Ytpgnbcemdkgjgaa.Pure
open Go Go.RowKit Go.Proofs.Ytpgnbcemdkgjgaa.PFnExactCountOf Go.Proofs.YtpgnbcemdkgjgaaW.PrintWords Go.Proofs.YtpgnbcemdkgjgaaW.PrintLast Go.Proofs.YtpgnbcemdkgjgaaW.PrintMore Go.Proofs.Ytpgnbcemdkgjgaa.Fc Go.Proofs.Ytpgnbcemdkgjgaa.QFnExactCountOf
theorem szNode_ok (a0 : ByteArray) (a1 a2 a3 : Int) (a4 a5 : ByteArray) (a6 x : Int) (h0 : a0.size ≤ maxLen) (h4 : a4.size ≤ maxLen) (h5 : a5.size ≤ maxLen) (hx : 0 ≤ x) (hx1 : x ≤ 1048576) :
    ∃ r, laws_szNode.f a0 a1 a2 a3 a4 a5 a6 x = some r ∧ (r < 0 ∨ 0 ≤ r ∧ r ≤ x ∧ a0.size ≤ x ∧ a4.size ≤ x ∧ a5.size ≤ x) := by
  unfold maxLen at h0 h4 h5
  unfold laws_szNode.f
  rw [w64 (x := x - (a0.size : Int)) (by omega) (by omega)]
  split
  · exact ⟨_, rfl, .inl (by omega)⟩
  · rw [w64 (x := x - (a0.size : Int) - (a4.size : Int)) (by omega) (by omega)]
    split
    · exact ⟨_, rfl, .inl (by omega)⟩
    · rw [w64 (x := x - (a0.size : Int) - (a4.size : Int) - (a5.size : Int)) (by omega) (by omega)]
      split
      · exact ⟨_, rfl, .inl (by omega)⟩
      · exact ⟨_, rfl, .inr (by omega)⟩

def conv28 (x : S23) : S28 := ⟨x.f0, x.f1, x.f2, x.f3, x.f4, x.f5, x.f6⟩
def conv75 (x : S73) : S75 := ⟨x.f0, x.f1, conv28 x.f2, conv28 x.f3⟩
def countK (l : List S75) (a : Int) : Nat := (l.filter fun x => x.f0 == a).length
theorem szChangeS_ok (l : List S73) (hl : l.length ≤ maxLen) (hq : ∀ y ∈ l, Q73 y) : ∃ r, Er (fun k => laws_szChangeS.f k l 1048576) r ∧ (r < 0 ∨ l.length ≤ 1048576) := by
  unfold maxLen at hl
  unfold laws_szChangeS.f
  rw [w64 (by omega) (by omega)]
  by_cases h : 1048576 - (l.length : Int) < 0
  · exact ⟨_, Er.pos h Er.some, .inl (by omega)⟩
  · obtain ⟨r, hr, _⟩ := sz_loop z73 l (by omega) (fun a x => laws_szChange.f a.f0 a.f1 a.f2.f0 a.f2.f1 a.f2.f2 a.f2.f3 a.f2.f4 a.f2.f5 a.f2.f6 a.f3.f0 a.f3.f1 a.f3.f2 a.f3.f3 a.f3.f4 a.f3.f5 a.f3.f6 x) (fun k x i => laws_szChangeS.l0 k l x i) (fun k x i => rfl)
      (fun a ha x h0 h1 => by
        obtain ⟨_, q1, ⟨q2, _, _, _, q6, q7, _⟩, ⟨q9, _, _, _, q13, q14, _⟩⟩ := hq a ha
        have q1' := q1
        unfold maxLen at q1'
        unfold laws_szChange.f
        rw [w64 (x := x - (a.f1.size : Int)) (by omega) (by omega)]
        split
        · exact ⟨_, rfl, .inl (by omega)⟩
        · obtain ⟨r, hr, hr'⟩ := szNode_ok a.f2.f0 a.f2.f1 a.f2.f2 a.f2.f3 a.f2.f4 a.f2.f5 a.f2.f6 (x - (a.f1.size : Int)) q2 q6 q7 (by omega) (by omega)
          rw [hr, Option.bind_some]
          split
          · exact ⟨_, rfl, .inl (by omega)⟩
          · obtain ⟨s, hs, hs'⟩ := szNode_ok a.f3.f0 a.f3.f1 a.f3.f2 a.f3.f3 a.f3.f4 a.f3.f5 a.f3.f6 r q9 q13 q14 (by omega) (by omega)
            rw [hs, Option.bind_some]
            split
            · exact ⟨_, rfl, .inl (by omega)⟩
            · exact ⟨_, rfl, .inr (by omega)⟩) l.length 0 (1048576 - (l.length : Int)) (by omega) (by omega) (by omega)
    exact ⟨r, Er.neg h hr, .inr (by omega)⟩
theorem toChangeS_ok (l : List S73) (hl : l.length ≤ 1048576) : Er (fun k => laws_toChangeS.f k l) (l.map conv75) := by
  unfold laws_toChangeS.f
  refine Er.pos (by omega) (Er.pos (by omega) ?_)
  rw [Int.toNat_natCast]
  have := to_loop z73 l (by omega) (fun a => laws_toChange.f a.f0 a.f1 a.f2.f0 a.f2.f1 a.f2.f2 a.f2.f3 a.f2.f4 a.f2.f5 a.f2.f6 a.f3.f0 a.f3.f1 a.f3.f2 a.f3.f3 a.f3.f4 a.f3.f5 a.f3.f6)
    (fun b => (⟨b.1, b.2.1, (⟨b.2.2.1, b.2.2.2.1, b.2.2.2.2.1, b.2.2.2.2.2.1, b.2.2.2.2.2.2.1, b.2.2.2.2.2.2.2.1, b.2.2.2.2.2.2.2.2.1⟩ : S28), (⟨b.2.2.2.2.2.2.2.2.2.1, b.2.2.2.2.2.2.2.2.2.2.1, b.2.2.2.2.2.2.2.2.2.2.2.1, b.2.2.2.2.2.2.2.2.2.2.2.2.1, b.2.2.2.2.2.2.2.2.2.2.2.2.2.1, b.2.2.2.2.2.2.2.2.2.2.2.2.2.2.1, b.2.2.2.2.2.2.2.2.2.2.2.2.2.2.2⟩ : S28)⟩ : S75)) conv75 (fun k out i => laws_toChangeS.l0 k l out i) (fun k out i => rfl)
    (fun a => ⟨_, rfl, rfl⟩) l.length 0 (List.replicate l.length z75) (by omega) (by simp)
  exact this.val (by simp)
theorem eqChangeS_ok (l : List S75) (hl : l.length ≤ 1048576) : Er (fun k => laws_eqChangeS.f k l l) true := by
  unfold laws_eqChangeS.f
  refine Er.pos rfl ?_
  exact eq_loop z75 l (by omega) (fun a b => laws_eqChange.f a.f0 a.f1 a.f2.f0 a.f2.f1 a.f2.f2 a.f2.f3 a.f2.f4 a.f2.f5 a.f2.f6 a.f3.f0 a.f3.f1 a.f3.f2 a.f3.f3 a.f3.f4 a.f3.f5 a.f3.f6 b.f0 b.f1 b.f2.f0 b.f2.f1 b.f2.f2 b.f2.f3 b.f2.f4 b.f2.f5 b.f2.f6 b.f3.f0 b.f3.f1 b.f3.f2 b.f3.f3 b.f3.f4 b.f3.f5 b.f3.f6) (fun k i => laws_eqChangeS.l0 k l l i) (fun k i => rfl)
    (fun a => by simp [laws_eqChange.f, laws_eqNode.f]) l.length 0 (by omega)
theorem specCount_l0 (l : List S75) (hl : l.length ≤ 1048576) (a : Int) (d : Nat) : ∀ (i n : Nat), i + d = l.length → n ≤ i → Er (fun k => spec_CountOf.l0 k l a n i) ((n + countK (l.drop i) a : Nat) : Int) := by
  induction d with
  | zero =>
    intro i n hi hn
    refine Er.step (fun k => rfl) (Er.neg (by omega) (Er.some.val ?_))
    rw [List.drop_of_length_le (by omega)]; rfl
  | succ d ih =>
    intro i n hi hn
    have e2 : wrap64 ((i : Int) + 1) = ((i + 1 : Nat) : Int) := by rw [w64 (by omega) (by omega)]; omega
    have e3 : wrap64 ((n : Int) + 1) = ((n + 1 : Nat) : Int) := by rw [w64 (by omega) (by omega)]; omega
    have hr : rd_T75 l (i : Int) = l.getD i z75 := by unfold rd_T75; rw [Int.toNat_natCast]
    refine Er.step (fun k => rfl) (Er.pos (by omega) (Er.pos (by omega) ?_))
    rw [e2, e3, hr, drop_getD l z75 i (by omega)]
    refine Er.ite (fun h => (ih (i + 1) (n + 1) (by omega) (by omega)).val ?_) (fun h => (ih (i + 1) n (by omega) (by omega)).val ?_)
    · unfold countK; rw [List.filter_cons_of_pos (by rw [beq_iff_eq]; exact h), List.length_cons]; omega
    · unfold countK; rw [List.filter_cons_of_neg (by rw [beq_iff_eq]; exact h)]
theorem implCount_l0 (l : List S75) (hl : l.length ≤ 1048576) (a : Int) (d : Nat) : ∀ (i n : Nat), i + d = l.length → n ≤ i → Er (fun k => impl_CountOf.l0 k a n l l.length i) ((n + countK (l.drop i) a : Nat) : Int) := by
  induction d with
  | zero =>
    intro i n hi hn
    refine Er.step (fun k => rfl) (Er.neg (by omega) (Er.some.val ?_))
    rw [List.drop_of_length_le (by omega)]; rfl
  | succ d ih =>
    intro i n hi hn
    have e2 : wrap64 ((i : Int) + 1) = ((i + 1 : Nat) : Int) := by rw [w64 (by omega) (by omega)]; omega
    have e3 : wrap64 ((n : Int) + 1) = ((n + 1 : Nat) : Int) := by rw [w64 (by omega) (by omega)]; omega
    have hr : rd_T75 l (i : Int) = l.getD i z75 := by unfold rd_T75; rw [Int.toNat_natCast]
    refine Er.step (fun k => rfl) (Er.pos (by omega) (Er.pos (by omega) (Er.pos (by omega) ?_)))
    rw [e2, e3, hr, drop_getD l z75 i (by omega)]
    refine Er.ite (fun h => (ih (i + 1) (n + 1) (by omega) (by omega)).val ?_) (fun h => (ih (i + 1) n (by omega) (by omega)).val ?_)
    · unfold countK; rw [List.filter_cons_of_pos (by rw [beq_iff_eq]; exact h), List.length_cons]; omega
    · unfold countK; rw [List.filter_cons_of_neg (by rw [beq_iff_eq]; exact h)]
theorem FnExactCountOf : Pure := by
  intro l a hl hq _
  refine Er.rounds ?_
  unfold laws_FnExactCountOf.f
  obtain ⟨r, hr, hr'⟩ := szChangeS_ok l hl hq
  refine Er.bind hr (Er.ite (fun _ => Er.some) (fun hn => ?_))
  have hl' : l.length ≤ 1048576 := by omega
  have hm : (l.map conv75).length ≤ 1048576 := by rw [List.length_map]; exact hl'
  have t := toChangeS_ok l hl'
  refine Er.bind t (Er.bind (specCount_l0 (l.map conv75) hm a _ 0 0 (Nat.zero_add _) (Nat.le_refl _)) (Er.bind t (Er.bind (implCount_l0 (l.map conv75) hm a _ 0 0 (Nat.zero_add _) (Nat.le_refl _)) (Er.pos rfl (Er.bind t (Er.bind (eqChangeS_ok _ hm) (Er.pos (by rfl) Er.some)))))))

end Go.Proofs.Ytpgnbcemdkgjgaa.Pure
