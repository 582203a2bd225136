/- The statement FnRoll over the printed functions: true at all arguments. Conditions: none. -/
import Derived.Test.YtpgnbcemdkgjgaaPFnRollx0
import Derived.Test.YtpgnbcemdkgjgaaPFnRollx1
import Derived.Test.YtpgnbcemdkgjgaaPFnRollx2
import Derived.Test.YtpgnbcemdkgjgaaPFnRollx3
import Derived.RowKit
import Derived.Lib.IndexBytes
import Derived.Laws.BitsLemmas
set_option linter.unusedVariables false
set_option linter.unusedSimpArgs false
namespace Go.Proofs.Ytpgnbcemdkgjgaa.Fc
open Go Go.RowKit


/-! ### rounds -/
/-- From some number of rounds on, g answers r. -/
def Er {α : Type} (g : Nat → Option α) (r : α) : Prop := ∃ K, ∀ k, K ≤ k → g k = some r
theorem Er.some {α : Type} {r : α} : Er (fun _ => some r) r := ⟨0, fun _ _ => rfl⟩
theorem Er.const {α : Type} {o : Option α} {r : α} (h : o = .some r) : Er (fun _ => o) r := ⟨0, fun _ _ => h⟩
theorem Er.now {α : Type} {g : Nat → Option α} {r : α} (h : ∀ k, g k = .some r) : Er g r := ⟨0, fun k _ => h k⟩
theorem Er.rounds {α : Type} {g : Nat → Option α} {r : α} (h : Er g r) : ∃ k, g k = .some r := h.elim fun K h => ⟨K, h K (Nat.le_refl _)⟩
theorem Er.congr {α : Type} {g f : Nat → Option α} {r : α} (k : Er f r) (h : ∀ k, g k = f k) : Er g r := k.elim fun K k => ⟨K, fun n hn => (h n).trans (k n hn)⟩
theorem Er.step {α : Type} {g f : Nat → Option α} {r : α} (h : ∀ k, g (k + 1) = f k) (k : Er f r) : Er g r := by
  obtain ⟨K, k⟩ := k
  refine ⟨K + 1, fun n hn => ?_⟩
  obtain ⟨m, rfl⟩ : ∃ m, n = m + 1 := ⟨n - 1, by omega⟩
  rw [h]
  exact k m (by omega)
theorem Er.bind {α β : Type} {g : Nat → Option α} {f : Nat → α → Option β} {a : α} {r : β} (h : Er g a) (k : Er (fun n => f n a) r) : Er (fun n => (g n).bind (f n)) r := by
  obtain ⟨K, h⟩ := h
  obtain ⟨K', k⟩ := k
  refine ⟨max K K', fun n hn => ?_⟩
  show (g n).bind (f n) = _
  rw [h n (by omega)]
  exact k n (by omega)
theorem Er.bindc {α β : Type} {o : Option α} {f : Nat → α → Option β} {a : α} {r : β} (h : o = .some a) (k : Er (fun n => f n a) r) : Er (fun n => o.bind (f n)) r := by
  subst h; exact k
theorem Er.ite {α : Type} {c : Prop} [Decidable c] {f g : Nat → Option α} {r : α} (h : c → Er f r) (k : ¬c → Er g r) : Er (fun n => if c then f n else g n) r := by
  by_cases hc : c
  · exact (h hc).congr fun n => if_pos hc
  · exact (k hc).congr fun n => if_neg hc
theorem Er.pos {α : Type} {c : Prop} [Decidable c] {f g : Nat → Option α} {r : α} (hc : c) (h : Er f r) : Er (fun n => if c then f n else g n) r := h.congr fun _ => if_pos hc
theorem Er.neg {α : Type} {c : Prop} [Decidable c] {f g : Nat → Option α} {r : α} (hc : ¬c) (h : Er g r) : Er (fun n => if c then f n else g n) r := h.congr fun _ => if_neg hc
theorem Er.val {α : Type} {g : Nat → Option α} {r s : α} (h : Er g r) (e : r = s) : Er g s := e ▸ h
theorem Er.unique {α : Type} {g : Nat → Option α} {r s : α} (h : Er g r) (k : Er g s) : r = s := by
  obtain ⟨K, h⟩ := h
  obtain ⟨K', k⟩ := k
  have a := h (max K K') (by omega)
  have b := k (max K K') (by omega)
  rw [a] at b
  exact Option.some.inj b

/-! ### integers -/
theorem w64 {x : Int} (h : -9223372036854775808 ≤ x) (h' : x ≤ 9223372036854775807) : wrap64 x = x := by unfold wrap64; omega

/-! ### bytes -/
/-- The bytes of a text, as numbers. -/
def nb (s : ByteArray) : List Int := s.data.toList.map fun b => (b.toNat : Int)
theorem nb_length (s : ByteArray) : (nb s).length = s.size := by unfold nb; rw [List.length_map, Array.length_toList]; rfl
theorem nb_range (s : ByteArray) : ∀ x ∈ nb s, 0 ≤ x ∧ x ≤ 255 := by
  intro x hx
  unfold nb at hx
  obtain ⟨b, _, rfl⟩ := List.mem_map.1 hx
  have := b.toNat_lt
  omega
theorem nb_inj {s t : ByteArray} (h : nb s = nb t) : s = t := by
  apply ByteArray.ext
  apply Array.toList_inj.1
  unfold nb at h
  refine List.map_inj_right (fun a b h => ?_) |>.1 h
  exact UInt8.toNat_inj.1 (by omega)
theorem toList_nb (s : ByteArray) : s.toList.map (fun b => (b.toNat : Int)) = nb s := by rw [ByteArray.toList_eq]; rfl
theorem toList_eq_iff (s t : ByteArray) : s.toList = t.toList ↔ nb s = nb t := by
  constructor
  · intro h; rw [← toList_nb, h, toList_nb]
  · intro h; rw [nb_inj h]
theorem toList_eq_lit (s : ByteArray) (l : List UInt8) : s.toList = l ↔ nb s = l.map (fun b => (b.toNat : Int)) := by
  constructor
  · intro h; rw [← toList_nb, h]
  · intro h
    rw [← toList_nb] at h
    refine List.map_inj_right (fun a b h => ?_) |>.1 h
    exact UInt8.toNat_inj.1 (by omega)
theorem nb_extract (s : ByteArray) (a b : Nat) : nb (s.extract a b) = ((nb s).take b).drop a := by
  unfold nb
  rw [ByteArray.data_extract, Array.toList_extract, List.extract_eq_drop_take', List.map_drop, List.map_take]
theorem nb_extract_end (s : ByteArray) (a : Nat) : nb (s.extract a s.size) = (nb s).drop a := by
  rw [nb_extract, List.take_of_length_le (by rw [nb_length]; omega)]
theorem nb_append (s t : ByteArray) : nb (s ++ t) = nb s ++ nb t := by
  unfold nb; rw [ByteArray.data_append, Array.toList_append, List.map_append]



def nx (h : Int) : Int := wrap64 (wrap64 (h * 6364136223846793005) + 1442695040888963407)
def gz (h : Int) : Int := 6364136223846793005 * h + 1442695040888963407
def it (f : Int → Int) : Nat → Int → Int
  | 0, h => h
  | n + 1, h => it f n (f h)
theorem it_add (f : Int → Int) (m n : Nat) (h : Int) : it f (m + n) h = it f n (it f m h) := by
  induction m generalizing h with
  | zero => rw [Nat.zero_add]; rfl
  | succ m ih => rw [Nat.succ_add]; exact ih (f h)
def uz : Nat → Int
  | 0 => 1591034055961698251
  | k + 1 => uz k + 2 * 2 ^ k * (uz k * uz k)
def vz : Nat → Int
  | 0 => 721347520444481703
  | k + 1 => vz k + (2 * vz k + 1) * (2 ^ k * uz k)
theorem gz_pow (k : Nat) : ∀ h, it gz (2 ^ k) h = (1 + 4 * 2 ^ k * uz k) * h + 2 ^ k * (2 * vz k + 1) := by
  induction k with
  | zero => intro h; show gz h = _; unfold gz uz vz; omega
  | succ k ih =>
    intro h
    have e : 2 ^ (k + 1) = 2 ^ k + 2 ^ k := by rw [Nat.pow_succ]; omega
    rw [e, it_add, ih, ih]
    have e2 : (2 : Int) ^ (k + 1) = 2 * 2 ^ k := by rw [Int.pow_succ]; omega
    rw [e2]
    simp only [uz, vz]
    generalize (2 : Int) ^ k = p
    generalize uz k = u
    generalize vz k = v
    grind
theorem gz_reach (h t : Int) (k : Nat) : ∃ n, ∃ q : Int, it gz n h = t + 2 ^ k * q := by
  induction k with
  | zero => exact ⟨0, h - t, by simp [it]; omega⟩
  | succ k ih =>
    obtain ⟨n, q, hq⟩ := ih
    have e2 : (2 : Int) ^ (k + 1) = 2 * 2 ^ k := by rw [Int.pow_succ]; omega
    rcases Int.emod_two_eq q with h0 | h1
    · refine ⟨n, q / 2, ?_⟩
      rw [hq, e2]
      have : q = 2 * (q / 2) := by omega
      generalize (2 : Int) ^ k = p
      generalize q / 2 = z at *
      subst this
      grind
    · refine ⟨n + 2 ^ k, ?_⟩
      rw [it_add, gz_pow, hq, e2]
      have : q = 2 * (q / 2) + 1 := by omega
      generalize (2 : Int) ^ k = p
      generalize q / 2 = z at *
      generalize uz k = u
      generalize vz k = v
      subst this
      exact ⟨z + 1 + v + 2 * u * (t + p * (2 * z + 1)), by grind⟩
theorem wrap64_mod (x : Int) : ∃ q, wrap64 x = x + 18446744073709551616 * q := by
  unfold wrap64
  exact ⟨-((x + 9223372036854775808) / 18446744073709551616), by omega⟩
theorem wrap64_congr {x y q : Int} (h : x = y + 18446744073709551616 * q) : wrap64 x = wrap64 y := by
  unfold wrap64; omega
theorem wrap64_idem (x : Int) : wrap64 (wrap64 x) = wrap64 x := by unfold wrap64; omega
theorem nx_gz (h : Int) : nx h = wrap64 (gz h) := by
  unfold nx gz
  obtain ⟨q, hq⟩ := wrap64_mod (h * 6364136223846793005)
  rw [hq]
  exact wrap64_congr (q := q) (by omega)
theorem gz_wrap (h : Int) : wrap64 (gz (wrap64 h)) = wrap64 (gz h) := by
  obtain ⟨q, hq⟩ := wrap64_mod h
  exact wrap64_congr (q := 6364136223846793005 * q) (by rw [hq]; unfold gz; omega)
theorem it_nx (n : Nat) : ∀ h, wrap64 (it nx n h) = wrap64 (it gz n h) := by
  have key : ∀ n h, wrap64 (it gz n (wrap64 h)) = wrap64 (it gz n h) := by
    intro n
    induction n with
    | zero => intro h; exact wrap64_idem h
    | succ n ih => intro h; show wrap64 (it gz n (gz (wrap64 h))) = wrap64 (it gz n (gz h)); rw [← ih, gz_wrap, ih]
  induction n with
  | zero => intro h; rfl
  | succ n ih =>
    intro h
    show wrap64 (it nx n (nx h)) = wrap64 (it gz n (gz h))
    rw [ih, nx_gz, key]
/-- From every state the sequence comes to every state. -/
theorem nx_reach (h t : Int) (ht : wrap64 t = t) : ∃ n, it nx (n + 1) h = t := by
  obtain ⟨n, q, hq⟩ := gz_reach (gz h) t 64
  refine ⟨n, ?_⟩
  have last : ∀ n h, it nx (n + 1) h = nx (it nx n h) := by
    intro n
    induction n with
    | zero => intro h; rfl
    | succ n ih => intro h; exact ih (nx h)
  have w : wrap64 (it nx (n + 1) h) = it nx (n + 1) h := by
    rw [last]; unfold nx; exact wrap64_idem _
  rw [← w, it_nx]
  show wrap64 (it gz n (gz h)) = t
  rw [hq, ← ht]
  rw [ht]
  conv => rhs; rw [← ht]
  have e : (2 : Int) ^ 64 = 18446744073709551616 := by decide
  rw [e]
  exact wrap64_congr (q := q) rfl

/-- Element i, as the printed functions read it. -/
theorem getD_mem {α : Type} (xs : List α) (d : α) (i : Nat) (h : i < xs.length) : xs.getD i d ∈ xs := by
  rw [List.getD_eq_getElem?_getD, List.getElem?_eq_getElem h]; exact List.getElem_mem h
theorem drop_getD {α : Type} (xs : List α) (d : α) (i : Nat) (h : i < xs.length) : xs.drop i = xs.getD i d :: xs.drop (i + 1) := by
  rw [List.drop_eq_getElem_cons h, List.getD_eq_getElem?_getD, List.getElem?_eq_getElem h]; rfl
/-- 'szXS': what is left of a sum that is taken down. -/
theorem sz_loop {α : Type} (z : α) (xs : List α) (hx : xs.length ≤ 4611686018427387904) (f : α → Int → Option Int) (g : Nat → Int → Int → Option Int)
    (heq : ∀ k x (i : Int), g (k + 1) x i = if i < (xs.length : Int) then (if 0 ≤ i then ((f (xs.getD i.toNat z) x).bind fun t => (if t < 0 then (some (-1)) else (g k t (wrap64 (i + 1))))) else none) else some x)
    (hf : ∀ a ∈ xs, ∀ x, 0 ≤ x → x ≤ 1048576 → ∃ r, f a x = some r ∧ (r < 0 ∨ 0 ≤ r ∧ r ≤ x)) (d : Nat) :
    ∀ (i : Nat) (x : Int), i + d = xs.length → 0 ≤ x → x ≤ 1048576 → ∃ r, Er (fun k => g k x i) r ∧ (r < 0 ∨ 0 ≤ r ∧ r ≤ x) := by
  induction d with
  | zero =>
    intro i x hi h0 h1
    exact ⟨x, Er.step (fun k => heq k x i) (Er.neg (by omega) Er.some), .inr ⟨h0, Int.le_refl _⟩⟩
  | succ d ih =>
    intro i x hi h0 h1
    have e2 : wrap64 ((i : Int) + 1) = ((i + 1 : Nat) : Int) := by rw [w64 (by omega) (by omega)]; omega
    obtain ⟨r, hr, hq⟩ := hf (xs.getD i z) (getD_mem xs z i (by omega)) x h0 h1
    by_cases hn : r < 0
    · exact ⟨-1, Er.step (fun k => heq k x i) (Er.pos (by omega) (Er.pos (by omega) (Er.bindc (by rw [Int.toNat_natCast]; exact hr) (Er.pos hn Er.some)))), .inl (by omega)⟩
    · obtain ⟨s, hs, hq'⟩ := ih (i + 1) r (by omega) (by omega) (by omega)
      exact ⟨s, Er.step (fun k => heq k x i) (Er.pos (by omega) (Er.pos (by omega) (Er.bindc (by rw [Int.toNat_natCast]; exact hr) (Er.neg hn (by rw [e2]; exact hs))))), by omega⟩
/-- 'toXS': each element turned. -/
theorem to_loop {α β γ : Type} (z : α) (xs : List α) (hx : xs.length ≤ 4611686018427387904) (f : α → Option γ) (mk : γ → β) (conv : α → β) (g : Nat → List β → Int → Option (List β))
    (heq : ∀ k out (i : Int), g (k + 1) out i = if i < (xs.length : Int) then (if 0 ≤ i then ((f (xs.getD i.toNat z)).bind fun b => (if i < (out.length : Int) then (g k (out.set i.toNat (mk b)) (wrap64 (i + 1))) else none)) else none) else some out)
    (hf : ∀ a, ∃ b, f a = some b ∧ mk b = conv a) (d : Nat) :
    ∀ (i : Nat) (out : List β), i + d = xs.length → out.length = xs.length → Er (fun k => g k out i) (out.take i ++ (xs.drop i).map conv) := by
  induction d with
  | zero =>
    intro i out hi ho
    refine Er.step (fun k => heq k out i) (Er.neg (by omega) (Er.some.val ?_))
    rw [List.take_of_length_le (by omega), List.drop_of_length_le (by omega)]
    simp
  | succ d ih =>
    intro i out hi ho
    have e2 : wrap64 ((i : Int) + 1) = ((i + 1 : Nat) : Int) := by rw [w64 (by omega) (by omega)]; omega
    obtain ⟨b, hb, hm⟩ := hf (xs.getD i z)
    refine Er.step (fun k => heq k out i) (Er.pos (by omega) (Er.pos (by omega) (Er.bindc (by rw [Int.toNat_natCast]; exact hb) (Er.pos (by omega) ?_))))
    rw [e2, Int.toNat_natCast]
    refine (ih (i + 1) (out.set i (mk b)) (by omega) (by rw [List.length_set]; exact ho)).val ?_
    rw [drop_getD xs z i (by omega), List.map_cons, ← hm]
    rw [List.take_succ_eq_append_getElem (by rw [List.length_set]; omega), List.getElem_set_self, List.take_set_of_le (Nat.le_refl _), List.append_assoc]
    rfl
/-- 'eqXS' of a list and itself. -/
theorem eq_loop {α : Type} (z : α) (xs : List α) (hx : xs.length ≤ 4611686018427387904) (f : α → α → Option Bool) (g : Nat → Int → Option Bool)
    (heq : ∀ k (i : Int), g (k + 1) i = if i < (xs.length : Int) then (if 0 ≤ i then (if i < (xs.length : Int) then ((f (xs.getD i.toNat z) (xs.getD i.toNat z)).bind fun t => (if t = true then (g k (wrap64 (i + 1))) else (some false))) else none) else none) else some true)
    (hf : ∀ a, f a a = some true) (d : Nat) : ∀ i : Nat, i + d = xs.length → Er (fun k => g k i) true := by
  induction d with
  | zero => intro i hi; exact Er.step (fun k => heq k i) (Er.neg (by omega) Er.some)
  | succ d ih =>
    intro i hi
    have e2 : wrap64 ((i : Int) + 1) = ((i + 1 : Nat) : Int) := by rw [w64 (by omega) (by omega)]; omega
    exact Er.step (fun k => heq k i) (Er.pos (by omega) (Er.pos (by omega) (Er.pos (by omega) (Er.bindc (hf _) (Er.pos (by rfl) (by rw [e2]; exact ih (i + 1) (by omega)))))))

end Go.Proofs.Ytpgnbcemdkgjgaa.Fc
namespace Go.Proofs.Ytpgnbcemdkgjgaa.Pure
open Go Go.RowKit Go.Proofs.Ytpgnbcemdkgjgaa.PFnRoll Go.Proofs.YtpgnbcemdkgjgaaW.PrintWords Go.Proofs.YtpgnbcemdkgjgaaW.PrintLast Go.Proofs.YtpgnbcemdkgjgaaW.PrintMore Go.Proofs.Ytpgnbcemdkgjgaa.Fc
theorem bt_nb (s : ByteArray) (i : Int) : bt s i = (nb s).getD i.toNat 0 := by
  unfold bt nb
  split
  · rename_i h
    have h' : i.toNat < s.data.toList.length := by rw [Array.length_toList]; exact h
    rw [List.getD_eq_getElem?_getD, List.getElem?_map, List.getElem?_eq_getElem h']
    simp only [Option.map_some, Option.getD_some, Array.getElem_toList]
    rfl
  · rename_i h
    have h' : s.data.toList.length ≤ i.toNat := by rw [Array.length_toList]; exact Nat.le_of_not_lt h
    rw [List.getD_eq_getElem?_getD, List.getElem?_map, List.getElem?_eq_none h']
    rfl
theorem bt_01 (s : ByteArray) (i : Int) : 0 ≤ bt s i ∧ bt s i ≤ 255 := bt_range s i
theorem getD_bt' (s : ByteArray) (i : Nat) : (nb s).getD i 0 = bt s i := by rw [bt_nb]; rfl
theorem drop_bt (s : ByteArray) (i : Nat) (h : i < s.size) : (nb s).drop i = bt s i :: (nb s).drop (i + 1) := by
  rw [List.drop_eq_getElem_cons (by rw [nb_length]; exact h), bt_nb]
  simp [List.getD_eq_getElem?_getD, List.getElem?_eq_getElem (show i < (nb s).length by rw [nb_length]; exact h)]

theorem within_eq (a b c : Int) : impl_within.f a b c = some (decide (b ≤ a ∧ a ≤ c)) := by
  unfold impl_within.f
  split <;> simp [*]

/-! ### weak sums -/
def asum (l : List Int) : Int := l.foldr (· + ·) 0
def bsum : List Int → Int
  | [] => 0
  | x :: xs => (xs.length + 1) * x + bsum xs
def wsum (l : List Int) : Int := (bsum l % 65536) * 65536 + asum l % 65536
theorem asum_append (u v : List Int) : asum (u ++ v) = asum u + asum v := by
  induction u with
  | nil => simp [asum]
  | cons x xs ih => simp only [asum, List.cons_append, List.foldr_cons] at *; rw [ih]; omega
theorem asum_cons (x : Int) (l : List Int) : asum (x :: l) = x + asum l := rfl
theorem bsum_append (u v : List Int) : bsum (u ++ v) = bsum u + v.length * asum u + bsum v := by
  induction u with
  | nil => simp [bsum, asum]
  | cons x xs ih =>
    simp only [List.cons_append, bsum, asum_cons, List.length_append]
    rw [ih]
    push_cast
    grind
theorem bsum_snoc (u : List Int) (x : Int) : bsum (u ++ [x]) = bsum u + asum u + x := by
  rw [bsum_append]; simp [bsum]
theorem asum_snoc (u : List Int) (x : Int) : asum (u ++ [x]) = asum u + x := by
  rw [asum_append]; simp [asum]
theorem wsum_range (l : List Int) : 0 ≤ wsum l ∧ wsum l < 4294967296 := by unfold wsum; omega
theorem asum_le (l : List Int) (h : ∀ x ∈ l, 0 ≤ x ∧ x ≤ 255) : 0 ≤ asum l ∧ asum l ≤ 255 * l.length := by
  induction l with
  | nil => simp [asum]
  | cons x xs ih =>
    have h1 := h x (by simp)
    have h2 := ih (fun y hy => h y (by simp [hy]))
    rw [asum_cons]; simp only [List.length_cons]; omega
theorem bsum_le (n : Nat) (l : List Int) (hl : l.length ≤ n) (h : ∀ x ∈ l, 0 ≤ x ∧ x ≤ 255) : 0 ≤ bsum l ∧ bsum l ≤ 255 * (n : Int) * l.length := by
  induction l with
  | nil => simp [bsum]
  | cons x xs ih =>
    have h1 := h x (by simp)
    have h2 := ih (by simp at hl; omega) (fun y hy => h y (by simp [hy]))
    simp only [bsum, List.length_cons] at *
    have h3 : ((xs.length : Int) + 1) * x ≤ (n : Int) * 255 := Int.mul_le_mul (by omega) h1.2 h1.1 (by omega)
    have h4 : 0 ≤ ((xs.length : Int) + 1) * x := Int.mul_nonneg (by omega) h1.1
    push_cast
    generalize ((xs.length : Int) + 1) * x = p at *
    have e : 255 * (n : Int) * ((xs.length : Int) + 1) = 255 * (n : Int) * xs.length + (n : Int) * 255 := by grind
    rw [e]
    generalize 255 * (n : Int) * (xs.length : Int) = q at *
    omega
theorem and_16 (x : Int) : Go.bits .and .i64 x 65535 = x % 65536 := by
  have e : Go.bits .and .i64 x 65535 = IntKind.i64.wrap (((BitVec.ofInt 64 x &&& BitVec.ofInt 64 65535).toNat : Nat) : Int) := rfl
  rw [e, BitVec.toNat_and]
  have e1 : (BitVec.ofInt 64 (65535 : Int)).toNat = 2 ^ 16 - 1 := by decide
  rw [e1, Nat.and_two_pow_sub_one_eq_mod, BitVec.toNat_ofInt, IntKind.wrap_i64]
  have e2 : ((x % ((2 ^ 64 : Nat) : Int)).toNat : Int) = x % 18446744073709551616 := by
    rw [Int.toNat_of_nonneg (Int.emod_nonneg _ (by decide))]
    rfl
  have e3 : ((((x % ((2 ^ 64 : Nat) : Int)).toNat % 2 ^ 16 : Nat)) : Int) = (x % 18446744073709551616) % 65536 := by
    rw [Int.natCast_emod, e2]; rfl
  rw [e3]
  omega
theorem and_16u (x : Int) (h0 : 0 ≤ x) (h1 : x < 4294967296) : Go.bits .and .u32 x 65535 = x % 65536 := by
  have := bits_mask .u32 32 (by decide) (fun n h0 h1 => by rw [IntKind.wrap_u32]; omega) 16 (by decide) x h0 h1
  exact this
theorem weak_eq (a b : Int) : impl_weak.f a b = some ((b % 65536) * 65536 + a % 65536) := by
  unfold impl_weak.f
  rw [and_16, and_16]
  have e1 : b % 65536 % 4294967296 = b % 65536 := by omega
  have e2 : a % 65536 % 4294967296 = a % 65536 := by omega
  have e3 : b % 65536 * 65536 % 4294967296 = b % 65536 * 65536 := by omega
  rw [e1, e2, e3]
  have p16 : (2 : Int) ^ 16 = 65536 := by decide
  have p32 : (2 : Int) ^ 32 = 4294967296 := by decide
  rw [bits_join .u32 32 (by decide) (fun n h0 h1 => by rw [IntKind.wrap_u32]; omega) 16 _ _ (by omega) (by rw [p16]; omega) (by rw [p32]; omega) (by omega) (by rw [p16]; omega) (by rw [p32]; omega)]
theorem halves_eq (w : Int) (h0 : 0 ≤ w) (h1 : w < 4294967296) : impl_halves.f w = some (w % 65536, w / 65536) := by
  unfold impl_halves.f
  rw [and_16u w h0 h1, w64 (by omega) (by omega), w64 (by omega) (by omega)]
theorem take_snoc (s : ByteArray) (i : Nat) (h : i < s.size) : (nb s).take (i + 1) = (nb s).take i ++ [bt s i] := by
  rw [List.take_succ_eq_append_getElem (by rw [nb_length]; exact h), bt_nb]
  simp [List.getD_eq_getElem?_getD, List.getElem?_eq_getElem (show i < (nb s).length by rw [nb_length]; exact h)]
theorem nb_take_range (s : ByteArray) (i : Nat) : ∀ x ∈ (nb s).take i, 0 ≤ x ∧ x ≤ 255 := fun x hx => nb_range s x (List.mem_of_mem_take hx)
theorem weakOf_l0 (s : ByteArray) (hs : s.size ≤ 20000) (d : Nat) : ∀ i : Nat, i + d = s.size → Er (fun k => impl_weakOf.l0 k s (asum ((nb s).take i)) (bsum ((nb s).take i)) s.size i) (wsum (nb s)) := by
  induction d with
  | zero =>
    intro i hi
    refine Er.step (fun k => rfl) (Er.neg (by omega) (Er.bindc (weak_eq _ _) (Er.some.val ?_)))
    rw [List.take_of_length_le (by rw [nb_length]; omega)]; rfl
  | succ d ih =>
    intro i hi
    have e2 : wrap64 ((i : Int) + 1) = ((i + 1 : Nat) : Int) := by rw [w64 (by omega) (by omega)]; omega
    have hb := bt_01 s i
    have ha := asum_le ((nb s).take i) (nb_take_range s i)
    have hbs := bsum_le 20000 ((nb s).take i) (by rw [List.length_take, nb_length]; omega) (nb_take_range s i)
    have hl : ((nb s).take i).length ≤ 20000 := by rw [List.length_take, nb_length]; omega
    have next := ih (i + 1) (by omega)
    rw [take_snoc s i (by omega), asum_snoc, bsum_snoc] at next
    refine Er.step (fun k => rfl) (Er.pos (by omega) (Er.pos (by omega) (Er.pos (by omega) ?_)))
    rw [e2, w64 (x := bt s i) (by omega) (by omega), w64 (x := asum ((nb s).take i) + bt s i) (by omega) (by omega), w64 (by omega) (by omega), show bsum ((nb s).take i) + (asum ((nb s).take i) + bt s i) = bsum ((nb s).take i) + asum ((nb s).take i) + bt s i by omega]
    exact next
theorem weakOf_ev (s : ByteArray) (hs : s.size ≤ 20000) : Er (fun k => impl_weakOf.f k s) (wsum (nb s)) := by
  have := weakOf_l0 s hs s.size 0 (by omega)
  exact this
theorem WeakOf_ev (s : ByteArray) (hs : s.size ≤ 20000) : Er (fun k => impl_WeakOf.f k s) (wsum (nb s)) := by
  unfold impl_WeakOf.f
  exact Er.neg (by omega) (Er.bind (weakOf_ev s hs) Er.some)
theorem roll_eq (x y : Int) (m : List Int) (n : Int) (hn : n = m.length + 1) (hm : ∀ z ∈ m, 0 ≤ z ∧ z ≤ 255) (hl : m.length ≤ 20000) (hx : 0 ≤ x ∧ x ≤ 255) (hy : 0 ≤ y ∧ y ≤ 255) :
    impl_roll.f (wsum (x :: m)) n x y = some (wsum (m ++ [y])) := by
  have hw := wsum_range (x :: m)
  unfold impl_roll.f
  rw [halves_eq _ hw.1 hw.2, Option.bind_some]
  have ha := asum_le m hm
  have hb := bsum_le 20000 m hl hm
  have e1 : wsum (x :: m) % 65536 = (x + asum m) % 65536 := by unfold wsum; rw [asum_cons]; omega
  have e2 : wsum (x :: m) / 65536 = (n * x + bsum m) % 65536 := by
    have : bsum (x :: m) = (m.length + 1) * x + bsum m := rfl
    unfold wsum; rw [this, hn]; omega
  have hnx : 0 ≤ n * x := Int.mul_nonneg (by omega) hx.1
  have hnx2 : n * x ≤ 20001 * 255 := Int.mul_le_mul (by omega) hx.2 hx.1 (by omega)
  dsimp only
  rw [e1, e2]
  rw [w64 (x := y - x) (by omega) (by omega), w64 (x := n * x) (by omega) (by omega)]
  rw [w64 (x := (x + asum m) % 65536 + (y - x)) (by omega) (by omega)]
  rw [w64 (x := (n * x + bsum m) % 65536 - n * x) (by omega) (by omega)]
  rw [w64 (by omega) (by omega)]
  rw [weak_eq, Option.bind_some]
  unfold wsum
  rw [asum_snoc, bsum_snoc]
  generalize n * x = p at *
  generalize asum m = a at *
  generalize bsum m = b at *
  congr 1
  omega
theorem join_eq (u v : List Int) (hu : ∀ z ∈ u, 0 ≤ z ∧ z ≤ 255) (hv : ∀ z ∈ v, 0 ≤ z ∧ z ≤ 255) (hul : u.length ≤ 20000) (hvl : v.length ≤ 20000) :
    impl_WeakJoin.f (wsum u) (wsum v) v.length = some (wsum (u ++ v)) := by
  have h1 := wsum_range u
  have h2 := wsum_range v
  have ha := asum_le u hu
  unfold impl_WeakJoin.f
  rw [within_eq, Option.bind_some, if_pos (by rw [decide_eq_true_iff]; omega), halves_eq _ h1.1 h1.2, Option.bind_some, halves_eq _ h2.1 h2.2, Option.bind_some]
  have e1 : wsum u % 65536 = asum u % 65536 := by unfold wsum; omega
  have e2 : wsum u / 65536 = bsum u % 65536 := by unfold wsum; omega
  have e3 : wsum v % 65536 = asum v % 65536 := by unfold wsum; omega
  have e4 : wsum v / 65536 = bsum v % 65536 := by unfold wsum; omega
  have hp0 : 0 ≤ (v.length : Int) * (asum u % 65536) := Int.mul_nonneg (by omega) (by omega)
  have hp1 : (v.length : Int) * (asum u % 65536) ≤ 20000 * 65536 := Int.mul_le_mul (by omega) (by omega) (by omega) (by omega)
  dsimp only
  rw [e1, e2, e3, e4]
  rw [w64 (x := asum u % 65536 + asum v % 65536) (by omega) (by omega), w64 (x := bsum u % 65536 + bsum v % 65536) (by omega) (by omega), w64 (x := (v.length : Int) * (asum u % 65536)) (by omega) (by omega), w64 (by omega) (by omega), weak_eq, Option.bind_some]
  unfold wsum
  rw [asum_append, bsum_append]
  have hq : ∃ q, (v.length : Int) * asum u = (v.length : Int) * (asum u % 65536) + 65536 * q := ⟨(v.length : Int) * (asum u / 65536), by
    have := Int.mul_ediv_add_emod (asum u) 65536
    generalize asum u / 65536 = t at *
    generalize asum u % 65536 = r at *
    rw [← this]; grind⟩
  obtain ⟨q, hq⟩ := hq
  rw [hq]
  generalize (v.length : Int) * (asum u % 65536) = p at *
  congr 1
  omega
theorem specWeak_l0 (s : ByteArray) (hs : s.size ≤ 20000) (d : Nat) : ∀ (i : Nat) (b : Int), i + d = s.size → 0 ≤ b → b + bsum ((nb s).drop i) = bsum (nb s) → Er (fun k => spec_WeakOf.l0 k s (asum ((nb s).take i)) b i) (wsum (nb s)) := by
  have hbs := bsum_le 20000 (nb s) (by rw [nb_length]; omega) (nb_range s)
  have hl : (nb s).length ≤ 20000 := by rw [nb_length]; omega
  induction d with
  | zero =>
    intro i b hi h0 hb
    rw [List.drop_of_length_le (by rw [nb_length]; omega)] at hb
    have ha := asum_le (nb s) (nb_range s)
    refine Er.step (fun k => rfl) (Er.neg (by omega) (Er.bindc rfl (Er.some.val ?_)))
    rw [List.take_of_length_le (by rw [nb_length]; omega)]
    simp only [bsum, Int.add_zero] at hb
    rw [hb]
    unfold wsum
    have t1 : ∀ x : Int, 0 ≤ x → Int.tmod x 65536 = x % 65536 := fun x hx => Int.tmod_eq_emod_of_nonneg hx
    rw [t1 _ hbs.1, t1 _ ha.1, w64 (x := bsum (nb s) % 65536 + 65536) (by omega) (by omega), w64 (x := asum (nb s) % 65536 + 65536) (by omega) (by omega), t1 _ (by omega), t1 _ (by omega)]
    rw [w64 (x := (bsum (nb s) % 65536 + 65536) % 65536 * 65536) (by omega) (by omega), w64 (by omega) (by omega)]
    omega
  | succ d ih =>
    intro i b hi h0 hb
    have e2 : wrap64 ((i : Int) + 1) = ((i + 1 : Nat) : Int) := by rw [w64 (by omega) (by omega)]; omega
    have hbt := bt_01 s i
    have ha := asum_le ((nb s).take i) (nb_take_range s i)
    have hl2 : ((nb s).take i).length ≤ 20000 := by rw [List.length_take, nb_length]; omega
    have hdr := bsum_le 20000 ((nb s).drop (i + 1)) (by rw [List.length_drop, nb_length]; omega) (fun x hx => nb_range s x (List.mem_of_mem_drop hx))
    rw [drop_bt s i (by omega), bsum, List.length_drop, nb_length] at hb
    have e5 : (((s.size - (i + 1) : Nat) : Int) + 1) = (s.size : Int) - i := by omega
    rw [e5] at hb
    have hp0 : 0 ≤ ((s.size : Int) - i) * bt s i := Int.mul_nonneg (by omega) hbt.1
    have hp1 : ((s.size : Int) - i) * bt s i ≤ 20000 * 255 := Int.mul_le_mul (by omega) hbt.2 hbt.1 (by omega)
    have next := ih (i + 1) (b + ((s.size : Int) - i) * bt s i) (by omega) (by omega) (by omega)
    rw [take_snoc s i (by omega), asum_snoc] at next
    refine Er.step (fun k => rfl) (Er.pos (by omega) (Er.pos (by omega) ?_))
    rw [e2, w64 (x := bt s i) (by omega) (by omega), w64 (x := asum ((nb s).take i) + bt s i) (by omega) (by omega), w64 (x := (s.size : Int) - i) (by omega) (by omega), w64 (x := ((s.size : Int) - i) * bt s i) (by omega) (by omega), w64 (by omega) (by omega)]
    exact next
theorem specWeak_ev (s : ByteArray) (hs : s.size ≤ 20000) : Er (fun k => spec_WeakOf.f k s) (wsum (nb s)) := by
  unfold spec_WeakOf.f
  refine Er.neg (by omega) ?_
  have := specWeak_l0 s hs s.size 0 0 (by omega) (by omega) (by simp)
  exact this

/-! ### the cursor of a draw -/
theorem and_mask (x : Int) (m : Nat) (hm : m < 9223372036854775808) : 0 ≤ Go.bits .and .i64 x (m : Int) ∧ Go.bits .and .i64 x (m : Int) ≤ (m : Int) := by
  have h : (BitVec.ofInt 64 x &&& BitVec.ofInt 64 (m : Int)).toNat ≤ m := by
    rw [BitVec.toNat_and]
    refine Nat.le_trans Nat.and_le_right ?_
    rw [BitVec.ofInt_natCast, BitVec.toNat_ofNat]
    exact Nat.mod_le _ _
  have e : Go.bits .and .i64 x (m : Int) = IntKind.i64.wrap (((BitVec.ofInt 64 x &&& BitVec.ofInt 64 (m : Int)).toNat : Nat) : Int) := rfl
  rw [e, IntKind.wrap_i64]
  generalize (BitVec.ofInt 64 x &&& BitVec.ofInt 64 (m : Int)).toNat = z at *
  omega
theorem and_255 (x : Int) : 0 ≤ Go.bits .and .i64 x 255 ∧ Go.bits .and .i64 x 255 ≤ 255 := and_mask x 255 (by decide)
def Cur (c : List Int) (i : Int) : Prop := 0 ≤ i ∧ i ≤ c.length
theorem byte_ok (c : List Int) (hc : c.length ≤ 4611686018427387904) (i h : Int) (hi : Cur c i) : ∃ b i' h', spec_l01Byte.f c i h = some (b, i', h') ∧ (0 ≤ b ∧ b ≤ 255) ∧ Cur c i' := by
  obtain ⟨h0, h1⟩ := hi
  unfold spec_l01Byte.f
  by_cases hlt : i < (c.length : Int)
  · rw [if_pos hlt, if_pos h0, w64 (x := i + 1) (by omega) (by omega)]
    exact ⟨_, _, _, rfl, and_255 _, by unfold Cur; omega⟩
  · rw [if_neg hlt]
    exact ⟨_, _, _, rfl, and_255 _, h0, h1⟩
theorem below_ok (c : List Int) (hc : c.length ≤ 4611686018427387904) (n i h : Int) (hi : Cur c i) : ∃ r i' h', spec_l01Below.f c i h n = some (r, i', h') ∧ (n ≤ 0 → r = 0) ∧ (0 < n → 0 ≤ r ∧ r < n) ∧ Cur c i' := by
  unfold spec_l01Below.f
  by_cases h0 : n ≤ 0
  · rw [if_pos h0]; exact ⟨_, _, _, rfl, fun _ => rfl, fun h => by omega, hi⟩
  · rw [if_neg h0]
    by_cases h1 : n ≤ 256
    · rw [if_pos h1]
      obtain ⟨b, i1, h1', e, hb, hi1⟩ := byte_ok c hc i h hi
      rw [e, Option.bind_some, if_neg (by omega)]
      exact ⟨_, _, _, rfl, fun h => by omega, fun _ => ⟨by rw [Int.tmod_eq_emod_of_nonneg hb.1]; exact Int.emod_nonneg _ (by omega), by rw [Int.tmod_eq_emod_of_nonneg hb.1]; exact Int.emod_lt_of_pos _ (by omega)⟩, hi1⟩
    · rw [if_neg h1]
      obtain ⟨b1, i1, h1', e1, hb1, hi1⟩ := byte_ok c hc i h hi
      rw [e1, Option.bind_some]
      obtain ⟨b2, i2, h2', e2, hb2, hi2⟩ := byte_ok c hc i1 h1' hi1
      rw [e2, Option.bind_some]
      obtain ⟨b3, i3, h3', e3, hb3, hi3⟩ := byte_ok c hc i2 h2' hi2
      rw [e3, Option.bind_some]
      obtain ⟨b4, i4, h4', e4, hb4, hi4⟩ := byte_ok c hc i3 h3' hi3
      rw [e4, Option.bind_some, if_neg (by omega)]
      have z : wrap64 (wrap64 (wrap64 (wrap64 (b1 * 16777216) + wrap64 (b2 * 65536)) + wrap64 (b3 * 256)) + b4) = b1 * 16777216 + b2 * 65536 + b3 * 256 + b4 := by
        rw [w64 (x := b1 * 16777216) (by omega) (by omega), w64 (x := b2 * 65536) (by omega) (by omega), w64 (x := b3 * 256) (by omega) (by omega), w64 (x := b1 * 16777216 + b2 * 65536) (by omega) (by omega), w64 (x := b1 * 16777216 + b2 * 65536 + b3 * 256) (by omega) (by omega), w64 (by omega) (by omega)]
      rw [z]
      generalize hq : b1 * 16777216 + b2 * 65536 + b3 * 256 + b4 = q
      have hq0 : 0 ≤ q := by omega
      exact ⟨_, _, _, rfl, fun h => by omega, fun _ => ⟨by rw [Int.tmod_eq_emod_of_nonneg hq0]; exact Int.emod_nonneg _ (by omega), by rw [Int.tmod_eq_emod_of_nonneg hq0]; exact Int.emod_lt_of_pos _ (by omega)⟩, hi4⟩
theorem rdNew_l0 (c : List Int) (hc : c.length ≤ 4611686018427387904) (d : Nat) : ∀ (i : Nat) (x : Int), i + d = c.length → ∃ h, Er (fun k => spec_l01New.l0 k c x i) (c, 0, h) := by
  induction d with
  | zero => intro i x hi; exact ⟨_, Er.step (fun k => rfl) (Er.neg (by omega) Er.some)⟩
  | succ d ih =>
    intro i x hi
    have e2 : wrap64 ((i : Int) + 1) = ((i + 1 : Nat) : Int) := by rw [w64 (by omega) (by omega)]; omega
    by_cases h4 : i < 4000
    · obtain ⟨h, hh⟩ := ih (i + 1) (Go.bits .and .i64 (wrap64 ((wrap64 ((wrap64 (x * 131)) + (wrap64 (rd c i)))) + 7)) 1073741823) (by omega)
      exact ⟨h, Er.step (fun k => rfl) (Er.pos (by omega) (Er.pos (by omega) (Er.pos (by omega) (by rw [e2]; exact hh))))⟩
    · exact ⟨_, Er.step (fun k => rfl) (Er.pos (by omega) (Er.neg (by omega) Er.some))⟩
theorem new_ok (c : List Int) (hc : c.length ≤ 4611686018427387904) : ∃ h, Er (fun k => spec_l01New.f k c) (c, 0, h) :=
  rdNew_l0 c hc c.length 0 _ (by omega)
theorem cur0 (c : List Int) : Cur c 0 := ⟨by omega, by omega⟩

/-! ### a drawn text ends: the numbers behind a draw come to every state -/
def bv (h : Int) : Int := Go.bits .and .i64 (Go.bits .xor .i64 (nx h / 8589934592) (nx h / 35184372088832)) 255
theorem byte_end (c : List Int) (h : Int) : spec_l01Byte.f c c.length h = some (bv h, (c.length : Int), nx h) := by
  unfold spec_l01Byte.f
  rw [if_neg (by omega)]
  rfl
theorem byte_move (c : List Int) (hc : c.length ≤ 4611686018427387904) (i h b i' h' : Int) (hi : Cur c i) (hlt : i < c.length) (e : spec_l01Byte.f c i h = some (b, i', h')) : i < i' := by
  unfold spec_l01Byte.f at e
  rw [if_pos hlt, if_pos hi.1, w64 (x := i + 1) (by have := hi.1; have := hi.2; omega) (by have := hi.1; have := hi.2; omega)] at e
  simp only [Option.some.injEq, Prod.mk.injEq] at e
  omega
theorem byte_keep (c : List Int) (hc : c.length ≤ 4611686018427387904) (i h b i' h' : Int) (hi : Cur c i) (e : spec_l01Byte.f c i h = some (b, i', h')) : i ≤ i' := by
  by_cases hlt : i < (c.length : Int)
  · have := byte_move c hc i h b i' h' hi hlt e; omega
  · have : i = c.length := by have := hi.2; omega
    subst this
    rw [byte_end] at e
    simp only [Option.some.injEq, Prod.mk.injEq] at e
    omega
theorem below_move (c : List Int) (hc : c.length ≤ 4611686018427387904) (n i h r i' h' : Int) (hi : Cur c i) (hn : 0 < n) (e : spec_l01Below.f c i h n = some (r, i', h')) : i ≤ i' ∧ (i < c.length → i < i') := by
  unfold spec_l01Below.f at e
  rw [if_neg (by omega)] at e
  obtain ⟨b1, i1, h1, e1, _, c1⟩ := byte_ok c hc i h hi
  have k1 := byte_keep c hc i h b1 i1 h1 hi e1
  have m1 := fun hl => byte_move c hc i h b1 i1 h1 hi hl e1
  rw [e1] at e
  by_cases h1' : n ≤ 256
  · rw [if_pos h1', Option.bind_some, if_neg (by omega)] at e
    simp only [Option.some.injEq, Prod.mk.injEq] at e
    omega
  · obtain ⟨b2, i2, h2, e2, _, c2⟩ := byte_ok c hc i1 h1 c1
    have k2 := byte_keep c hc _ _ _ _ _ c1 e2
    obtain ⟨b3, i3, h3, e3, _, c3⟩ := byte_ok c hc i2 h2 c2
    have k3 := byte_keep c hc _ _ _ _ _ c2 e3
    obtain ⟨b4, i4, h4, e4, _, c4⟩ := byte_ok c hc i3 h3 c3
    have k4 := byte_keep c hc _ _ _ _ _ c3 e4
    rw [if_neg h1', Option.bind_some] at e
    simp only [e2, e3, e4, Option.bind_some] at e
    rw [if_neg (by omega)] at e
    simp only [Option.some.injEq, Prod.mk.injEq] at e
    omega
theorem below_end1 (c : List Int) (n h : Int) (h0 : 0 < n) (h1 : n ≤ 256) : spec_l01Below.f c c.length h n = some (Int.tmod (bv h) n, (c.length : Int), nx h) := by
  unfold spec_l01Below.f
  rw [if_neg (by omega), if_pos h1, byte_end, Option.bind_some, if_neg (by omega)]
theorem below_end4 (c : List Int) (n h : Int) (h1 : ¬ n ≤ 256) : ∃ r, spec_l01Below.f c c.length h n = some (r, (c.length : Int), nx (nx (nx (nx h)))) := by
  unfold spec_l01Below.f
  rw [if_neg (by omega), if_neg h1, byte_end, Option.bind_some]
  simp only [byte_end, Option.bind_some]
  rw [if_neg (by omega)]
  exact ⟨_, rfl⟩
/-- The text's loop ends at these: an answer of n bytes. -/
def Fin (c : List Int) (n : Nat) (out : List Int) (i h : Int) : Prop := ∃ s i' h', Er (fun k => spec_l01Text.l0 k n out c i h) (s, i', h') ∧ s.size = n ∧ Cur c i'
/-- One round without a byte more: the cursor is behind where it was; at its end it has moved by one, three or six. -/
def Next (c : List Int) (i h i' h' : Int) : Prop :=
  (i < c.length → i < i') ∧ (i = c.length → i' = c.length ∧ (Int.tmod (bv h) 5 = 1 ∨ Int.tmod (bv h) 5 = 2) ∧ (h' = it nx 1 h ∨ h' = it nx 3 h ∨ h' = it nx 6 h))
theorem text_l1 (c : List Int) (n : Nat) (x : Int) (i h : Int) (m : Int) (d : Nat) : ∀ (out : List Int) (j : Nat), j + d = m → m ≤ 100 → out.length + d ≤ 2000000 →
    Fin c n (out ++ List.replicate d x) i h → ∃ s i' h', Er (fun k => spec_l01Text.l1 k n out m x j c i h) (s, i', h') ∧ s.size = n ∧ Cur c i' := by
  induction d with
  | zero =>
    intro out j hj hm hl hf
    obtain ⟨s, i', h', e, z⟩ := hf
    exact ⟨s, i', h', Er.step (fun k => rfl) (Er.neg (by omega) (by simpa using e)), z⟩
  | succ d ih =>
    intro out j hj hm hl hf
    have e2 : wrap64 ((j : Int) + 1) = ((j + 1 : Nat) : Int) := by rw [w64 (by omega) (by omega)]; omega
    obtain ⟨s, i', h', e, z⟩ := ih (out ++ [x]) (j + 1) (by omega) hm (by simp; omega) (by rw [List.append_assoc]; exact hf)
    exact ⟨s, i', h', Er.step (fun k => rfl) (Er.pos (by omega) (Er.pos (by omega) (by rw [e2]; exact e))), z⟩
theorem text_l2 (c : List Int) (n : Nat) (from_ m : Int) (i h : Int) (d : Nat) : ∀ (out : List Int) (j : Nat), j + d = m → 0 ≤ from_ → m ≤ 100 → from_ + j < out.length → out.length + d ≤ 2000000 →
    (∀ out' : List Int, out'.length = out.length + d → Fin c n out' i h) → ∃ s i' h', Er (fun k => spec_l01Text.l2 k n out from_ m j c i h) (s, i', h') ∧ s.size = n ∧ Cur c i' := by
  induction d with
  | zero =>
    intro out j hj h0 hm hf hl hr
    obtain ⟨s, i', h', e, z⟩ := hr out rfl
    exact ⟨s, i', h', Er.step (fun k => rfl) (Er.neg (by omega) e), z⟩
  | succ d ih =>
    intro out j hj h0 hm hf hl hr
    have e2 : wrap64 ((j : Int) + 1) = ((j + 1 : Nat) : Int) := by rw [w64 (by omega) (by omega)]; omega
    have e3 : wrap64 (from_ + j) = from_ + j := w64 (by omega) (by omega)
    obtain ⟨s, i', h', e, z⟩ := ih (out ++ [rd out (from_ + j)]) (j + 1) (by omega) h0 hm (by simp; omega) (by simp; omega) (fun out' ho => hr out' (by simp at ho; omega))
    exact ⟨s, i', h', Er.step (fun k => rfl) (Er.pos (by omega) (by rw [e3]; exact Er.pos (by omega) (Er.pos (by omega) (Er.pos (by omega) (by rw [e2]; exact e))))), z⟩
theorem text_round (c : List Int) (hc : c.length ≤ 4611686018427387904) (n : Nat) (hn : n ≤ 1000000) (out : List Int) (i h : Int) (hi : Cur c i) (hlt : out.length < n)
    (grow : ∀ (out' : List Int) i' h', out.length < out'.length → out'.length ≤ n + 30 → Cur c i' → Fin c n out' i' h')
    (next : ∀ i' h', Cur c i' → Next c i h i' h' → Fin c n out i' h') : Fin c n out i h := by
  obtain ⟨r, i1, h1, e1, _, hr, c1⟩ := below_ok c hc 5 i h hi
  obtain ⟨r0, r1⟩ := hr (by omega)
  have m1 := below_move c hc 5 i h r i1 h1 hi (by omega) e1
  have en : i = (c.length : Int) → r = Int.tmod (bv h) 5 ∧ i1 = c.length ∧ h1 = nx h := by
    intro hi'
    subst hi'
    rw [below_end1 c 5 h (by omega) (by omega)] at e1
    simp only [Option.some.injEq, Prod.mk.injEq] at e1
    exact ⟨e1.1.symm, e1.2.1.symm, e1.2.2.symm⟩
  have head : ∀ {s i' h'}, Er (fun k => if r = 0 then ((spec_l01Byte.f c i1 h1).bind fun bt130 => (if out.length < 140737488355328 then (spec_l01Text.l0 k n (out ++ [(bt130.1) % 256]) c bt130.2.1 bt130.2.2) else (none))) else (if r = 1 then ((spec_l01Below.f c i1 h1 9).bind fun bt136 => ((spec_l01Below.f c bt136.2.1 bt136.2.2 4).bind fun bt139 => (spec_l01Text.l1 k n out bt136.1 ((wrap64 (97 + bt139.1)) % 256) 0 c bt139.2.1 bt139.2.2))) else (if r = 2 then (if (out.length : Int) > 0 then ((spec_l01Below.f c i1 h1 (out.length : Int)).bind fun bt145 => ((spec_l01Below.f c bt145.2.1 bt145.2.2 20).bind fun bt148 => (spec_l01Text.l2 k n out bt145.1 bt148.1 0 c bt148.2.1 bt148.2.2))) else (spec_l01Text.l0 k n out c i1 h1)) else ((spec_l01Below.f c i1 h1 26).bind fun bt155 => (if out.length < 140737488355328 then (spec_l01Text.l0 k n (out ++ [(wrap64 (97 + bt155.1)) % 256]) c bt155.2.1 bt155.2.2) else (none)))))) (s, i', h') → Er (fun k => spec_l01Text.l0 k n out c i h) (s, i', h') :=
    fun z => Er.step (fun k => rfl) (Er.pos (by omega) (Er.bindc e1 z))
  by_cases q0 : r = 0
  · obtain ⟨b, i2, h2, e2, hb, c2⟩ := byte_ok c hc i1 h1 c1
    obtain ⟨s, i', h', e, z⟩ := grow (out ++ [b % 256]) i2 h2 (by simp) (by simp; omega) c2
    exact ⟨s, i', h', head (Er.pos q0 (Er.bindc e2 (Er.pos (by omega) e))), z⟩
  · by_cases q1 : r = 1
    · obtain ⟨m, i2, h2, e2, _, hm, c2⟩ := below_ok c hc 9 i1 h1 c1
      obtain ⟨m0, m9⟩ := hm (by omega)
      obtain ⟨x, i3, h3, e3, _, hx, c3⟩ := below_ok c hc 4 i2 h2 c2
      have k2 := below_move c hc 9 i1 h1 m i2 h2 c1 (by omega) e2
      have k3 := below_move c hc 4 i2 h2 x i3 h3 c2 (by omega) e3
      have all : Fin c n (out ++ List.replicate m.toNat ((wrap64 (97 + x)) % 256)) i3 h3 := by
        by_cases mz : m = 0
        · subst mz
          simp only [Int.toNat_zero, List.replicate_zero, List.append_nil]
          refine next i3 h3 c3 ⟨fun hl => by have := m1.2 hl; omega, fun hl => ?_⟩
          obtain ⟨en1, en2, en3⟩ := en hl
          subst en2
          rw [below_end1 c 9 h1 (by omega) (by omega)] at e2
          simp only [Option.some.injEq, Prod.mk.injEq] at e2
          obtain ⟨_, e2b, e2c⟩ := e2
          subst e2b
          rw [below_end1 c 4 h2 (by omega) (by omega)] at e3
          simp only [Option.some.injEq, Prod.mk.injEq] at e3
          refine ⟨e3.2.1.symm, .inl (by rw [← en1]; exact q1), .inr (.inl ?_)⟩
          rw [← e3.2.2, ← e2c, en3]; rfl
        · exact grow _ i3 h3 (by simp; omega) (by simp; omega) c3
      obtain ⟨s, i', h', e, z⟩ := text_l1 c n _ i3 h3 m m.toNat out 0 (by omega) (by omega) (by omega) all
      exact ⟨s, i', h', head (Er.neg q0 (Er.pos q1 (Er.bindc e2 (Er.bindc e3 e)))), z⟩
    · by_cases q2 : r = 2
      · by_cases ho : (out.length : Int) > 0
        · obtain ⟨f, i2, h2, e2, _, hf, c2⟩ := below_ok c hc out.length i1 h1 c1
          obtain ⟨f0, f1⟩ := hf (by omega)
          obtain ⟨m, i3, h3, e3, _, hm, c3⟩ := below_ok c hc 20 i2 h2 c2
          obtain ⟨m0, m9⟩ := hm (by omega)
          have k2 := below_move c hc _ i1 h1 f i2 h2 c1 (by omega) e2
          have k3 := below_move c hc 20 i2 h2 m i3 h3 c2 (by omega) e3
          have all : ∀ out' : List Int, out'.length = out.length + m.toNat → (m = 0 → out' = out) → Fin c n out' i3 h3 := by
            intro out' hl' hz
            by_cases mz : m = 0
            · rw [hz mz]
              refine next i3 h3 c3 ⟨fun hl => by have := m1.2 hl; omega, fun hl => ?_⟩
              obtain ⟨en1, en2, en3⟩ := en hl
              subst en2
              by_cases big : (out.length : Int) ≤ 256
              · rw [below_end1 c _ h1 (by omega) big] at e2
                simp only [Option.some.injEq, Prod.mk.injEq] at e2
                obtain ⟨_, e2b, e2c⟩ := e2
                subst e2b
                rw [below_end1 c 20 h2 (by omega) (by omega)] at e3
                simp only [Option.some.injEq, Prod.mk.injEq] at e3
                refine ⟨e3.2.1.symm, .inr (by rw [← en1]; exact q2), .inr (.inl ?_)⟩
                rw [← e3.2.2, ← e2c, en3]; rfl
              · obtain ⟨r4, e4⟩ := below_end4 c _ h1 big
                rw [e4] at e2
                simp only [Option.some.injEq, Prod.mk.injEq] at e2
                obtain ⟨_, e2b, e2c⟩ := e2
                subst e2b
                rw [below_end1 c 20 h2 (by omega) (by omega)] at e3
                simp only [Option.some.injEq, Prod.mk.injEq] at e3
                refine ⟨e3.2.1.symm, .inr (by rw [← en1]; exact q2), .inr (.inr ?_)⟩
                rw [← e3.2.2, ← e2c, en3]; rfl
            · exact grow _ i3 h3 (by omega) (by omega) c3
          by_cases mz : m = 0
          · obtain ⟨s, i', h', e, z⟩ := all out (by omega) (fun _ => rfl)
            subst mz
            refine ⟨s, i', h', head (Er.neg q0 (Er.neg q1 (Er.pos q2 (Er.pos ho (Er.bindc e2 (Er.bindc e3 ?_)))))), z⟩
            exact Er.step (fun k => rfl) (Er.neg (by dsimp only; omega) e)
          · obtain ⟨s, i', h', e, z⟩ := text_l2 c n f m i3 h3 m.toNat out 0 (by omega) f0 (by omega) (by omega) (by omega) (fun out' ho' => all out' ho' (fun hz => absurd hz mz))
            exact ⟨s, i', h', head (Er.neg q0 (Er.neg q1 (Er.pos q2 (Er.pos ho (Er.bindc e2 (Er.bindc e3 e)))))), z⟩
        · have : Fin c n out i1 h1 := by
            refine next i1 h1 c1 ⟨fun hl => m1.2 hl, fun hl => ?_⟩
            obtain ⟨en1, en2, en3⟩ := en hl
            exact ⟨en2, .inr (by rw [← en1]; exact q2), .inl en3⟩
          obtain ⟨s, i', h', e, z⟩ := this
          exact ⟨s, i', h', head (Er.neg q0 (Er.neg q1 (Er.pos q2 (Er.neg ho e)))), z⟩
      · obtain ⟨m, i2, h2, e2, _, hm, c2⟩ := below_ok c hc 26 i1 h1 c1
        obtain ⟨s, i', h', e, z⟩ := grow (out ++ [(wrap64 (97 + m)) % 256]) i2 h2 (by simp) (by simp; omega) c2
        exact ⟨s, i', h', head (Er.neg q0 (Er.neg q1 (Er.neg q2 (Er.bindc e2 (Er.pos (by omega) e))))), z⟩
theorem six : ∀ d : Nat, d < 6 → Int.tmod (bv (it nx d 33)) 5 ≠ 1 ∧ Int.tmod (bv (it nx d 33)) 5 ≠ 2 := by
  decide +kernel
theorem text_fin (c : List Int) (hc : c.length ≤ 4611686018427387904) (n : Nat) (hn : n ≤ 1000000) (d : Nat) : ∀ (out : List Int) (i h : Int), Cur c i → n ≤ out.length + d → out.length ≤ n + 30 → Fin c n out i h := by
  induction d with
  | zero =>
    intro out i h hi hl _
    refine ⟨_, _, _, Er.step (fun k => rfl) (Er.neg (by omega) (Er.pos (by omega) (Er.pos (by omega) Er.some))), ?_, hi⟩
    simp [strOfNums, ByteArray.size]
    omega
  | succ d ih =>
    intro out i h hi hl hu
    by_cases hlt : out.length < n
    · have grow : ∀ (out' : List Int) i' h', out.length < out'.length → out'.length ≤ n + 30 → Cur c i' → Fin c n out' i' h' :=
        fun out' i' h' h1 h2 h3 => ih out' i' h' h3 (by omega) h2
      have atEnd : ∀ h, Fin c n out c.length h := by
        intro h
        obtain ⟨N, hN⟩ := nx_reach h 33 (w64 (by omega) (by omega))
        have walk : ∀ q p : Nat, p + q = N + 6 → Fin c n out c.length (it nx p h) := by
          intro q
          induction q using Nat.strongRecOn with
          | _ q ihq =>
            intro p hp
            refine text_round c hc n hn out _ _ ⟨by omega, by omega⟩ hlt grow (fun i' h' ci hnext => ?_)
            obtain ⟨hi', hb, hh⟩ := hnext.2 rfl
            subst hi'
            by_cases hpN : p ≤ N
            · rcases hh with hh | hh | hh
              · rw [hh, ← it_add]; exact ihq (q - 1) (by omega) (p + 1) (by omega)
              · rw [hh, ← it_add]; exact ihq (q - 3) (by omega) (p + 3) (by omega)
              · rw [hh, ← it_add]; exact ihq (q - 6) (by omega) (p + 6) (by omega)
            · exfalso
              have e : it nx p h = it nx (p - (N + 1)) 33 := by
                conv => lhs; rw [show p = (N + 1) + (p - (N + 1)) by omega, it_add, hN]
              have := six (p - (N + 1)) (by omega)
              rw [← e] at this
              rcases hb with hb | hb
              · exact this.1 hb
              · exact this.2 hb
        exact walk (N + 6) 0 (by omega)
      have all : ∀ (q : Nat) (i h : Int), Cur c i → i + q = c.length → Fin c n out i h := by
        intro q
        induction q using Nat.strongRecOn with
        | _ q ihq =>
          intro i h ci hq
          by_cases hend : i = c.length
          · rw [hend]; exact atEnd h
          · refine text_round c hc n hn out i h ci hlt grow (fun i' h' ci' hnext => ?_)
            have hm := hnext.1 (by have := ci.2; omega)
            exact ihq (c.length - i').toNat (by have := ci'.2; omega) i' h' ci' (by have := ci'.2; omega)
      exact all (c.length - i).toNat i h hi (by have := hi.2; omega)
    · exact ih out i h hi (by omega) hu
theorem text_ok (c : List Int) (hc : c.length ≤ 4611686018427387904) (n i h : Int) (h0 : 0 ≤ n) (hn : n ≤ 1000000) (hi : Cur c i) : ∃ s i' h', Er (fun k => spec_l01Text.f k c i h n) (s, i', h') ∧ (s.size : Int) = n ∧ Cur c i' := by
  obtain ⟨m, rfl⟩ := Int.eq_ofNat_of_zero_le h0
  obtain ⟨s, i', h', e, z, ci⟩ := text_fin c hc m (by omega) m [] i h hi (by simp) (by simp)
  exact ⟨s, i', h', e, by omega, ci⟩

def piece (s : ByteArray) (n j : Nat) : List Int := ((nb s).drop j).take n
theorem piece_length (s : ByteArray) (n j : Nat) (h : j + n ≤ s.size) : (piece s n j).length = n := by
  unfold piece; rw [List.length_take, List.length_drop, nb_length]; omega
theorem piece_range (s : ByteArray) (n j : Nat) : ∀ x ∈ piece s n j, 0 ≤ x ∧ x ≤ 255 := fun x hx => nb_range s x (List.mem_of_mem_drop (List.mem_of_mem_take hx))
theorem piece_roll (s : ByteArray) (n j : Nat) (h : j + (n + 1) < s.size) : ∃ m, piece s (n + 1) j = bt s j :: m ∧ piece s (n + 1) (j + 1) = m ++ [bt s ((j + (n + 1) : Nat) : Int)] ∧ m.length = n ∧ ∀ z ∈ m, 0 ≤ z ∧ z ≤ 255 := by
  refine ⟨piece s n (j + 1), ?_, ?_, piece_length s n (j + 1) (by omega), piece_range s n (j + 1)⟩
  · unfold piece
    rw [drop_bt s j (by omega), List.take_succ_cons]
  · unfold piece
    have hl : n < ((nb s).drop (j + 1)).length := by rw [List.length_drop, nb_length]; omega
    rw [List.take_succ_eq_append_getElem hl, List.getElem_drop]
    congr 1
    rw [← getD_bt', List.getD_eq_getElem?_getD, List.getElem?_eq_getElem (by rw [nb_length]; omega)]
    congr 2
    omega
def sums (s : ByteArray) (n m : Nat) : List Int := (List.range m).map fun j => wsum (piece s n j)
theorem sums_succ (s : ByteArray) (n m : Nat) : sums s n (m + 1) = sums s n m ++ [wsum (piece s n m)] := by
  unfold sums; rw [List.range_succ, List.map_append]; rfl
theorem sums_length (s : ByteArray) (n m : Nat) : (sums s n m).length = m := by simp [sums]
theorem sums_rd (s : ByteArray) (n m j : Nat) (h : j < m) : rd (sums s n m) j = wsum (piece s n j) := by
  unfold rd sums
  rw [Int.toNat_natCast, List.getD_eq_getElem?_getD, List.getElem?_map, List.getElem?_range h]; rfl
theorem weakAll_l0 (s : ByteArray) (n : Nat) (hs : s.size ≤ 20000) (d : Nat) : ∀ i : Nat, i + d = s.size → n + 1 ≤ i → Er (fun k => impl_weakAll.l0 k s ((n + 1 : Nat) : Int) (sums s (n + 1) (i - n)) i) (sums s (n + 1) (s.size - n)) := by
  induction d with
  | zero =>
    intro i hi hn
    refine Er.step (fun k => rfl) (Er.neg (by omega) (Er.some.val ?_))
    congr 1; omega
  | succ d ih =>
    intro i hi hn
    have e2 : wrap64 ((i : Int) + 1) = ((i + 1 : Nat) : Int) := by rw [w64 (by omega) (by omega)]; omega
    have e3 : wrap64 ((i : Int) - ((n + 1 : Nat) : Int)) = ((i - (n + 1) : Nat) : Int) := by rw [w64 (by omega) (by omega)]; omega
    have hb1 := bt_01 s ((i - (n + 1) : Nat) : Int)
    have hb2 := bt_01 s (i : Int)
    obtain ⟨m, h1, h2, h3, h4⟩ := piece_roll s n (i - (n + 1)) (by omega)
    have next := ih (i + 1) (by omega) (by omega)
    refine Er.step (fun k => rfl) (Er.pos (by omega) ?_)
    rw [e3, e2, w64 (x := bt s ((i - (n + 1) : Nat) : Int)) (by omega) (by omega), w64 (x := bt s (i : Int)) (by omega) (by omega), sums_length, sums_rd s (n + 1) (i - n) (i - (n + 1)) (by omega), h1]
    refine Er.pos (by omega) (Er.pos (by omega) (Er.pos (by omega) (Er.pos (by omega) (Er.bindc (roll_eq _ _ m _ (by rw [h3]; omega) h4 (by omega) hb1 hb2) (Er.pos (by omega) ?_)))))
    rw [show i + 1 - n = (i - n) + 1 by omega, sums_succ] at next
    rw [show i - (n + 1) + 1 = i - n by omega, show i - (n + 1) + (n + 1) = i by omega] at h2
    rw [h2] at next
    exact next
theorem WeakAll_ev (s : ByteArray) (hs : s.size ≤ 1000) (n : Nat) (h1 : n + 1 ≤ s.size) : Er (fun k => impl_WeakAll.f k s ((n + 1 : Nat) : Int)) (sums s (n + 1) (s.size - n)) := by
  unfold impl_WeakAll.f impl_weakAll.f
  refine Er.bindc (within_eq _ _ _) (Er.pos (by rw [decide_eq_true_iff]; omega) (Er.neg (by omega) (Er.bind (Er.neg (by omega) ?_) Er.some)))
  rw [show decide ((s.size : Int) < ((n + 1 : Nat) : Int)) = false by rw [decide_eq_false_iff_not]; omega]
  refine Er.step (f := fun k => (if 0 ≤ ((n + 1 : Nat) : Int) then (if ((n + 1 : Nat) : Int) ≤ (s.size : Int) then ((impl_weakOf.f k (s.extract 0 (((n + 1 : Nat) : Int) : Int).toNat)).bind fun t179 => (impl_weakAll.l0 k s ((n + 1 : Nat) : Int) (([t179] : List Int)) ((n + 1 : Nat) : Int))) else (none)) else (none))) (fun k => rfl) (Er.pos (by omega) (Er.pos (by omega) (Er.bind (weakOf_ev _ (by rw [ByteArray.size_extract]; omega)) ?_)))
  have := weakAll_l0 s n (by omega) (s.size - (n + 1)) (n + 1) (by omega) (by omega)
  rw [show n + 1 - n = 0 + 1 by omega, sums_succ] at this
  rw [nb_extract, Int.toNat_natCast]
  exact this
theorem WeakAll_no (s : ByteArray) (hs : s.size ≤ 1000) (n : Int) (h1 : n < 1 ∨ (s.size : Int) < n) : Er (fun k => impl_WeakAll.f k s n) [] := by
  unfold impl_WeakAll.f impl_weakAll.f
  refine Er.bindc (within_eq _ _ _) (Er.ite (fun h => Er.neg (by omega) (Er.bind (a := []) ?_ Er.some)) (fun _ => Er.some))
  rw [decide_eq_true_iff] at h
  refine Er.neg (by omega) ?_
  rw [show decide ((s.size : Int) < n) = true by rw [decide_eq_true_iff]; omega]
  exact Er.step (f := fun _ => some ([] : List Int)) (fun k => rfl) Er.some
theorem drawWeakAll_ok (c : List Int) (hc : c.length ≤ 140737488351232) : ∃ s n, Er (fun k => spec_DrawWeakAll.f k c) (s, n) ∧ s.size ≤ 200 ∧ -1 ≤ n ∧ n ≤ 22 := by
  obtain ⟨h0, e0⟩ := new_ok c (by omega)
  have e1 : spec_l01Size.f c 200 = some (if (2 + (c.length : Int) / 20) > 200 then 200 else 2 + (c.length : Int) / 20) := by
    unfold spec_l01Size.f
    rw [w64 (x := (c.length : Int) / 20) (by omega) (by omega), w64 (by omega) (by omega)]
    split <;> rfl
  obtain ⟨m, i2, h2, e2, _, hm, c2⟩ := below_ok c (by omega) (if (2 + (c.length : Int) / 20) > 200 then 200 else 2 + (c.length : Int) / 20) 0 h0 (cur0 c)
  obtain ⟨m0, m1⟩ := hm (by split <;> omega)
  have m2 : m < 200 := by split at m1 <;> omega
  obtain ⟨s, i3, h3, e3, hs, c3⟩ := text_ok c (by omega) m i2 h2 m0 (by omega) c2
  obtain ⟨x, i4, h4, e4, _, hx, c4⟩ := below_ok c (by omega) 24 i3 h3 c3
  obtain ⟨x0, x1⟩ := hx (by omega)
  refine ⟨s, x - 1, ?_, by omega, by omega, by omega⟩
  unfold spec_DrawWeakAll.f
  refine Er.bind e0 (Er.bindc e1 (Er.bindc e2 (Er.bind e3 (Er.bindc e4 (Er.some.val ?_)))))
  dsimp only
  rw [w64 (by omega) (by omega)]
theorem roll_j2 (c : List Int) (hc : c.length ≤ 140737488351232) (hw : ∀ x ∈ c, 0 ≤ x ∧ x ≤ 255) (s : ByteArray) (hs : s.size ≤ 200) : Er (fun k => laws_FnRoll.j2 k c s) true := by
  obtain ⟨a, ha, ha0⟩ : ∃ a, laws_at.f c 1 = some a ∧ 0 ≤ a := by
    unfold laws_at.f
    by_cases h : (1 : Int) < c.length
    · rw [if_pos h, if_pos (by omega)]
      refine ⟨_, rfl, ?_⟩
      have : rd c 1 ∈ c := by
        unfold rd
        rw [List.getD_eq_getElem?_getD, List.getElem?_eq_getElem (show (1 : Int).toNat < c.length by omega)]
        exact List.getElem_mem _
      have := hw _ this
      rw [w64 (by omega) (by omega)]; omega
    · rw [if_neg h]
      refine ⟨_, rfl, ?_⟩
      rw [w64 (x := 1 * 7) (by omega) (by omega), w64 (by omega) (by omega), Int.tmod_eq_emod_of_nonneg (by omega)]
      omega
  have e1 : wrap64 ((s.size : Int) + 1) = (s.size : Int) + 1 := w64 (by omega) (by omega)
  have e2 : Int.tmod a ((s.size : Int) + 1) = a % ((s.size : Int) + 1) := Int.tmod_eq_emod_of_nonneg ha0
  have r0 := Int.emod_nonneg a (show (s.size : Int) + 1 ≠ 0 by omega)
  have r1 := Int.emod_lt_of_pos a (show 0 < (s.size : Int) + 1 by omega)
  refine Er.step (fun k => rfl) (Er.bindc ha ?_)
  rw [e1, e2]
  generalize a % ((s.size : Int) + 1) = q at *
  obtain ⟨m, rfl⟩ := Int.eq_ofNat_of_zero_le r0
  refine Er.neg (by omega) (Er.pos r0 (Er.pos (by omega) (Er.bind (WeakOf_ev _ (by rw [ByteArray.size_extract]; omega)) (Er.bind (WeakOf_ev _ (by rw [ByteArray.size_extract]; omega)) ?_))))
  rw [Int.toNat_natCast, nb_extract, nb_extract_end, List.drop_zero, w64 (by omega) (by omega)]
  have hj := join_eq ((nb s).take m) ((nb s).drop m) (nb_take_range s m) (fun x hx => nb_range s x (List.mem_of_mem_drop hx)) (by rw [List.length_take, nb_length]; omega) (by rw [List.length_drop, nb_length]; omega)
  rw [List.take_append_drop, List.length_drop, nb_length] at hj
  rw [show (s.size : Int) - m = ((s.size - m : Nat) : Int) by omega]
  refine Er.bindc hj (Er.bind (WeakOf_ev s (by omega)) (Er.pos rfl (Er.bind (WeakOf_ev s (by omega)) (Er.bind (specWeak_ev s (by omega)) (Er.some.val ?_)))))
  simp
theorem roll_l0 (c : List Int) (hc : c.length ≤ 140737488351232) (hw : ∀ x ∈ c, 0 ≤ x ∧ x ≤ 255) (s : ByteArray) (hs : s.size ≤ 200) (n : Nat) (h1 : n + 1 ≤ s.size) (d : Nat) : ∀ i : Nat, i + d = s.size - n → Er (fun k => laws_FnRoll.l0 k c s ((n + 1 : Nat) : Int) (sums s (n + 1) (s.size - n)) i) true := by
  induction d with
  | zero =>
    intro i hi
    exact Er.step (fun k => rfl) (Er.neg (by rw [sums_length]; omega) (roll_j2 c hc hw s hs))
  | succ d ih =>
    intro i hi
    have e2 : wrap64 ((i : Int) + 1) = ((i + 1 : Nat) : Int) := by rw [w64 (by omega) (by omega)]; omega
    have e3 : wrap64 ((i : Int) + ((n + 1 : Nat) : Int)) = ((i + (n + 1) : Nat) : Int) := by rw [w64 (by omega) (by omega)]; omega
    refine Er.step (fun k => rfl) (Er.pos (by rw [sums_length]; omega) (Er.pos (by omega) ?_))
    rw [e2, e3, sums_rd _ _ _ _ (by omega)]
    refine Er.pos (by omega) (Er.pos (by omega) (Er.bind (WeakOf_ev _ (by rw [ByteArray.size_extract]; omega)) (Er.pos ?_ (ih (i + 1) (by omega)))))
    rw [nb_extract, Int.toNat_natCast, Int.toNat_natCast, List.drop_take]
    unfold piece
    congr 2
    omega
theorem FnRoll : laws_FnRoll.Pure := by
  intro c _ hc hw0
  have hw : ∀ x ∈ c, 0 ≤ x ∧ x ≤ 255 := by
    intro x hx
    have := hw0 x hx
    simp only [Lit.wf, Bool.and_eq_true, decide_eq_true_iff] at this
    have e1 : IntKind.min .u8 = 0 := by decide
    have e2 : IntKind.max .u8 = 255 := by decide
    omega
  refine Er.rounds ?_
  unfold laws_FnRoll.f laws_big.f
  refine Er.bindc rfl (Er.ite (fun _ => Er.some) (fun _ => ?_))
  obtain ⟨s, n, e, zs, n0, n1⟩ := drawWeakAll_ok c (by omega)
  refine Er.bind e ?_
  dsimp only
  by_cases h : n < 1 ∨ (s.size : Int) < n
  · refine Er.bind (WeakAll_no s (by omega) n h) (Er.ite (fun hn => ?_) (fun hn => ?_))
    · exact Er.step (f := fun k => laws_FnRoll.j2 k c s) (fun k => rfl) (roll_j2 c (by omega) hw s zs)
    · rw [show decide ((s.size : Int) < n) = true by rw [decide_eq_true_iff]; omega]
      exact Er.step (f := fun k => laws_FnRoll.j2 k c s) (fun k => rfl) (roll_j2 c (by omega) hw s zs)
  · obtain ⟨m, rfl⟩ : ∃ m : Nat, n = ((m + 1 : Nat) : Int) := ⟨(n - 1).toNat, by omega⟩
    refine Er.bind (WeakAll_ev s (by omega) m (by omega)) (Er.neg (by omega) ?_)
    rw [show decide ((s.size : Int) < ((m + 1 : Nat) : Int)) = false by rw [decide_eq_false_iff_not]; omega]
    refine Er.step (f := fun k => (if ((sums s (m + 1) (s.size - m)).length : Int) = (wrap64 ((wrap64 ((s.size : Int) - ((m + 1 : Nat) : Int))) + 1)) then (laws_FnRoll.l0 k c s ((m + 1 : Nat) : Int) (sums s (m + 1) (s.size - m)) 0) else (some false))) (fun k => rfl) ?_
    rw [w64 (x := (s.size : Int) - ((m + 1 : Nat) : Int)) (by omega) (by omega), w64 (by omega) (by omega), sums_length]
    exact Er.pos (by omega) (roll_l0 c (by omega) hw s zs m (by omega) (s.size - m) 0 (by omega))

end Go.Proofs.Ytpgnbcemdkgjgaa.Pure
