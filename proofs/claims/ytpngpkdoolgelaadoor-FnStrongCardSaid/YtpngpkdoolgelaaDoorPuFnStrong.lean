/- The plain law: the model of the law answers true. -/
import Derived.Test.YtpngpkdoolgelaaDoorMoFnStrong
set_option linter.unusedVariables false
set_option linter.unusedSimpArgs false
namespace Go.AM
open Go
def strOg (xs : List Int) : List UInt8 := xs.map fun n => n.toNat.toUInt8
theorem loopC_inv {S α : Type} (F : S → (S → Option α) → Option α) (I : Nat → S → Prop) (g : S → Option α)
    (h : ∀ n s k, I n s → (∀ m s', m < n → I m s' → k s' = g s') → F s k = g s) : ∀ fuel n s, I n s → n < fuel → loopC fuel F s = g s := by
 intro fuel
 induction fuel with
 | zero => intro n s _ h0; omega
 | succ f ih => intro n s hI hn; exact h n s _ hI (fun m s' hm hI' => ih m s' hI' (by omega))
theorem wr (x : Int) (h : -9223372036854775808 ≤ x ∧ x ≤ 9223372036854775807) : IntKind.wrap .i64 x = x := by
 simp [IntKind.wrap, IntKind.signed, IntKind.bits]; omega
/-- A loop ends in some result with Q. -/
theorem loopC_some' {S α : Type} (F : S → (S → Option α) → Option α) (I : Nat → S → Prop) (Q : α → Prop)
    (h : ∀ n s k, I n s → (∀ m s', m < n → I m s' → ∃ r, k s' = some r ∧ Q r) → ∃ r, F s k = some r ∧ Q r) : ∀ fuel n s, I n s → n < fuel → ∃ r, loopC fuel F s = some r ∧ Q r := by
 intro fuel
 induction fuel with
 | zero => intro n s _ h0; omega
 | succ f ih => intro n s hI hn; exact h n s _ hI (fun m s' hm hI' => ih m s' hI' (by omega))
theorem bind_some' {α β : Type} {o : Option α} {f : α → Option β} {Q : α → Prop} {R : β → Prop} (h : ∃ r, o = some r ∧ Q r) (h2 : ∀ r, Q r → ∃ t, f r = some t ∧ R t) : ∃ t, Option.bind o f = some t ∧ R t := by
 obtain ⟨r, rfl, hq⟩ := h
 exact h2 r hq
theorem bind_eq {α β : Type} {o : Option α} {f : α → Option β} {x : α} {r : Option β} (h : o = some x) (h2 : f x = r) : Option.bind o f = r := by rw [h]; exact h2
theorem wr1 (i : Nat) (h : i ≤ 4611686018427387904) : IntKind.wrap .i64 ((i : Int) + 1) = ((i + 1 : Nat) : Int) := by rw [wr _ (by omega)]; rfl
theorem joinC_inl' {S α : Type} {o : Option (S ⊕ α)} {k : S → Option α} {s : S} (h : o = some (.inl s)) : joinC o k = k s := by rw [h]; rfl
section
variable {α : Type}
theorem getD_mem {l : List α} {i : Nat} (d : α) (h : i < l.length) : l.getD i d ∈ l := by
 rw [List.getD_eq_getElem?_getD, List.getElem?_eq_getElem h]; exact List.getElem_mem h
end
abbrev NodeT := List UInt8 × (Int × (Int × (Int × (List UInt8 × (List UInt8 × Int)))))
def dN : NodeT := (nilOf UInt8, Int.ofNat (nat_lit 0), Int.ofNat (nat_lit 0), Int.ofNat (nat_lit 0), nilOf UInt8, nilOf UInt8, Int.ofNat (nat_lit 0))
def pth (l : List NodeT) (i : Nat) : List UInt8 := (l.getD i dN).1
def Sorted (l : List NodeT) : Prop := ∀ i, i + 1 < l.length → Op.bytesLess (pth l i) (pth l (i + 1)) = true
theorem Sorted.take {l : List NodeT} (h : Sorted l) (n : Nat) : Sorted (l.take n) := by
 intro i hi
 rw [List.length_take] at hi
 have e : ∀ k, k < n → pth (l.take n) k = pth l k := by
  intro k hk
  unfold pth
  rw [List.getD_eq_getElem?_getD, List.getD_eq_getElem?_getD, List.getElem?_take, if_pos hk]
 rw [e i (by omega), e (i + 1) (by omega)]
 exact h i (by omega)
def Cur (s : List Int × Int × Int × Unit) : Prop := 0 ≤ s.2.1 ∧ s.2.1 ≤ (s.1.length : Int) ∧ s.1.length ≤ 1048576
theorem and255 (x : Int) : 0 ≤ bitsOf .and .i64 x 255 ∧ bitsOf .and .i64 x 255 ≤ 255 := by
 have h : (BitVec.ofInt 64 x &&& BitVec.ofInt 64 255).toNat ≤ 255 := by rw [BitVec.toNat_and]; exact Nat.and_le_right
 show 0 ≤ IntKind.wrap .i64 ((BitVec.ofInt 64 x &&& BitVec.ofInt 64 255).toNat : Int) ∧ IntKind.wrap .i64 ((BitVec.ofInt 64 x &&& BitVec.ofInt 64 255).toNat : Int) ≤ 255
 rw [wr _ (by omega)]; omega
theorem byte_some (s : List Int × Int × Int × Unit) (h : Cur s) : ∃ b s', m_spec_l01Byte s = some (b, s', ()) ∧ 0 ≤ b ∧ b ≤ 255 ∧ Cur s' := by
 obtain ⟨c, i, x, u⟩ := s
 obtain ⟨h1, h2, h3⟩ := h
 simp only at h1 h2 h3
 unfold m_spec_l01Byte
 rw [if_pos (by decide), if_pos (by decide)]
 dsimp only
 by_cases hl : i < (c.length : Int)
 ·rw [decide_eq_true hl, cond_true, if_pos ⟨h1, hl⟩]
  refine ⟨_, _, rfl, (and255 _).1, (and255 _).2, ?_⟩
  refine ⟨?_, ?_, h3⟩
  ·show 0 ≤ IntKind.wrap .i64 (i + 1); rw [wr _ (by omega)]; omega
  ·show IntKind.wrap .i64 (i + 1) ≤ _; rw [wr _ (by omega)]; show i + 1 ≤ (c.length : Int); omega
 ·rw [decide_eq_false hl, cond_false]
  exact ⟨_, _, rfl, (and255 _).1, (and255 _).2, h1, h2, h3⟩
theorem below_some (n : Int) (hn : 0 < n) (s : List Int × Int × Int × Unit) (h : Cur s) : ∃ b s', m_spec_l01Below n s = some (b, s', ()) ∧ (n ≤ 256 → 0 ≤ b ∧ b < n) ∧ Cur s' := by
 obtain ⟨c, i, x, u⟩ := s
 unfold m_spec_l01Below
 rw [decide_eq_false (show ¬ n ≤ 0 by omega), cond_false]
 by_cases h256 : n ≤ 256
 ·rw [decide_eq_true h256, cond_true]
  obtain ⟨b, s', e, hb1, hb2, hc⟩ := byte_some (c, i, x, ()) h
  obtain ⟨c', i', x', u'⟩ := s'
  simp only
  rw [e, Option.bind_some]
  simp only
  rw [if_pos (by omega)]
  exact ⟨_, _, rfl, fun _ => ⟨Int.tmod_nonneg _ hb1, Int.tmod_lt_of_pos _ hn⟩, hc⟩
 ·rw [decide_eq_false h256, cond_false]
  obtain ⟨b, s1, e, _, _, hc⟩ := byte_some (c, i, x, ()) h
  obtain ⟨c1, i1, x1, u1⟩ := s1
  simp only
  rw [e, Option.bind_some]
  simp only
  obtain ⟨b2, s2, e2, _, _, hc2⟩ := byte_some (c1, i1, x1, ()) hc
  obtain ⟨c2, i2, x2, u2⟩ := s2
  rw [e2, Option.bind_some]
  simp only
  obtain ⟨b3, s3, e3, _, _, hc3⟩ := byte_some (c2, i2, x2, ()) hc2
  obtain ⟨c3, i3, x3, u3⟩ := s3
  rw [e3, Option.bind_some]
  simp only
  obtain ⟨b4, s4, e4, _, _, hc4⟩ := byte_some (c3, i3, x3, ()) hc3
  obtain ⟨c4, i4, x4, u4⟩ := s4
  rw [e4, Option.bind_some]
  simp only
  rw [if_pos (by omega)]
  exact ⟨_, _, rfl, fun h => absurd h h256, hc4⟩
theorem once_some (n : Int) (hn : 0 < n) (s : List Int × Int × Int × Unit) (h : Cur s) : ∃ b s', m_spec_l01Once n s = some (b, s', ()) ∧ Cur s' := by
 obtain ⟨c, i, x, u⟩ := s
 unfold m_spec_l01Once
 obtain ⟨b, s1, e, _, hc⟩ := below_some n hn (c, i, x, ()) h
 obtain ⟨c1, i1, x1, u1⟩ := s1
 simp only
 rw [e, Option.bind_some]
 exact ⟨_, _, rfl, hc⟩
theorem new_some (c : List Int) (hc : c.length ≤ 1048576) : ∃ r, m_spec_l01New c = some r ∧ Cur r.2.1 := by
 unfold m_spec_l01New
 refine bind_some' (Q := fun r => r.1.1 = c) (loopC_some' _ (fun n s => ∃ (x : Int) (i : Nat), s = ((c, x, (i : Int), ()), ()) ∧ i ≤ c.length ∧ n = c.length - i) _ ?_ _ c.length _ ⟨_, 0, rfl, by omega, rfl⟩ (by omega)) ?_
 ·rintro n s k ⟨x, i, rfl, hi, rfl⟩ hk
  dsimp only
  by_cases hl : i < c.length
  ·rw [decide_eq_true (show (i : Int) < (c.length : Int) by omega), cond_true, Option.bind_some]
   dsimp only
   cases decide ((i : Int) < 4000) with
   | true =>
    rw [cond_true, if_pos (by omega)]
    exact hk (c.length - (i + 1)) _ (by omega) ⟨_, i + 1, by rw [wr _ (show -9223372036854775808 ≤ (i : Int) + 1 ∧ (i : Int) + 1 ≤ 9223372036854775807 by omega)]; rfl, by omega, rfl⟩
   | false => rw [cond_false]; exact ⟨_, rfl, rfl⟩
  ·rw [decide_eq_false (by omega), cond_false, Option.bind_some]
   exact ⟨_, rfl, rfl⟩
 ·rintro ⟨⟨c', x, u⟩, u2⟩ hq
  have hq' : c' = c := hq
  subst hq'
  exact ⟨_, rfl, by show (0 : Int) ≤ 0; omega, by show (0 : Int) ≤ _; omega, hc⟩
/-- What is still to be shown of l01Text. -/
def TextOk : Prop := ∀ (n : Int) (s : List Int × Int × Int × Unit), 0 ≤ n → n ≤ 100000 → Cur s → ∃ r, m_spec_l01Text n s = some r ∧ r.1.length ≤ n.toNat ∧ Cur r.2.1
def w64 (n : Int) : Int := (n + 9223372036854775808) % 18446744073709551616 - 9223372036854775808
theorem wrap_w64 (x : Int) : IntKind.wrap .i64 x = w64 x := by
 simp [IntKind.wrap, IntKind.signed, IntKind.bits, w64]; omega
def lcg (h : Int) : Int := w64 (w64 (h * 6364136223846793005) + 1442695040888963407)
def gz (h : Int) : Int := 6364136223846793005 * h + 1442695040888963407
def lit (f : Int → Int) : Nat → Int → Int
 | 0, h => h
 | n + 1, h => lit f n (f h)
theorem it_add (f : Int → Int) (m n : Nat) (h : Int) : lit f (m + n) h = lit f n (lit f m h) := by
 induction m generalizing h with
 | zero => rw [Nat.zero_add]; rfl
 | succ m ih => rw [Nat.succ_add]; exact ih (f h)
def uz : Nat → Int
 | 0 => 1591034055961698251
 | k + 1 => uz k + 2 * 2 ^ k * (uz k * uz k)
def vz : Nat → Int
 | 0 => 721347520444481703
 | k + 1 => vz k + (2 * vz k + 1) * (2 ^ k * uz k)
theorem gz_pow (k : Nat) : ∀ h, lit gz (2 ^ k) h = (1 + 4 * 2 ^ k * uz k) * h + 2 ^ k * (2 * vz k + 1) := by
 induction k with
 | zero => intro h; show gz h = _; unfold gz uz vz; omega
 | succ k ih =>
  intro h
  have e : 2 ^ (k + 1) = 2 ^ k + 2 ^ k := by rw [Nat.pow_succ]; omega
  rw [e, it_add, ih, ih]
  have e2 : (2 : Int) ^ (k + 1) = 2 * 2 ^ k := by rw [Int.pow_succ]; omega
  rw [e2]
  simp only [uz, vz]
  generalize (2 : Int) ^ k = p
  generalize uz k = u
  generalize vz k = v
  grind
theorem gz_reach (h t : Int) (k : Nat) : ∃ n, n < 2 ^ k ∧ ∃ q : Int, lit gz n h = t + 2 ^ k * q := by
 induction k with
 | zero => exact ⟨0, by decide, h - t, by simp [lit]; omega⟩
 | succ k ih =>
  obtain ⟨n, hn, q, hq⟩ := ih
  have e3 : 2 ^ (k + 1) = 2 ^ k + 2 ^ k := by rw [Nat.pow_succ]; omega
  have e2 : (2 : Int) ^ (k + 1) = 2 * 2 ^ k := by rw [Int.pow_succ]; omega
  rcases Int.emod_two_eq q with h0 | h1
  ·refine ⟨n, by omega, q / 2, ?_⟩
   rw [hq, e2]
   have : q = 2 * (q / 2) := by omega
   generalize (2 : Int) ^ k = p
   generalize q / 2 = z at *
   subst this
   grind
  ·refine ⟨n + 2 ^ k, by omega, ?_⟩
   rw [it_add, gz_pow, hq, e2]
   have : q = 2 * (q / 2) + 1 := by omega
   generalize (2 : Int) ^ k = p
   generalize q / 2 = z at *
   generalize uz k = u
   generalize vz k = v
   subst this
   exact ⟨z + 1 + v + 2 * u * (t + p * (2 * z + 1)), by grind⟩
theorem w64_mod (x : Int) : ∃ q, w64 x = x + 18446744073709551616 * q := by
 unfold w64
 exact ⟨-((x + 9223372036854775808) / 18446744073709551616), by omega⟩
theorem w64_congr {x y q : Int} (h : x = y + 18446744073709551616 * q) : w64 x = w64 y := by
 unfold w64; omega
theorem w64_idem (x : Int) : w64 (w64 x) = w64 x := by unfold w64; omega
theorem nx_gz (h : Int) : lcg h = w64 (gz h) := by
 unfold lcg gz
 obtain ⟨q, hq⟩ := w64_mod (h * 6364136223846793005)
 rw [hq]
 exact w64_congr (q := q) (by omega)
theorem gz_wrap (h : Int) : w64 (gz (w64 h)) = w64 (gz h) := by
 obtain ⟨q, hq⟩ := w64_mod h
 exact w64_congr (q := 6364136223846793005 * q) (by rw [hq]; unfold gz; omega)
theorem it_nx (n : Nat) : ∀ h, w64 (lit lcg n h) = w64 (lit gz n h) := by
 have key : ∀ n h, w64 (lit gz n (w64 h)) = w64 (lit gz n h) := by
  intro n
  induction n with
  | zero => intro h; exact w64_idem h
  | succ n ih => intro h; show w64 (lit gz n (gz (w64 h))) = w64 (lit gz n (gz h)); rw [← ih, gz_wrap, ih]
 induction n with
 | zero => intro h; rfl
 | succ n ih =>
  intro h
  show w64 (lit lcg n (lcg h)) = w64 (lit gz n (gz h))
  rw [ih, nx_gz, key]
/-- From every state the sequence comes to every state. -/
theorem nx_reach (h t : Int) (ht : w64 t = t) : ∃ n, n < 18446744073709551616 ∧ lit lcg (n + 1) h = t := by
 obtain ⟨n, hn, q, hq⟩ := gz_reach (gz h) t 64
 refine ⟨n, hn, ?_⟩
 have last : ∀ n h, lit lcg (n + 1) h = lcg (lit lcg n h) := by
  intro n
  induction n with
  | zero => intro h; rfl
  | succ n ih => intro h; exact ih (lcg h)
 have w : w64 (lit lcg (n + 1) h) = lit lcg (n + 1) h := by
  rw [last]; unfold lcg; exact w64_idem _
 rw [← w, it_nx]
 show w64 (lit gz n (gz h)) = t
 rw [hq, ← ht]
 rw [ht]
 conv => rhs; rw [← ht]
 have e : (2 : Int) ^ 64 = 18446744073709551616 := by decide
 rw [e]
 exact w64_congr (q := q) rfl
def lbv (h : Int) : Int := bitsOf BinOp.and IntKind.i64 (bitsOf BinOp.xor IntKind.i64 (Int.fdiv (lcg h) ((2 : Int) ^ min (Int.toNat (33 : Int)) (IntKind.bits IntKind.i64))) (Int.fdiv (lcg h) ((2 : Int) ^ min (Int.toNat (45 : Int)) (IntKind.bits IntKind.i64)))) (255 : Int)
theorem lsix : ∀ d : Nat, d < 6 → Int.tmod (lbv (lit lcg d 33)) 5 ≠ 1 ∧ Int.tmod (lbv (lit lcg d 33)) 5 ≠ 2 := by
 decide +kernel
theorem byte_mv (c : List Int) (i h : Int) (hc : Cur (c, i, h, ())) : ∃ b i' h', m_spec_l01Byte (c, i, h, ()) = some (b, (c, i', h', ()), ()) ∧ 0 ≤ b ∧ b ≤ 255 ∧ Cur (c, i', h', ()) ∧ (i < (c.length : Int) → i < i') ∧ (i = (c.length : Int) → i' = (c.length : Int) ∧ b = lbv h ∧ h' = lcg h) := by
 obtain ⟨h1, h2, h3⟩ := hc
 simp only at h1 h2 h3
 unfold m_spec_l01Byte
 rw [if_pos (by decide), if_pos (by decide)]
 dsimp only
 by_cases hl : i < (c.length : Int)
 ·rw [decide_eq_true hl, cond_true, if_pos ⟨h1, hl⟩]
  refine ⟨_, _, _, rfl, (and255 _).1, (and255 _).2, ⟨?_, ?_, h3⟩, ?_, ?_⟩
  ·show 0 ≤ IntKind.wrap .i64 (i + 1); rw [wr _ (by omega)]; omega
  ·show IntKind.wrap .i64 (i + 1) ≤ _; rw [wr _ (by omega)]; show i + 1 ≤ (c.length : Int); omega
  ·intro _; show i < IntKind.wrap .i64 (i + 1); rw [wr (i + 1) (by omega)]; omega
  ·intro _; omega
 ·rw [decide_eq_false hl, cond_false]
  refine ⟨_, _, _, rfl, (and255 _).1, (and255 _).2, ⟨h1, h2, h3⟩, fun h => absurd h hl, fun he => ⟨he, ?_, ?_⟩⟩
  ·unfold lbv lcg; simp only [← wrap_w64]
  ·unfold lcg; simp only [← wrap_w64]
theorem below_mv (n : Int) (hn : 0 < n) (c : List Int) (i h : Int) (hc : Cur (c, i, h, ())) : ∃ b i' h', m_spec_l01Below n (c, i, h, ()) = some (b, (c, i', h', ()), ()) ∧ 0 ≤ b ∧ b < n ∧ Cur (c, i', h', ()) ∧ (i < (c.length : Int) → i < i') ∧ (i = (c.length : Int) → i' = (c.length : Int) ∧ (n ≤ 256 → b = Int.tmod (lbv h) n ∧ h' = lcg h) ∧ (256 < n → h' = lit lcg 4 h)) := by
 unfold m_spec_l01Below
 rw [decide_eq_false (show ¬ n ≤ 0 by omega), cond_false]
 by_cases h256 : n ≤ 256
 ·rw [decide_eq_true h256, cond_true]
  obtain ⟨b, i1, x1, e, hb1, hb2, hc1, m1, f1⟩ := byte_mv c i h hc
  dsimp only
  rw [e, Option.bind_some]
  dsimp only
  rw [if_pos (by omega)]
  refine ⟨_, _, _, rfl, Int.tmod_nonneg _ hb1, Int.tmod_lt_of_pos _ hn, hc1, m1, fun he => ?_⟩
  obtain ⟨g1, g2, g3⟩ := f1 he
  exact ⟨g1, fun _ => ⟨by rw [g2], g3⟩, fun h => by omega⟩
 ·rw [decide_eq_false h256, cond_false]
  obtain ⟨b1, i1, x1, e1, hb1, hb1', hc1, m1, f1⟩ := byte_mv c i h hc
  obtain ⟨b2, i2, x2, e2, hb2, hb2', hc2, m2, f2⟩ := byte_mv c i1 x1 hc1
  obtain ⟨b3, i3, x3, e3, hb3, hb3', hc3, m3, f3⟩ := byte_mv c i2 x2 hc2
  obtain ⟨b4, i4, x4, e4, hb4, hb4', hc4, m4, f4⟩ := byte_mv c i3 x3 hc3
  dsimp only
  rw [e1, Option.bind_some]
  dsimp only
  rw [e2, Option.bind_some]
  dsimp only
  rw [e3, Option.bind_some]
  dsimp only
  rw [e4, Option.bind_some]
  dsimp only
  rw [if_pos (by omega)]
  have z : 0 ≤ IntKind.wrap IntKind.i64 (IntKind.wrap IntKind.i64 (IntKind.wrap IntKind.i64 (IntKind.wrap IntKind.i64 (b1 * (16777216 : Int)) + IntKind.wrap IntKind.i64 (b2 * (65536 : Int))) + IntKind.wrap IntKind.i64 (b3 * (256 : Int))) + b4) := by
   rw [wr (b1 * 16777216) (by omega), wr (b2 * 65536) (by omega), wr (b3 * 256) (by omega), wr (b1 * 16777216 + b2 * 65536) (by omega), wr (b1 * 16777216 + b2 * 65536 + b3 * 256) (by omega), wr _ (by omega)]
   omega
  refine ⟨_, _, _, rfl, Int.tmod_nonneg _ z, Int.tmod_lt_of_pos _ hn, hc4, fun hl => ?_, fun he => ?_⟩
  ·have := m1 hl
   have k2 : i1 ≤ i2 := by
    by_cases q : i1 < (c.length : Int)
    ·have := m2 q; omega
    ·have q2 : i1 ≤ (c.length : Int) := hc1.2.1; have := (f2 (by omega)).1; omega
   have k3 : i2 ≤ i3 := by
    by_cases q : i2 < (c.length : Int)
    ·have := m3 q; omega
    ·have q2 : i2 ≤ (c.length : Int) := hc2.2.1; have := (f3 (by omega)).1; omega
   have k4 : i3 ≤ i4 := by
    by_cases q : i3 < (c.length : Int)
    ·have := m4 q; omega
    ·have q2 : i3 ≤ (c.length : Int) := hc3.2.1; have := (f4 (by omega)).1; omega
   omega
  ·obtain ⟨g1, _, g1'⟩ := f1 he
   obtain ⟨g2, _, g2'⟩ := f2 g1
   obtain ⟨g3, _, g3'⟩ := f3 g2
   obtain ⟨g4, _, g4'⟩ := f4 g3
   exact ⟨g4, fun h => absurd h h256, fun _ => by rw [g4', g3', g2', g1']; rfl⟩
theorem below_keep {n : Int} {c : List Int} {i h : Int} {b i' h' : Int} (hc : Cur (c, i, h, ())) (m : i < (c.length : Int) → i < i') (f : i = (c.length : Int) → i' = (c.length : Int) ∧ (n ≤ 256 → b = Int.tmod (lbv h) n ∧ h' = lcg h) ∧ (256 < n → h' = lit lcg 4 h)) : i ≤ i' := by
 by_cases q : i < (c.length : Int)
 ·have := m q; omega
 ·have := hc.2.1; simp only at this; have := (f (by omega)).1; omega
/-- One round without a byte more: the cursor is behind where lit was; at its end the number has moved by one, three or lsix. -/
def NextP (c : List Int) (i h i' h' : Int) : Prop :=
 (i < (c.length : Int) → i < i') ∧ (i = (c.length : Int) → i' = (c.length : Int) ∧ (Int.tmod (lbv h) 5 = 1 ∨ Int.tmod (lbv h) 5 = 2) ∧ (h' = lit lcg 1 h ∨ h' = lit lcg 3 h ∨ h' = lit lcg 6 h))
abbrev TS := (Unit × Int × Unit × Unit) × (List Int × Int × Int × Unit) × List Int × Unit
def BR (n : Int) (out : List Int) (c : List Int) (i h : Int) (r : TS) : Prop :=
 ∃ out' i' h', r = (((), n, (), ()), (c, i', h', ()), out', ()) ∧ Cur (c, i', h', ()) ∧ ((out.length < out'.length ∧ out'.length ≤ out.length + 30) ∨ (out' = out ∧ NextP c i h i' h'))
def Rem (q : Nat) (h : Int) : Prop := ∃ (N p : Nat) (h0 : Int), lit lcg (N + 1) h0 = 33 ∧ h = lit lcg p h0 ∧ p + q = N + 6
def Okb (B : Nat) (c : List Int) (i h : Int) : Prop := (i < (c.length : Int) → B = 18446744073709551622 + (c.length - i.toNat)) ∧ (i = (c.length : Int) → Rem B h ∧ B < 18446744073709551622) ∧ B < 18446744073711648768
theorem okb_enter (c : List Int) (i h : Int) (hc : Cur (c, i, h, ())) : ∃ B, Okb B c i h := by
 obtain ⟨h1, h2, h3⟩ := hc
 simp only at h1 h2 h3
 by_cases hl : i < (c.length : Int)
 ·exact ⟨18446744073709551622 + (c.length - i.toNat), fun _ => rfl, fun h => by omega, by omega⟩
 ·obtain ⟨N, hN, e⟩ := nx_reach h 33 (by unfold w64; omega)
  exact ⟨N + 6, fun h => absurd h hl, fun _ => ⟨⟨N, 0, h, e, rfl, by omega⟩, by omega⟩, by omega⟩
theorem okb_step {c : List Int} {i h i' h' : Int} {B : Nat} (hc' : Cur (c, i', h', ())) (hB : Okb B c i h) (hc : Cur (c, i, h, ())) (hn : NextP c i h i' h') : ∃ B', B' < B ∧ Okb B' c i' h' := by
 obtain ⟨b1, b2, b3⟩ := hB
 obtain ⟨h1, h2, h3⟩ := hc
 have hcc := hc'
 obtain ⟨g1, g2, g3⟩ := hc'
 simp only at h1 h2 h3 g1 g2
 by_cases hl : i < (c.length : Int)
 ·have hm := hn.1 hl
  have hb := b1 hl
  by_cases hl' : i' < (c.length : Int)
  ·exact ⟨18446744073709551622 + (c.length - i'.toNat), by omega, fun _ => rfl, fun h => by omega, by omega⟩
  ·obtain ⟨B', hB'⟩ := okb_enter c i' h' hcc
   exact ⟨B', by have := (hB'.2.1 (by omega)).2; omega, hB'⟩
 ·have he : i = (c.length : Int) := by omega
  obtain ⟨e', hb, hh⟩ := hn.2 he
  obtain ⟨⟨N, p, h0, r1, r2, r3⟩, b4⟩ := b2 he
  have hp : p ≤ N := by
   apply Classical.byContradiction
   intro hp
   have e : h = lit lcg (p - (N + 1)) 33 := by
    rw [r2]
    conv => lhs; rw [show p = (N + 1) + (p - (N + 1)) by omega, it_add, r1]
   have := lsix (p - (N + 1)) (by omega)
   rw [← e] at this
   rcases hb with hb | hb
   ·exact this.1 hb
   ·exact this.2 hb
  rcases hh with hh | hh | hh
  ·exact ⟨B - 1, by omega, fun h => by omega, fun _ => ⟨⟨N, p + 1, h0, r1, by rw [hh, it_add, ← r2], by omega⟩, by omega⟩, by omega⟩
  ·exact ⟨B - 3, by omega, fun h => by omega, fun _ => ⟨⟨N, p + 3, h0, r1, by rw [hh, it_add, ← r2], by omega⟩, by omega⟩, by omega⟩
  ·exact ⟨B - 6, by omega, fun h => by omega, fun _ => ⟨⟨N, p + 6, h0, r1, by rw [hh, it_add, ← r2], by omega⟩, by omega⟩, by omega⟩
theorem big100 {m : Nat} (h : m < 1267650600228229401496703205376) : m < 2 ^ 100 := h
theorem text_some : TextOk := by
 rintro n ⟨c, i, x, u⟩ h0 hn hc
 unfold m_spec_l01Text
 obtain ⟨B0, hB0⟩ := okb_enter c i x hc
 refine bind_some' (Q := fun r => r.1.1 = n ∧ n.toNat ≤ r.2.2.1.length ∧ Cur r.2.1) (loopC_some' _ (fun m s => ∃ (out : List Int) (i x : Int), s = (((), n, (), ()), (c, i, x, ()), out, ()) ∧ Cur (c, i, x, ()) ∧ out.length ≤ n.toNat + 30 ∧ ∃ B, Okb B c i x ∧ m = (n.toNat - out.length) * 18446744073711648768 + B) _ ?_ _ ((n.toNat - 0) * 18446744073711648768 + B0) _ ⟨[], i, x, rfl, hc, by show 0 ≤ _; omega, B0, hB0, rfl⟩ (big100 (by have := hB0.2.2; omega))) ?_
 ·rintro m s k ⟨out, i, x, rfl, hc, hl, B, hB, rfl⟩ hk
  dsimp only
  by_cases hlt : (out.length : Int) < n
  ·rw [decide_eq_true hlt, cond_true]
   obtain ⟨r, i1, x1, e1, hr0, hr5, hc1, m1, f1⟩ := below_mv 5 (by omega) c i x hc
   rw [e1, Option.bind_some]
   dsimp only
   refine bind_some' (Q := BR n out c i x) ?_ ?_
   ·by_cases q0 : r = 0
    ·rw [show (r == (0 : Int)) = true by simp [q0], cond_true]
     obtain ⟨b, i2, x2, e2, hb0, hb5, hc2, m2, f2⟩ := byte_mv c i1 x1 hc1
     rw [e2, Option.bind_some]
     dsimp only
     rw [if_pos (by simp only [List.length_cons, List.length_nil]; omega)]
     exact ⟨_, rfl, _, _, _, rfl, hc2, .inl (by simp only [List.length_append, List.length_cons, List.length_nil]; omega)⟩
    ·rw [show (r == (0 : Int)) = false by simp [q0], cond_false]
     refine bind_some' (Q := BR n out c i x) ?_ (by rintro _ ⟨o, i', x', rfl, z⟩; exact ⟨_, rfl, o, i', x', rfl, z⟩)
     by_cases q1 : r = 1
     ·rw [show (r == (1 : Int)) = true by simp [q1], cond_true]
      obtain ⟨kk, i2, x2, e2, hb0, hb5, hc2, m2, f2⟩ := below_mv 9 (by omega) c i1 x1 hc1
      rw [e2, Option.bind_some]
      dsimp only
      obtain ⟨y, i3, x3, e3, hy0, hy5, hc3, m3, f3⟩ := below_mv 4 (by omega) c i2 x2 hc2
      rw [e3, Option.bind_some]
      dsimp only
      have k2 := below_keep hc1 m2 f2
      have k3 := below_keep hc2 m3 f3
      refine bind_some' (Q := BR n out c i x) (loopC_some' _ (fun m s => ∃ (o : List Int) (j : Nat), s = (((), n, (), kk, _, (j : Int), ()), (c, i3, x3, ()), o, ()) ∧ o.length = out.length + j ∧ (j = 0 → o = out) ∧ (j : Int) ≤ kk ∧ m = kk.toNat - j) _ ?_ _ kk.toNat _ ⟨out, 0, rfl, by omega, fun _ => rfl, by omega, rfl⟩ (big100 (by omega))) (by rintro _ ⟨o, i', x', rfl, z⟩; exact ⟨_, rfl, o, i', x', rfl, z⟩)
      rintro m s k ⟨o, j, rfl, ho, hz, hj, rfl⟩ hk
      dsimp only
      by_cases hjl : (j : Int) < kk
      ·rw [decide_eq_true hjl, cond_true, if_pos (by simp only [List.length_cons, List.length_nil]; omega)]
       exact hk (kk.toNat - (j + 1)) _ (by omega) ⟨_, j + 1, by rw [wr _ (show -9223372036854775808 ≤ (j : Int) + 1 ∧ (j : Int) + 1 ≤ 9223372036854775807 by omega)]; rfl, by simp only [List.length_append, List.length_cons, List.length_nil]; omega, fun h => by omega, by omega, rfl⟩
      ·rw [decide_eq_false hjl, cond_false]
       refine ⟨_, rfl, o, i3, x3, rfl, hc3, ?_⟩
       by_cases jz : j = 0
       ·refine .inr ⟨hz jz, fun hl => ?_, fun he => ?_⟩
        ·have := m1 hl; omega
        ·obtain ⟨g1, g2, _⟩ := f1 he
         obtain ⟨g3, g4, _⟩ := f2 g1
         obtain ⟨g5, g6, _⟩ := f3 g3
         exact ⟨g5, .inl (by rw [← (g2 (by omega)).1]; exact q1), .inr (.inl (by rw [(g6 (by omega)).2, (g4 (by omega)).2, (g2 (by omega)).2]; rfl))⟩
       ·exact .inl (by omega)
     ·rw [show (r == (1 : Int)) = false by simp [q1], cond_false]
      refine bind_some' (Q := BR n out c i x) ?_ (by rintro _ ⟨o, i', x', rfl, z⟩; exact ⟨_, rfl, o, i', x', rfl, z⟩)
      by_cases q2 : r = 2
      ·rw [show (r == (2 : Int)) = true by simp [q2], cond_true]
       refine bind_some' (Q := BR n out c i x) ?_ (by rintro _ ⟨o, i', x', rfl, z⟩; exact ⟨_, rfl, o, i', x', rfl, z⟩)
       by_cases q3 : (out.length : Int) > 0
       ·rw [decide_eq_true q3, cond_true]
        obtain ⟨f, i2, x2, e2, hb0, hb5, hc2, m2, f2⟩ := below_mv (out.length : Int) q3 c i1 x1 hc1
        rw [e2, Option.bind_some]
        dsimp only
        obtain ⟨kk, i3, x3, e3, hy0, hy5, hc3, m3, f3⟩ := below_mv 20 (by omega) c i2 x2 hc2
        rw [e3, Option.bind_some]
        dsimp only
        have k2 := below_keep hc1 m2 f2
        have k3 := below_keep hc2 m3 f3
        refine bind_some' (Q := BR n out c i x) (loopC_some' _ (fun m s => ∃ (o : List Int) (j : Nat), s = (((), n, (), f, kk, (j : Int), ()), (c, i3, x3, ()), o, ()) ∧ o.length = out.length + j ∧ (j = 0 → o = out) ∧ (j : Int) ≤ kk ∧ m = kk.toNat - j) _ ?_ _ kk.toNat _ ⟨out, 0, rfl, by omega, fun _ => rfl, by omega, rfl⟩ (big100 (by omega))) (by rintro _ ⟨o, i', x', rfl, z⟩; exact ⟨_, rfl, o, i', x', rfl, z⟩)
        rintro m s k ⟨o, j, rfl, ho, hz, hj, rfl⟩ hk
        dsimp only
        have hw : IntKind.wrap IntKind.i64 (f + (j : Int)) = f + (j : Int) := wr _ (by omega)
        by_cases hjl : (j : Int) < kk
        ·rw [decide_eq_true hjl, cond_true, Option.bind_some]
         dsimp only
         rw [hw, decide_eq_true (show f + (j : Int) < (o.length : Int) by omega), cond_true, if_pos (by omega), if_pos (by omega), if_pos (by simp only [List.length_cons, List.length_nil]; omega)]
         exact hk (kk.toNat - (j + 1)) _ (by omega) ⟨_, j + 1, by rw [wr _ (show -9223372036854775808 ≤ (j : Int) + 1 ∧ (j : Int) + 1 ≤ 9223372036854775807 by omega)]; rfl, by simp only [List.length_append, List.length_cons, List.length_nil]; omega, fun h => by omega, by omega, rfl⟩
        ·rw [decide_eq_false hjl, cond_false, Option.bind_some]
         dsimp only
         rw [cond_false]
         refine ⟨_, rfl, o, i3, x3, rfl, hc3, ?_⟩
         by_cases jz : j = 0
         ·refine .inr ⟨hz jz, fun hl => ?_, fun he => ?_⟩
          ·have := m1 hl; omega
          ·obtain ⟨g1, g2, _⟩ := f1 he
           obtain ⟨g3, g4, g4'⟩ := f2 g1
           obtain ⟨g5, g6, _⟩ := f3 g3
           refine ⟨g5, .inr (by rw [← (g2 (by omega)).1]; exact q2), ?_⟩
           by_cases big : (out.length : Int) ≤ 256
           ·exact .inr (.inl (by rw [(g6 (by omega)).2, (g4 big).2, (g2 (by omega)).2]; rfl))
           ·exact .inr (.inr (by rw [(g6 (by omega)).2, g4' (by omega), (g2 (by omega)).2]; rfl))
         ·exact .inl (by omega)
       ·rw [decide_eq_false q3, cond_false]
        refine ⟨_, rfl, out, i1, x1, rfl, hc1, .inr ⟨rfl, m1, fun he => ?_⟩⟩
        obtain ⟨g1, g2, _⟩ := f1 he
        exact ⟨g1, .inr (by rw [← (g2 (by omega)).1]; exact q2), .inl (by rw [(g2 (by omega)).2]; rfl)⟩
      ·rw [show (r == (2 : Int)) = false by simp [q2], cond_false]
       obtain ⟨b, i2, x2, e2, hb0, hb5, hc2, m2, f2⟩ := below_mv 26 (by omega) c i1 x1 hc1
       rw [e2, Option.bind_some]
       dsimp only
       rw [if_pos (by simp only [List.length_cons, List.length_nil]; omega)]
       exact ⟨_, rfl, _, _, _, rfl, hc2, .inl (by simp only [List.length_append, List.length_cons, List.length_nil]; omega)⟩
   ·rintro _ ⟨o, i', x', rfl, hc', z⟩
    dsimp only
    rcases z with ⟨z1, z2⟩ | ⟨rfl, z⟩
    ·obtain ⟨B', hB'⟩ := okb_enter c i' x' hc'
     refine hk _ _ ?_ ⟨o, i', x', rfl, hc', by omega, B', hB', rfl⟩
     have := hB'.2.2
     omega
    ·obtain ⟨B', hlt', hB'⟩ := okb_step hc' hB hc z
     exact hk _ _ (by omega) ⟨o, i', x', rfl, hc', hl, B', hB', rfl⟩
  ·rw [decide_eq_false hlt, cond_false]
   exact ⟨_, rfl, rfl, by show n.toNat ≤ out.length; omega, hc⟩
 ·rintro ⟨⟨n', u1⟩, ⟨c1, i1, x1, u2⟩, o, u3⟩ ⟨hn', ho, hc'⟩
  have hn' : n' = n := hn'
  subst hn'
  have ho : n'.toNat ≤ o.length := ho
  dsimp only
  rw [if_pos (by omega)]
  refine ⟨_, rfl, ?_, hc'⟩
  simp only [List.length_map, List.length_drop, List.length_take]
  omega
abbrev CurT := List Int × Int × Int × Unit
theorem pickInt_some (l : List Int) (s : CurT) (hl : 0 < l.length ∧ l.length ≤ 256) (h : Cur s) : ∃ r, m_spec_l01PickInt l s = some r ∧ Cur r.2.1 := by
 obtain ⟨c, i, x, u⟩ := s
 unfold m_spec_l01PickInt
 obtain ⟨b, s1, e, hb, hc⟩ := below_some (l.length : Int) (by omega) (c, i, x, ()) h
 obtain ⟨hb1, hb2⟩ := hb (by omega)
 rw [e, Option.bind_some]
 simp only
 rw [if_pos ⟨hb1, hb2⟩]
 exact ⟨_, rfl, hc⟩
theorem once_some' (n : Int) (hn : 0 < n) (s : CurT) (h : Cur s) : ∃ r, m_spec_l01Once n s = some r ∧ Cur r.2.1 := by
 obtain ⟨b, s', e, hc⟩ := once_some n hn s h
 exact ⟨_, e, hc⟩
theorem below_some' (n : Int) (hn : 0 < n) (hn2 : n ≤ 256) (s : CurT) (h : Cur s) : ∃ r, m_spec_l01Below n s = some r ∧ (0 ≤ r.1 ∧ r.1 < n) ∧ Cur r.2.1 := by
 obtain ⟨b, s', e, hb, hc⟩ := below_some n hn s h
 exact ⟨_, e, hb hn2, hc⟩
theorem strOf_len (s : List Int) : (strOg s).length = s.length := by unfold strOg; rw [List.length_map]
theorem wrapU_pos (x : Int) : 0 ≤ IntKind.wrap IntKind.u64 x := by
 simp [IntKind.wrap, IntKind.signed, IntKind.bits]; omega
theorem bitsU_pos (op : BinOp) (x y : Int) : 0 ≤ bitsOf op IntKind.u64 x y := by
 unfold bitsOf
 cases op <;> exact wrapU_pos _
theorem gv0_len : List.length (α := Int) gv0 = 64 := rfl
theorem gv1_len : List.length (α := List Int) gv1 = 4 := rfl
theorem gv1_row (q : Nat) (h : q < 4) (d : List Int) : (List.getD (α := List Int) gv1 q d).length = 4 := by
 have : q = 0 ∨ q = 1 ∨ q = 2 ∨ q = 3 := by omega
 rcases this with rfl | rfl | rfl | rfl <;> rfl
theorem div16 (i : Nat) (h : i ≤ 1000) : IntKind.wrap IntKind.i64 (Int.tdiv (i : Int) 16) = ((i / 16 : Nat) : Int) := by
 have e : Int.tdiv (i : Int) 16 = ((i / 16 : Nat) : Int) := rfl
 rw [e, wr _ (by omega)]
theorem tmod16 (x : Int) (h : 0 ≤ x) : 0 ≤ Int.tmod x 16 ∧ Int.tmod x 16 ≤ 15 := by
 obtain ⟨n, rfl⟩ := Int.eq_ofNat_of_zero_le h
 have e : Int.tmod (n : Int) 16 = ((n % 16 : Nat) : Int) := rfl
 rw [e]; omega
theorem wrapB_id (x : Int) (h : 0 ≤ x ∧ x ≤ 255) : IntKind.wrap IntKind.u8 x = x := by
 simp [IntKind.wrap, IntKind.signed, IntKind.bits]; omega
def s16 : List Int := [7, 12, 17, 22, 5, 9, 14, 20, 4, 11, 16, 23, 6, 10, 15, 21]
def Bd (l : List Int) : Prop := ∀ v ∈ l, 0 ≤ v ∧ v ≤ 255
def iB (s : List UInt8) : List Int := s.map fun b => ((UInt8.toNat b : Nat) : Int)
theorem strOf_iB (s : List UInt8) : strOg (iB s) = s := by
 unfold strOg iB
 rw [List.map_map]
 conv => rhs; rw [← List.map_id s]
 refine List.map_congr_left fun b _ => ?_
 show (((UInt8.toNat b : Nat) : Int).toNat).toUInt8 = b
 simp
theorem strOf_app (a b : List Int) : strOg (a ++ b) = strOg a ++ strOg b := by unfold strOg; rw [List.map_append]
abbrev PadT := (List UInt8 × Unit × Unit) × List Int × Unit
def padF (s : PadT) (k : PadT → Option PadT) : Option PadT :=
 if (64 : Int) ≠ 0 then bif Int.tmod (s.2.1.length : Int) 64 != 56 then if (s.2.1.length + ([(0 : Int)] : List Int).length) * 1 ≤ 140737488355328 then k ((s.1.1, (), ()), s.2.1 ++ [0], ()) else none else some ((s.1.1, (), ()), s.2) else none
theorem bd_app {a b : List Int} (ha : Bd a) (hb : Bd b) : Bd (a ++ b) := fun v hv => by
 rcases List.mem_append.1 hv with h | h
 ·exact ha v h
 ·exact hb v h
theorem bd_one {x : Int} (h : 0 ≤ x ∧ x ≤ 255) : Bd [x] := fun v hv => by rw [List.mem_singleton.1 hv]; exact h
theorem bd_iB (s : List UInt8) : Bd (iB s) := fun v hv => by
 obtain ⟨b, _, rfl⟩ := List.mem_map.1 hv
 have := b.toNat_lt
 show 0 ≤ ((b.toNat : Nat) : Int) ∧ ((b.toNat : Nat) : Int) ≤ 255
 omega
def le8 : Nat → Nat → List Int
 | 0, _ => []
 | k + 1, y => ((y % 256 : Nat) : Int) :: le8 k (y / 256)
theorem bd_le8 : ∀ k y, Bd (le8 k y)
 | 0, _ => fun v hv => by cases hv
 | k + 1, y => fun v hv => by
  rcases List.mem_cons.1 hv with rfl | hv
  ·omega
  ·exact bd_le8 k _ v hv
theorem wordText_eq (x : Nat) (h : x < 4294967296) : m_impl_wordText (x : Int) = some (strOg (le8 4 x), ()) := by
 unfold m_impl_wordText
 rw [if_pos (by decide), if_pos (by decide), if_pos (by decide)]
 have w : ∀ y : Nat, IntKind.wrap IntKind.u8 (y : Int) = ((y % 256 : Nat) : Int) := fun y => by
  simp [IntKind.wrap, IntKind.signed, IntKind.bits]
 have d8 : Int.fdiv (x : Int) (2 ^ min (Int.toNat 8) (IntKind.bits IntKind.u32)) = ((x / 256 : Nat) : Int) := by
  show Int.fdiv (x : Int) 256 = _
  rw [Int.fdiv_eq_ediv_of_nonneg _ (by decide)]; rfl
 have d16 : Int.fdiv (x : Int) (2 ^ min (Int.toNat 16) (IntKind.bits IntKind.u32)) = ((x / 256 / 256 : Nat) : Int) := by
  show Int.fdiv (x : Int) 65536 = _
  rw [Int.fdiv_eq_ediv_of_nonneg _ (by decide)]; omega
 have d24 : Int.fdiv (x : Int) (2 ^ min (Int.toNat 24) (IntKind.bits IntKind.u32)) = ((x / 256 / 256 / 256 : Nat) : Int) := by
  show Int.fdiv (x : Int) 16777216 = _
  rw [Int.fdiv_eq_ediv_of_nonneg _ (by decide)]; omega
 rw [d8, d16, d24, w, w, w, w]
 rfl
theorem wrap32 (x : Nat) (h : x < 4294967296) : IntKind.wrap IntKind.u32 (x : Int) = (x : Int) := by
 simp [IntKind.wrap, IntKind.signed, IntKind.bits]; omega
theorem or32 (x y : Nat) (hx : x < 4294967296) (hy : y < 4294967296) : bitsOf .or .u32 (x : Int) (y : Int) = ((x ||| y : Nat) : Int) := by
 have h1 : (BitVec.ofInt 32 (x : Int) ||| BitVec.ofInt 32 (y : Int)).toNat = x ||| y := by
  rw [BitVec.toNat_or]
  have e1 : (BitVec.ofInt 32 (x : Int)).toNat = x := by rw [BitVec.toNat_ofInt]; omega
  have e2 : (BitVec.ofInt 32 (y : Int)).toNat = y := by rw [BitVec.toNat_ofInt]; omega
  rw [e1, e2]
 show IntKind.wrap .u32 (((BitVec.ofInt 32 (x : Int) ||| BitVec.ofInt 32 (y : Int)).toNat : Nat) : Int) = _
 rw [h1]
 exact wrap32 _ (Nat.or_lt_two_pow (n := 32) hx hy)
theorem or_sum (x b k : Nat) (hx : x < 2 ^ k) : x ||| (b * 2 ^ k) = x + b * 2 ^ k := by
 rw [Nat.mul_comm, Nat.or_comm, ← Nat.two_pow_add_eq_or_of_lt hx, Nat.add_comm]
def wd (b0 b1 b2 b3 : Nat) : Int := ((b0 + 256 * b1 + 65536 * b2 + 16777216 * b3 : Nat) : Int)
theorem readWord_eq (s : List UInt8) (h : 4 ≤ s.length) : m_impl_readWord s = some (wd (s.getD 0 0).toNat (s.getD 1 0).toNat (s.getD 2 0).toNat (s.getD 3 0).toNat, ()) := by
 unfold m_impl_readWord
 rw [if_pos (by omega), if_pos (by omega), if_pos (by decide), if_pos (by omega), if_pos (by decide), if_pos (by omega), if_pos (by decide)]
 have t0 := (s.getD 0 0).toNat_lt
 have t1 := (s.getD 1 0).toNat_lt
 have t2 := (s.getD 2 0).toNat_lt
 have t3 := (s.getD 3 0).toNat_lt
 show some (bitsOf BinOp.or IntKind.u32 (bitsOf BinOp.or IntKind.u32 (bitsOf BinOp.or IntKind.u32 (IntKind.wrap IntKind.u32 (((s.getD 0 0).toNat : Nat) : Int)) (IntKind.wrap IntKind.u32 (IntKind.wrap IntKind.u32 (((s.getD 1 0).toNat : Nat) : Int) * 256))) (IntKind.wrap IntKind.u32 (IntKind.wrap IntKind.u32 (((s.getD 2 0).toNat : Nat) : Int) * 65536))) (IntKind.wrap IntKind.u32 (IntKind.wrap IntKind.u32 (((s.getD 3 0).toNat : Nat) : Int) * 16777216)), ()) = _
 generalize (s.getD 0 0).toNat = b0 at t0 ⊢
 generalize (s.getD 1 0).toNat = b1 at t1 ⊢
 generalize (s.getD 2 0).toNat = b2 at t2 ⊢
 generalize (s.getD 3 0).toNat = b3 at t3 ⊢
 have t0 : b0 < 256 := t0
 have t1 : b1 < 256 := t1
 have t2 : b2 < 256 := t2
 have t3 : b3 < 256 := t3
 rw [wrap32 b0 (by omega), wrap32 b1 (by omega), wrap32 b2 (by omega), wrap32 b3 (by omega)]
 rw [show (b1 : Int) * 256 = ((b1 * 256 : Nat) : Int) by omega, show (b2 : Int) * 65536 = ((b2 * 65536 : Nat) : Int) by omega, show (b3 : Int) * 16777216 = ((b3 * 16777216 : Nat) : Int) by omega]
 rw [wrap32 _ (by omega), wrap32 _ (by omega), wrap32 _ (by omega), or32 _ _ (by omega) (by omega)]
 rw [show b0 ||| b1 * 256 = b0 + b1 * 256 from or_sum b0 b1 8 t0, or32 _ _ (by omega) (by omega)]
 rw [show b0 + b1 * 256 ||| b2 * 65536 = b0 + b1 * 256 + b2 * 65536 from or_sum _ b2 16 (by show _ < 65536; omega), or32 _ _ (by omega) (by omega)]
 rw [show b0 + b1 * 256 + b2 * 65536 ||| b3 * 16777216 = b0 + b1 * 256 + b2 * 65536 + b3 * 16777216 from or_sum _ b3 24 (by show _ < 16777216; omega)]
 unfold wd
 congr 2
 omega
theorem getWord_eq (s : List UInt8) (h : s.length = 4) : ∃ g, m_spec_GetWord (List.map (fun (b : UInt8) => ((UInt8.toNat b : Nat) : Int)) s) = some ((wd (s.getD 0 0).toNat (s.getD 1 0).toNat (s.getD 2 0).toNat (s.getD 3 0).toNat, g, ()), ()) := by
 refine ⟨true, ?_⟩
 unfold m_spec_GetWord
 have hl : (List.map (fun (b : UInt8) => ((UInt8.toNat b : Nat) : Int)) s).length = 4 := by rw [List.length_map, h]
 rw [show ((((List.map (fun (b : UInt8) => ((UInt8.toNat b : Nat) : Int)) s).length : Int)) != 4) = false by rw [hl]; rfl, cond_false, if_pos (by omega), if_pos (by omega), if_pos (by omega), if_pos (by omega)]
 have g : ∀ i, i < 4 → List.getD (List.map (fun (b : UInt8) => ((UInt8.toNat b : Nat) : Int)) s) i (Int.ofNat (nat_lit 0)) = (((s.getD i 0).toNat : Nat) : Int) := fun i hi => by
  rw [List.getD_eq_getElem?_getD, List.getElem?_map, List.getD_eq_getElem?_getD, List.getElem?_eq_getElem (by omega)]; rfl
 have t0 := (s.getD 0 0).toNat_lt
 have t1 := (s.getD 1 0).toNat_lt
 have t2 := (s.getD 2 0).toNat_lt
 have t3 := (s.getD 3 0).toNat_lt
 rw [show Int.toNat 0 = 0 from rfl, show Int.toNat 1 = 1 from rfl, show Int.toNat 2 = 2 from rfl, show Int.toNat 3 = 3 from rfl, g 0 (by omega), g 1 (by omega), g 2 (by omega), g 3 (by omega)]
 generalize (s.getD 0 0).toNat = b0 at t0 ⊢
 generalize (s.getD 1 0).toNat = b1 at t1 ⊢
 generalize (s.getD 2 0).toNat = b2 at t2 ⊢
 generalize (s.getD 3 0).toNat = b3 at t3 ⊢
 have t0 : b0 < 256 := t0
 have t1 : b1 < 256 := t1
 have t2 : b2 < 256 := t2
 have t3 : b3 < 256 := t3
 rw [wr (b0 : Int) (by omega), wr (b1 : Int) (by omega), wr (b2 : Int) (by omega), wr (b3 : Int) (by omega), wr (256 * (b1 : Int)) (by omega), wr (65536 * (b2 : Int)) (by omega), wr (16777216 * (b3 : Int)) (by omega), wr ((b0 : Int) + 256 * (b1 : Int)) (by omega), wr ((b0 : Int) + 256 * (b1 : Int) + 65536 * (b2 : Int)) (by omega), wr ((b0 : Int) + 256 * (b1 : Int) + 65536 * (b2 : Int) + 16777216 * (b3 : Int)) (by omega)]
 rw [show (b0 : Int) + 256 * (b1 : Int) + 65536 * (b2 : Int) + 16777216 * (b3 : Int) = ((b0 + 256 * b1 + 65536 * b2 + 16777216 * b3 : Nat) : Int) by omega, wrap32 _ (by omega)]
 rfl
def rotV (t s : Int) : Int := bitsOf BinOp.or IntKind.u32 (IntKind.wrap IntKind.u32 (t * 2 ^ min (Int.toNat (IntKind.wrap IntKind.u64 s)) (IntKind.bits IntKind.u32))) (Int.fdiv t (2 ^ min (Int.toNat (IntKind.wrap IntKind.u64 (32 - IntKind.wrap IntKind.u64 s))) (IntKind.bits IntKind.u32)))
def shV (i : Nat) : Int := List.getD s16 (4 * (i / 16) + i % 4) (Int.ofNat (nat_lit 0))
theorem sh_eq (i : Nat) (h : i < 64) : m_spec_l04S (i : Int) = some (shV i, ()) := by
 have e : m_spec_l04S (i : Int) = (if (16 : Int) ≠ 0 then if (4 : Int) ≠ 0 then if 0 ≤ IntKind.wrap IntKind.i64 (IntKind.wrap IntKind.i64 (4 * IntKind.wrap IntKind.i64 (Int.tdiv (i : Int) 16)) + Int.tmod (i : Int) 4) ∧ IntKind.wrap IntKind.i64 (IntKind.wrap IntKind.i64 (4 * IntKind.wrap IntKind.i64 (Int.tdiv (i : Int) 16)) + Int.tmod (i : Int) 4) < ((s16.length : Nat) : Int) then if Int.toNat (IntKind.wrap IntKind.i64 (IntKind.wrap IntKind.i64 (4 * IntKind.wrap IntKind.i64 (Int.tdiv (i : Int) 16)) + Int.tmod (i : Int) 4)) < s16.length then some (List.getD s16 (Int.toNat (IntKind.wrap IntKind.i64 (IntKind.wrap IntKind.i64 (4 * IntKind.wrap IntKind.i64 (Int.tdiv (i : Int) 16)) + Int.tmod (i : Int) 4))) (Int.ofNat (nat_lit 0)), ()) else none else none else none else none) := rfl
 have hg : s16.length = 16 := rfl
 have e4 : Int.tmod (i : Int) 4 = ((i % 4 : Nat) : Int) := rfl
 rw [e, hg, div16 i (by omega), e4, wr (4 * ((i / 16 : Nat) : Int)) (by omega), wr _ (by omega), if_pos (by decide), if_pos (by decide), if_pos (by omega), if_pos (by omega)]
 unfold shV
 rw [show Int.toNat (4 * ((i / 16 : Nat) : Int) + ((i % 4 : Nat) : Int)) = 4 * (i / 16) + i % 4 by omega]
theorem k_eq (i : Nat) (h : i < 64) : m_spec_l04K (i : Int) = some (List.getD (α := Int) gv0 i (Int.ofNat (nat_lit 0)), ()) := by
 have e : m_spec_l04K (i : Int) = (if 0 ≤ (i : Int) ∧ (i : Int) < ((List.length (α := Int) gv0 : Nat) : Int) then if Int.toNat (i : Int) < List.length (α := Int) gv0 then some (List.getD (α := Int) gv0 (Int.toNat (i : Int)) (Int.ofNat (nat_lit 0)), ()) else none else none) := rfl
 have hg := gv0_len
 rw [e, hg, if_pos (by omega), if_pos (by omega)]
 rfl
theorem turn_eq : ∀ i : Nat, i < 64 → List.getD (List.getD (α := List Int) gv1 (i / 16) (Int.ofNat (nat_lit 0) :: List.replicate (nat_lit 3) (Int.ofNat (nat_lit 0)))) (i % 4) (Int.ofNat (nat_lit 0)) = shV i := by decide +kernel
theorem shW : ∀ i : Nat, i < 64 → bitsOf BinOp.and IntKind.u64 (IntKind.wrap IntKind.u64 (shV i)) 31 = IntKind.wrap IntKind.u64 (shV i) := by decide +kernel
theorem rot_eq (t : Int) (i : Nat) (h : i < 64) : m_bits_RotateLeft32 t (shV i) = some (rotV t (shV i), ()) := by
 unfold m_bits_RotateLeft32
 rw [if_pos (bitsU_pos ..), if_pos (wrapU_pos _), shW i h]
 rfl
def bO (op : BinOp) (x y : Int) : Int := bitsOf op IntKind.u32 x y
def nK : Int := if IntKind.signed IntKind.u32 = true then (-1 : Int) else IntKind.max IntKind.u32
def fV (i : Nat) (b c d : Int) : Int :=
 bif ((i / 16 : Nat) : Int) == 0 then bO .or (bO .and b c) (bO .and (bO .xor nK b) d)
 else bif ((i / 16 : Nat) : Int) == 1 then bO .or (bO .and d b) (bO .and (bO .xor nK d) c)
 else bif ((i / 16 : Nat) : Int) == 2 then bO .xor (bO .xor b c) d
 else bO .xor c (bO .or b (bO .xor nK d))
def gV (i : Nat) : Nat :=
 bif ((i / 16 : Nat) : Int) == 0 then i
 else bif ((i / 16 : Nat) : Int) == 1 then (5 * i + 1) % 16
 else bif ((i / 16 : Nat) : Int) == 2 then (3 * i + 5) % 16
 else 7 * i % 16
theorem gV_lt (i : Nat) : i < 64 → gV i ≤ 15 := by
 intro h
 unfold gV
 by_cases h0 : i / 16 = 0
 ·rw [show (((i / 16 : Nat) : Int) == 0) = true by rw [beq_iff_eq]; omega, cond_true]; omega
 ·rw [show (((i / 16 : Nat) : Int) == 0) = false by rw [beq_eq_false_iff_ne]; omega, cond_false]
  cases ((i / 16 : Nat) : Int) == 1 with
  | true => rw [cond_true]; omega
  | false =>
   rw [cond_false]
   cases ((i / 16 : Nat) : Int) == 2 with
   | true => rw [cond_true]; omega
   | false => rw [cond_false]; omega
def wdV (blk : List UInt8) (n : Nat) : Int := wd (blk.getD n 0).toNat (blk.getD (n + 1) 0).toNat (blk.getD (n + 2) 0).toNat (blk.getD (n + 3) 0).toNat
abbrev Q4 := Int × Int × Int × Int
def stepV (blk : List UInt8) (i : Nat) (q : Q4) : Q4 :=
 (q.2.2.2, IntKind.wrap IntKind.u32 (q.2.1 + rotV (IntKind.wrap IntKind.u32 (IntKind.wrap IntKind.u32 (IntKind.wrap IntKind.u32 (q.1 + fV i q.2.1 q.2.2.1 q.2.2.2) + List.getD (α := Int) gv0 i (Int.ofNat (nat_lit 0))) + wdV blk (4 * gV i))) (shV i)), q.2.1, q.2.2.1)
def mst (blk : List UInt8) (q : Q4) : Nat → Q4
 | 0 => q
 | i + 1 => stepV blk i (mst blk q i)
def fin4 (st : List Int) (q : Q4) : List Int := [IntKind.wrap IntKind.u32 (List.getD st 0 (Int.ofNat (nat_lit 0)) + q.1), IntKind.wrap IntKind.u32 (List.getD st 1 (Int.ofNat (nat_lit 0)) + q.2.1), IntKind.wrap IntKind.u32 (List.getD st 2 (Int.ofNat (nat_lit 0)) + q.2.2.1), IntKind.wrap IntKind.u32 (List.getD st 3 (Int.ofNat (nat_lit 0)) + q.2.2.2)]
def mixV (st : List Int) (blk : List UInt8) : List Int := fin4 st (mst blk (List.getD st 0 (Int.ofNat (nat_lit 0)), List.getD st 1 (Int.ofNat (nat_lit 0)), List.getD st 2 (Int.ofNat (nat_lit 0)), List.getD st 3 (Int.ofNat (nat_lit 0))) 64)
theorem tm (x : Nat) : Int.tmod (x : Int) 16 = ((x % 16 : Nat) : Int) := rfl
theorem getD_cut (blk : List UInt8) (n m k : Nat) (h : n + k < m) : ((blk.take m).drop n).getD k 0 = blk.getD (n + k) 0 := by
 rw [List.getD_eq_getElem?_getD, List.getElem?_drop, List.getElem?_take, if_pos h, List.getD_eq_getElem?_getD]
theorem mixI_eq (st : List Int) (blk : List UInt8) (hb : blk.length = 64) : m_impl_mix st blk = some (mixV st blk, ()) := by
 unfold m_impl_mix
 have h4 : ([List.getD st (nat_lit 0) (Int.ofNat (nat_lit 0)), List.getD st (nat_lit 1) (Int.ofNat (nat_lit 0)), List.getD st (nat_lit 2) (Int.ofNat (nat_lit 0)), List.getD st (nat_lit 3) (Int.ofNat (nat_lit 0))] : List Int).length = 4 := rfl
 have g0 : List.getD ([List.getD st (nat_lit 0) (Int.ofNat (nat_lit 0)), List.getD st (nat_lit 1) (Int.ofNat (nat_lit 0)), List.getD st (nat_lit 2) (Int.ofNat (nat_lit 0)), List.getD st (nat_lit 3) (Int.ofNat (nat_lit 0))] : List Int) (Int.toNat 0) (Int.ofNat (nat_lit 0)) = List.getD st 0 (Int.ofNat (nat_lit 0)) := rfl
 have g1 : List.getD ([List.getD st (nat_lit 0) (Int.ofNat (nat_lit 0)), List.getD st (nat_lit 1) (Int.ofNat (nat_lit 0)), List.getD st (nat_lit 2) (Int.ofNat (nat_lit 0)), List.getD st (nat_lit 3) (Int.ofNat (nat_lit 0))] : List Int) (Int.toNat 1) (Int.ofNat (nat_lit 0)) = List.getD st 1 (Int.ofNat (nat_lit 0)) := rfl
 have g2 : List.getD ([List.getD st (nat_lit 0) (Int.ofNat (nat_lit 0)), List.getD st (nat_lit 1) (Int.ofNat (nat_lit 0)), List.getD st (nat_lit 2) (Int.ofNat (nat_lit 0)), List.getD st (nat_lit 3) (Int.ofNat (nat_lit 0))] : List Int) (Int.toNat 2) (Int.ofNat (nat_lit 0)) = List.getD st 2 (Int.ofNat (nat_lit 0)) := rfl
 have g3 : List.getD ([List.getD st (nat_lit 0) (Int.ofNat (nat_lit 0)), List.getD st (nat_lit 1) (Int.ofNat (nat_lit 0)), List.getD st (nat_lit 2) (Int.ofNat (nat_lit 0)), List.getD st (nat_lit 3) (Int.ofNat (nat_lit 0))] : List Int) (Int.toNat 3) (Int.ofNat (nat_lit 0)) = List.getD st 3 (Int.ofNat (nat_lit 0)) := rfl
 generalize ([List.getD st (nat_lit 0) (Int.ofNat (nat_lit 0)), List.getD st (nat_lit 1) (Int.ofNat (nat_lit 0)), List.getD st (nat_lit 2) (Int.ofNat (nat_lit 0)), List.getD st (nat_lit 3) (Int.ofNat (nat_lit 0))] : List Int) = A at h4 g0 g1 g2 g3 ⊢
 have c0 : Int.toNat 0 < A.length := by rw [h4]; decide
 have c1 : Int.toNat 1 < A.length := by rw [h4]; decide
 have c2 : Int.toNat 2 < A.length := by rw [h4]; decide
 have c3 : Int.toNat 3 < A.length := by rw [h4]; decide
 rw [if_pos (by omega), if_pos c0, if_pos (by omega), if_pos c1, if_pos (by omega), if_pos c2, if_pos (by omega), if_pos c3]
 generalize hq0 : ((List.getD st 0 (Int.ofNat (nat_lit 0)), List.getD st 1 (Int.ofNat (nat_lit 0)), List.getD st 2 (Int.ofNat (nat_lit 0)), List.getD st 3 (Int.ofNat (nat_lit 0))) : Q4) = q0
 rw [g0, g1, g2, g3]
 refine bind_eq (x := (((), (), (mst blk q0 64).1, (mst blk q0 64).2.1, (mst blk q0 64).2.2.1, (mst blk q0 64).2.2.2, ()), A, Int.ofNat (nat_lit 0) :: List.replicate (nat_lit 3) (Int.ofNat (nat_lit 0)), ()))
  (loopC_inv _ (fun n t => ∃ i : Nat, t = ((blk, (), (), (mst blk q0 i).1, (mst blk q0 i).2.1, (mst blk q0 i).2.2.1, (mst blk q0 i).2.2.2, (i : Int), ()), A, Int.ofNat (nat_lit 0) :: List.replicate (nat_lit 3) (Int.ofNat (nat_lit 0)), ()) ∧ i ≤ 64 ∧ n = 64 - i)
  (fun _ => some (((), (), (mst blk q0 64).1, (mst blk q0 64).2.1, (mst blk q0 64).2.2.1, (mst blk q0 64).2.2.2, ()), A, Int.ofNat (nat_lit 0) :: List.replicate (nat_lit 3) (Int.ofNat (nat_lit 0)), ())) ?_ _ 64 _ ⟨0, by rw [← hq0]; rfl, by omega, rfl⟩ (by omega)) ?_
 ·rintro n t k ⟨i, rfl, hi, rfl⟩ hk
  dsimp only
  by_cases hlt : i < 64
  ·have hstep : mst blk q0 (i + 1) = stepV blk i (mst blk q0 i) := rfl
   have hg := gV_lt i hlt
   rw [decide_eq_true (show (i : Int) < 64 by omega), cond_true, if_pos (by decide)]
   refine bind_eq (x := ((blk, (), (), (mst blk q0 i).1, (mst blk q0 i).2.1, (mst blk q0 i).2.2.1, (mst blk q0 i).2.2.2, (i : Int), fV i (mst blk q0 i).2.1 (mst blk q0 i).2.2.1 (mst blk q0 i).2.2.2, ((gV i : Nat) : Int), (i : Int), ()), A, Int.ofNat (nat_lit 0) :: List.replicate (nat_lit 3) (Int.ofNat (nat_lit 0)), ())) ?_ ?_
   ·rw [div16 i (by omega)]
    unfold fV gV
    cases ((i / 16 : Nat) : Int) == 0 with
    | true => rfl
    | false =>
     simp only [cond_false]
     cases ((i / 16 : Nat) : Int) == 1 with
     | true =>
      rw [cond_true, if_pos (by decide)]
      have e : IntKind.wrap IntKind.i64 (IntKind.wrap IntKind.i64 (5 * (i : Int)) + 1) = ((5 * i + 1 : Nat) : Int) := by rw [wr (5 * (i : Int)) (by omega), wr _ (by omega)]; omega
      rw [e, tm]; rfl
     | false =>
      simp only [cond_false]
      cases ((i / 16 : Nat) : Int) == 2 with
      | true =>
       rw [cond_true, if_pos (by decide)]
       have e : IntKind.wrap IntKind.i64 (IntKind.wrap IntKind.i64 (3 * (i : Int)) + 5) = ((3 * i + 5 : Nat) : Int) := by rw [wr (3 * (i : Int)) (by omega), wr _ (by omega)]; omega
       rw [e, tm]; rfl
      | false =>
       rw [cond_false, if_pos (by decide)]
       have e : IntKind.wrap IntKind.i64 (7 * (i : Int)) = ((7 * i : Nat) : Int) := by rw [wr (7 * (i : Int)) (by omega)]; omega
       rw [e, tm]; rfl
   dsimp only
   have hgl := gv0_len
   have hgl1 := gv1_len
   have hq : i / 16 < 4 := by omega
   have e4 : Int.tmod (i : Int) 4 = ((i % 4 : Nat) : Int) := rfl
   rw [if_pos (by rw [hgl]; omega), wr (4 * ((gV i : Nat) : Int)) (by omega), if_pos (by rw [hb]; omega)]
   rw [show Int.toNat (4 * ((gV i : Nat) : Int)) = 4 * gV i by omega, Int.toNat_natCast]
   refine bind_eq (readWord_eq _ (by rw [List.length_drop, List.length_take, hb]; omega)) ?_
   rw [getD_cut _ _ _ 0 (by omega), getD_cut _ _ _ 1 (by omega), getD_cut _ _ _ 2 (by omega), getD_cut _ _ _ 3 (by omega)]
   dsimp only
   rw [if_pos (by decide), if_pos (by decide), div16 i (by omega), e4, if_pos (by rw [hgl1]; omega), Int.toNat_natCast (i / 16), Int.toNat_natCast (i % 4), if_pos (by rw [gv1_row _ hq]; omega), turn_eq i hlt, rot_eq _ i hlt, Option.bind_some]
   dsimp only
   rw [wr1 i (by omega)]
   refine hk (64 - (i + 1)) _ (by omega) ⟨i + 1, ?_, by omega, rfl⟩
   rw [hstep]
   rfl
  ·have : i = 64 := by omega
   subst this
   rw [decide_eq_false (by omega), cond_false]
 ·dsimp only
  rw [if_pos (by omega), if_pos c0, if_pos (by omega), if_pos c1, if_pos (by omega), if_pos c2, if_pos (by omega), if_pos c3, g0, g1, g2, g3]
  unfold mixV fin4
  rw [hq0]
  rfl
theorem mixS_eq (st : List Int) (blk : List UInt8) (hb : blk.length = 64) : m_spec_MixStrong st blk = some (mixV st blk, ()) := by
 unfold m_spec_MixStrong
 rw [show (((blk.length : Int)) != 64) = false by rw [hb]; rfl, cond_false]
 have h4 : ([List.getD st (nat_lit 0) (Int.ofNat (nat_lit 0)), List.getD st (nat_lit 1) (Int.ofNat (nat_lit 0)), List.getD st (nat_lit 2) (Int.ofNat (nat_lit 0)), List.getD st (nat_lit 3) (Int.ofNat (nat_lit 0))] : List Int).length = 4 := rfl
 have g0 : List.getD ([List.getD st (nat_lit 0) (Int.ofNat (nat_lit 0)), List.getD st (nat_lit 1) (Int.ofNat (nat_lit 0)), List.getD st (nat_lit 2) (Int.ofNat (nat_lit 0)), List.getD st (nat_lit 3) (Int.ofNat (nat_lit 0))] : List Int) (Int.toNat 0) (Int.ofNat (nat_lit 0)) = List.getD st 0 (Int.ofNat (nat_lit 0)) := rfl
 have g1 : List.getD ([List.getD st (nat_lit 0) (Int.ofNat (nat_lit 0)), List.getD st (nat_lit 1) (Int.ofNat (nat_lit 0)), List.getD st (nat_lit 2) (Int.ofNat (nat_lit 0)), List.getD st (nat_lit 3) (Int.ofNat (nat_lit 0))] : List Int) (Int.toNat 1) (Int.ofNat (nat_lit 0)) = List.getD st 1 (Int.ofNat (nat_lit 0)) := rfl
 have g2 : List.getD ([List.getD st (nat_lit 0) (Int.ofNat (nat_lit 0)), List.getD st (nat_lit 1) (Int.ofNat (nat_lit 0)), List.getD st (nat_lit 2) (Int.ofNat (nat_lit 0)), List.getD st (nat_lit 3) (Int.ofNat (nat_lit 0))] : List Int) (Int.toNat 2) (Int.ofNat (nat_lit 0)) = List.getD st 2 (Int.ofNat (nat_lit 0)) := rfl
 have g3 : List.getD ([List.getD st (nat_lit 0) (Int.ofNat (nat_lit 0)), List.getD st (nat_lit 1) (Int.ofNat (nat_lit 0)), List.getD st (nat_lit 2) (Int.ofNat (nat_lit 0)), List.getD st (nat_lit 3) (Int.ofNat (nat_lit 0))] : List Int) (Int.toNat 3) (Int.ofNat (nat_lit 0)) = List.getD st 3 (Int.ofNat (nat_lit 0)) := rfl
 generalize ([List.getD st (nat_lit 0) (Int.ofNat (nat_lit 0)), List.getD st (nat_lit 1) (Int.ofNat (nat_lit 0)), List.getD st (nat_lit 2) (Int.ofNat (nat_lit 0)), List.getD st (nat_lit 3) (Int.ofNat (nat_lit 0))] : List Int) = A at h4 g0 g1 g2 g3 ⊢
 have c0 : Int.toNat 0 < A.length := by rw [h4]; decide
 have c1 : Int.toNat 1 < A.length := by rw [h4]; decide
 have c2 : Int.toNat 2 < A.length := by rw [h4]; decide
 have c3 : Int.toNat 3 < A.length := by rw [h4]; decide
 rw [if_pos (by omega), if_pos c0, if_pos (by omega), if_pos c1, if_pos (by omega), if_pos c2, if_pos (by omega), if_pos c3]
 generalize hq0 : ((List.getD st 0 (Int.ofNat (nat_lit 0)), List.getD st 1 (Int.ofNat (nat_lit 0)), List.getD st 2 (Int.ofNat (nat_lit 0)), List.getD st 3 (Int.ofNat (nat_lit 0))) : Q4) = q0
 rw [g0, g1, g2, g3]
 refine bind_eq (x := (((), (), (mst blk q0 64).1, (mst blk q0 64).2.1, (mst blk q0 64).2.2.1, (mst blk q0 64).2.2.2, ()), A, Int.ofNat (nat_lit 0) :: List.replicate (nat_lit 3) (Int.ofNat (nat_lit 0)), ()))
  (loopC_inv _ (fun n t => ∃ i : Nat, t = ((blk, (), (), (mst blk q0 i).1, (mst blk q0 i).2.1, (mst blk q0 i).2.2.1, (mst blk q0 i).2.2.2, (i : Int), ()), A, Int.ofNat (nat_lit 0) :: List.replicate (nat_lit 3) (Int.ofNat (nat_lit 0)), ()) ∧ i ≤ 64 ∧ n = 64 - i)
  (fun _ => some (((), (), (mst blk q0 64).1, (mst blk q0 64).2.1, (mst blk q0 64).2.2.1, (mst blk q0 64).2.2.2, ()), A, Int.ofNat (nat_lit 0) :: List.replicate (nat_lit 3) (Int.ofNat (nat_lit 0)), ())) ?_ _ 64 _ ⟨0, by rw [← hq0]; rfl, by omega, rfl⟩ (by omega)) ?_
 ·rintro n t k ⟨i, rfl, hi, rfl⟩ hk
  dsimp only
  by_cases hlt : i < 64
  ·have hstep : mst blk q0 (i + 1) = stepV blk i (mst blk q0 i) := rfl
   have hg := gV_lt i hlt
   rw [decide_eq_true (show (i : Int) < 64 by omega), cond_true, if_pos (by decide)]
   refine bind_eq (x := ((blk, (), (), (mst blk q0 i).1, (mst blk q0 i).2.1, (mst blk q0 i).2.2.1, (mst blk q0 i).2.2.2, (i : Int), fV i (mst blk q0 i).2.1 (mst blk q0 i).2.2.1 (mst blk q0 i).2.2.2, ((gV i : Nat) : Int), ()), A, Int.ofNat (nat_lit 0) :: List.replicate (nat_lit 3) (Int.ofNat (nat_lit 0)), ())) ?_ ?_
   ·rw [div16 i (by omega)]
    unfold fV gV
    cases ((i / 16 : Nat) : Int) == 0 with
    | true => rfl
    | false =>
     simp only [cond_false]
     cases ((i / 16 : Nat) : Int) == 1 with
     | true =>
      rw [cond_true, if_pos (by decide)]
      have e : IntKind.wrap IntKind.i64 (IntKind.wrap IntKind.i64 (5 * (i : Int)) + 1) = ((5 * i + 1 : Nat) : Int) := by rw [wr (5 * (i : Int)) (by omega), wr _ (by omega)]; omega
      rw [e, tm]; rfl
     | false =>
      simp only [cond_false]
      cases ((i / 16 : Nat) : Int) == 2 with
      | true =>
       rw [cond_true, if_pos (by decide)]
       have e : IntKind.wrap IntKind.i64 (IntKind.wrap IntKind.i64 (3 * (i : Int)) + 5) = ((3 * i + 5 : Nat) : Int) := by rw [wr (3 * (i : Int)) (by omega), wr _ (by omega)]; omega
       rw [e, tm]; rfl
      | false =>
       rw [cond_false, if_pos (by decide)]
       have e : IntKind.wrap IntKind.i64 (7 * (i : Int)) = ((7 * i : Nat) : Int) := by rw [wr (7 * (i : Int)) (by omega)]; omega
       rw [e, tm]; rfl
   dsimp only
   rw [wr (4 * ((gV i : Nat) : Int)) (by omega), wr (4 * ((gV i : Nat) : Int) + 4) (by omega), if_pos (by rw [hb]; omega)]
   rw [show Int.toNat (4 * ((gV i : Nat) : Int)) = 4 * gV i by omega, show Int.toNat (4 * ((gV i : Nat) : Int) + 4) = 4 * gV i + 4 by omega]
   obtain ⟨gg, hw⟩ := getWord_eq ((blk.take (4 * gV i + 4)).drop (4 * gV i)) (by rw [List.length_drop, List.length_take, hb]; omega)
   refine bind_eq hw ?_
   rw [getD_cut _ _ _ 0 (by omega), getD_cut _ _ _ 1 (by omega), getD_cut _ _ _ 2 (by omega), getD_cut _ _ _ 3 (by omega)]
   dsimp only
   rw [k_eq i hlt, Option.bind_some, sh_eq i hlt, Option.bind_some]
   dsimp only
   rw [if_pos (wrapU_pos _), if_pos (wrapU_pos _), wr1 i (by omega)]
   refine hk (64 - (i + 1)) _ (by omega) ⟨i + 1, ?_, by omega, rfl⟩
   rw [hstep]
   rfl
  ·have : i = 64 := by omega
   subst this
   rw [decide_eq_false (by omega), cond_false]
 ·dsimp only
  rw [if_pos (by omega), if_pos c0, if_pos (by omega), if_pos c1, if_pos (by omega), if_pos c2, if_pos (by omega), if_pos c3, g0, g1, g2, g3]
  unfold mixV fin4
  rw [hq0]
  rfl
theorem cp4 (l : List Int) (h : l.length = 4) : ([List.getD l (nat_lit 0) (Int.ofNat (nat_lit 0)), List.getD l (nat_lit 1) (Int.ofNat (nat_lit 0)), List.getD l (nat_lit 2) (Int.ofNat (nat_lit 0)), List.getD l (nat_lit 3) (Int.ofNat (nat_lit 0))] : List Int) = l := by
 match l, h with
 | [_, _, _, _], _ => rfl
theorem cp16 (l : List Int) (h : l.length = 16) : ([List.getD l (nat_lit 0) (Int.ofNat (nat_lit 0)), List.getD l (nat_lit 1) (Int.ofNat (nat_lit 0)), List.getD l (nat_lit 2) (Int.ofNat (nat_lit 0)), List.getD l (nat_lit 3) (Int.ofNat (nat_lit 0)), List.getD l (nat_lit 4) (Int.ofNat (nat_lit 0)), List.getD l (nat_lit 5) (Int.ofNat (nat_lit 0)), List.getD l (nat_lit 6) (Int.ofNat (nat_lit 0)), List.getD l (nat_lit 7) (Int.ofNat (nat_lit 0)), List.getD l (nat_lit 8) (Int.ofNat (nat_lit 0)), List.getD l (nat_lit 9) (Int.ofNat (nat_lit 0)), List.getD l (nat_lit 10) (Int.ofNat (nat_lit 0)), List.getD l (nat_lit 11) (Int.ofNat (nat_lit 0)), List.getD l (nat_lit 12) (Int.ofNat (nat_lit 0)), List.getD l (nat_lit 13) (Int.ofNat (nat_lit 0)), List.getD l (nat_lit 14) (Int.ofNat (nat_lit 0)), List.getD l (nat_lit 15) (Int.ofNat (nat_lit 0))] : List Int) = l := by
 match l, h with
 | [_, _, _, _, _, _, _, _, _, _, _, _, _, _, _, _], _ => rfl
theorem strOf_cut (l : List Int) (a b : Nat) : strOg ((l.take a).drop b) = ((strOg l).take a).drop b := by
 unfold strOg
 rw [List.map_drop, List.map_take]
def W4 (l : List Int) : Prop := ∃ a b c d : Nat, l = [(a : Int), (b : Int), (c : Int), (d : Int)] ∧ a < 4294967296 ∧ b < 4294967296 ∧ c < 4294967296 ∧ d < 4294967296
theorem w32 (x : Int) : ∃ a : Nat, IntKind.wrap IntKind.u32 x = (a : Int) ∧ a < 4294967296 := by
 refine ⟨(IntKind.wrap IntKind.u32 x).toNat, ?_, ?_⟩
 ·simp [IntKind.wrap, IntKind.signed, IntKind.bits]; omega
 ·simp [IntKind.wrap, IntKind.signed, IntKind.bits]; omega
theorem mixV_ok (st : List Int) (blk : List UInt8) : W4 (mixV st blk) := by
 unfold mixV fin4
 obtain ⟨a, ea, ha⟩ := w32 (List.getD st 0 (Int.ofNat (nat_lit 0)) + (mst blk (List.getD st 0 (Int.ofNat (nat_lit 0)), List.getD st 1 (Int.ofNat (nat_lit 0)), List.getD st 2 (Int.ofNat (nat_lit 0)), List.getD st 3 (Int.ofNat (nat_lit 0))) 64).1)
 obtain ⟨b, eb, hb⟩ := w32 (List.getD st 1 (Int.ofNat (nat_lit 0)) + (mst blk (List.getD st 0 (Int.ofNat (nat_lit 0)), List.getD st 1 (Int.ofNat (nat_lit 0)), List.getD st 2 (Int.ofNat (nat_lit 0)), List.getD st 3 (Int.ofNat (nat_lit 0))) 64).2.1)
 obtain ⟨c, ec, hc⟩ := w32 (List.getD st 2 (Int.ofNat (nat_lit 0)) + (mst blk (List.getD st 0 (Int.ofNat (nat_lit 0)), List.getD st 1 (Int.ofNat (nat_lit 0)), List.getD st 2 (Int.ofNat (nat_lit 0)), List.getD st 3 (Int.ofNat (nat_lit 0))) 64).2.2.1)
 obtain ⟨d, ed, hd⟩ := w32 (List.getD st 3 (Int.ofNat (nat_lit 0)) + (mst blk (List.getD st 0 (Int.ofNat (nat_lit 0)), List.getD st 1 (Int.ofNat (nat_lit 0)), List.getD st 2 (Int.ofNat (nat_lit 0)), List.getD st 3 (Int.ofNat (nat_lit 0))) 64).2.2.2)
 exact ⟨a, b, c, d, by rw [ea, eb, ec, ed], ha, hb, hc, hd⟩
def stV (B : List UInt8) : Nat → List Int
 | 0 => [1732584193, 4023233417, 2562383102, 271733878]
 | j + 1 => mixV (stV B j) ((B.take (64 * j + 64)).drop (64 * j))
theorem stV_ok (B : List UInt8) : ∀ j, W4 (stV B j)
 | 0 => ⟨1732584193, 4023233417, 2562383102, 271733878, rfl, by decide, by decide, by decide, by decide⟩
 | j + 1 => mixV_ok _ _
theorem stV_len (B : List UInt8) (j : Nat) : (stV B j).length = 4 := by
 obtain ⟨a, b, c, d, e, _⟩ := stV_ok B j
 rw [e]; rfl
theorem mixV_len (st : List Int) (blk : List UInt8) : (mixV st blk).length = 4 := rfl
theorem putWord_eq (x : Nat) (h : x < 4294967296) : m_spec_PutWord (x : Int) = some (le8 4 x, ()) := by
 unfold m_spec_PutWord
 rw [if_pos (by decide), if_pos (by decide), if_pos (by decide), if_pos (by decide), if_pos (by decide), if_pos (by decide), wr (x : Int) (by omega)]
 have e1 : Int.tdiv (x : Int) 256 = ((x / 256 : Nat) : Int) := rfl
 have e2 : Int.tdiv (x : Int) 65536 = ((x / 65536 : Nat) : Int) := rfl
 have e3 : Int.tdiv (x : Int) 16777216 = ((x / 16777216 : Nat) : Int) := rfl
 have m : ∀ y : Nat, Int.tmod (y : Int) 256 = ((y % 256 : Nat) : Int) := fun y => rfl
 have w : ∀ y : Nat, y < 256 → IntKind.wrap IntKind.u8 (y : Int) = (y : Int) := fun y hy => wrapB_id _ (by omega)
 rw [e1, e2, e3, wr ((x / 256 : Nat) : Int) (by omega), wr ((x / 65536 : Nat) : Int) (by omega), wr ((x / 16777216 : Nat) : Int) (by omega), m, m, m, w _ (by omega), w _ (by omega), w _ (by omega), w _ (by omega)]
 have d1 : x / 256 / 256 = x / 65536 := by omega
 have d2 : x / 65536 / 256 = x / 16777216 := by omega
 have d3 : x / 16777216 % 256 = x / 16777216 := by omega
 show some ([((x % 256 : Nat) : Int), ((x / 256 % 256 : Nat) : Int), ((x / 65536 % 256 : Nat) : Int), ((x / 16777216 : Nat) : Int)], ()) = some ([((x % 256 : Nat) : Int), ((x / 256 % 256 : Nat) : Int), ((x / 256 / 256 % 256 : Nat) : Int), ((x / 256 / 256 / 256 % 256 : Nat) : Int)], ())
 rw [d1, d2, d3]
def sumW (a b c d : Nat) : List Int := le8 4 a ++ le8 4 b ++ le8 4 c ++ le8 4 d
theorem sumW_at (a b c d j q : Nat) (hj : j < 4) (hq : q < 4) : (sumW a b c d).getD (4 * j + q) (Int.ofNat (nat_lit 0)) = (le8 4 ([a, b, c, d].getD j 0)).getD q (Int.ofNat (nat_lit 0)) := by
 rcases (show j = 0 ∨ j = 1 ∨ j = 2 ∨ j = 3 by omega) with rfl | rfl | rfl | rfl <;>
 rcases (show q = 0 ∨ q = 1 ∨ q = 2 ∨ q = 3 by omega) with rfl | rfl | rfl | rfl <;> rfl
def outW (W : List Int) (i : Nat) : List Int := W.take i ++ List.replicate (16 - i) (0 : Int)
theorem outW_len (W : List Int) (h : W.length = 16) (i : Nat) (hi : i ≤ 16) : (outW W i).length = 16 := by
 unfold outW
 rw [List.length_append, List.length_take, List.length_replicate]; omega
theorem outW_set (W : List Int) (h : W.length = 16) (i : Nat) (hi : i < 16) : (outW W i).set i (W.getD i (Int.ofNat (nat_lit 0))) = outW W (i + 1) := by
 unfold outW
 have hl : (W.take i).length = i := by rw [List.length_take]; omega
 rw [List.set_append_right _ _ (by omega), hl, Nat.sub_self, show 16 - i = (16 - (i + 1)) + 1 by omega, List.replicate_succ, List.set_cons_zero, List.take_add_one, List.getD_eq_getElem?_getD, List.getElem?_eq_getElem (by omega), List.append_assoc]
 rfl
theorem pad_loop2 (s : List UInt8) (h : s.length ≤ 20000) : ∃ o, loopC (s.length + (iB s ++ [128]).length + 300) padF ((s, (), ()), iB s ++ [128], ()) = some ((s, (), ()), o, ()) ∧ o.length % 64 = 56 ∧ o.length ≤ 20100 ∧ Bd o ∧ o.take s.length = iB s ∧ s.length + 1 ≤ o.length ∧ o.length ≤ s.length + 64 := by
 have hi : (iB s).length = s.length := by unfold iB; rw [List.length_map]
 obtain ⟨t, e, o, rfl, h1, h2, h3, h4, h5⟩ := loopC_some' padF (fun n t => ∃ o : List Int, t = ((s, (), ()), o, ()) ∧ n = (120 - o.length % 64) % 64 ∧ o.length + n ≤ s.length + 64 ∧ Bd o ∧ o.take s.length = iB s ∧ s.length + 1 ≤ o.length) (fun t => ∃ o : List Int, t = ((s, (), ()), o, ()) ∧ o.length % 64 = 56 ∧ o.length ≤ s.length + 64 ∧ Bd o ∧ o.take s.length = iB s ∧ s.length + 1 ≤ o.length)
  (by
   rintro n t k ⟨o, rfl, rfl, ho, hB, hT, hL⟩ hk
   unfold padF
   dsimp only
   rw [if_pos (by decide)]
   have e : Int.tmod (o.length : Int) 64 = ((o.length % 64 : Nat) : Int) := rfl
   rw [e]
   by_cases h56 : o.length % 64 = 56
   ·rw [show ((((o.length % 64 : Nat) : Int)) != 56) = false by rw [h56]; rfl, cond_false]
    exact ⟨_, rfl, o, rfl, h56, by omega, hB, hT, hL⟩
   ·rw [show ((((o.length % 64 : Nat) : Int)) != 56) = true by rw [bne_iff_ne]; omega, cond_true, if_pos (by simp only [List.length_cons, List.length_nil]; omega)]
    exact hk ((120 - (o.length + 1) % 64) % 64) _ (by omega) ⟨_, rfl, by rw [List.length_append]; rfl, by rw [List.length_append]; simp only [List.length_cons, List.length_nil]; omega, bd_app hB (bd_one (by decide)), by rw [List.take_append_of_le_length (by omega)]; exact hT, by rw [List.length_append]; omega⟩)
  (s.length + (iB s ++ [128]).length + 300) ((120 - (s.length + 1) % 64) % 64) ((s, (), ()), iB s ++ [128], ()) ⟨_, rfl, by rw [List.length_append, hi]; rfl, by rw [List.length_append, hi]; simp only [List.length_cons, List.length_nil]; omega, bd_app (bd_iB s) (bd_one (by decide)), List.take_left' hi, by rw [List.length_append, hi]; simp only [List.length_cons, List.length_nil]; omega⟩ (by omega)
 exact ⟨o, e, h1, by omega, h3, h4, h5, h2⟩
theorem pad_eq2 (s : List UInt8) (h : s.length ≤ 20000) : ∃ P : List Int, m_spec_PadStrong s = some (P, ()) ∧ m_impl_padded s = some (strOg P, ()) ∧ P.length % 64 = 0 ∧ 0 < P.length ∧ P.length ≤ 21000 ∧ Bd P ∧ P.take s.length = iB s ∧ s.length + 9 ≤ P.length ∧ P.length ≤ s.length + 72 := by
 obtain ⟨o, e, h1, h2, h3, h4, h5, h6⟩ := pad_loop2 s h
 have hi : (iB s).length = s.length := by unfold iB; rw [List.length_map]
 refine ⟨o ++ le8 8 (8 * s.length), ?_, ?_, ?_, ?_, ?_, bd_app h3 (bd_le8 _ _), by rw [List.take_append_of_le_length (by omega)]; exact h4, by rw [List.length_append]; show _ ≤ _ + 8; omega, by rw [List.length_append]; show _ + 8 ≤ _; omega⟩
 ·unfold m_spec_PadStrong
  rw [decide_eq_false (by omega), cond_false, if_pos (by rw [List.length_map]; simp only [List.length_cons, List.length_nil]; omega)]
  refine bind_eq (show loopC _ _ _ = _ from e) ?_
  dsimp only
  rw [wr (8 * (s.length : Int)) (by omega)]
  refine bind_eq (x := (((), ()), o ++ le8 8 (8 * s.length), ())) (loopC_inv _ (fun n t => ∃ (j : Nat) (y : Nat) (q : List Int), t = (((), (y : Int), (j : Int), ()), q, ()) ∧ j ≤ 8 ∧ q ++ le8 (8 - j) y = o ++ le8 8 (8 * s.length) ∧ q.length ≤ 20200 + j ∧ y ≤ 200000 ∧ n = 8 - j)
   (fun _ => some (((), ()), o ++ le8 8 (8 * s.length), ())) ?_ _ 8 _ ⟨0, 8 * s.length, o, ?_, by omega, rfl, by omega, by omega, rfl⟩ (by omega)) rfl
  ·rintro n t k ⟨j, y, q, rfl, hj, hq, hql, hy, rfl⟩ hk
   dsimp only
   by_cases hlt : j < 8
   ·have e1 : IntKind.wrap IntKind.u8 (Int.tmod (y : Int) 256) = ((y % 256 : Nat) : Int) := by
     have e : Int.tmod (y : Int) 256 = ((y % 256 : Nat) : Int) := rfl
     rw [e, wrapB_id _ (by omega)]
    have e2 : IntKind.wrap IntKind.i64 (Int.tdiv (y : Int) 256) = ((y / 256 : Nat) : Int) := by
     have e : Int.tdiv (y : Int) 256 = ((y / 256 : Nat) : Int) := rfl
     rw [e, wr _ (by omega)]
    rw [decide_eq_true (show (j : Int) < 8 by omega), cond_true, if_pos (by decide), if_pos (by simp only [List.length_cons, List.length_nil]; omega), if_pos (by decide), e1, e2, wr1 j (by omega)]
    refine hk (8 - (j + 1)) _ (by omega) ⟨j + 1, y / 256, _, rfl, by omega, ?_, by rw [List.length_append]; simp only [List.length_cons, List.length_nil]; omega, by omega, rfl⟩
    rw [List.append_assoc, ← hq, show 8 - j = (8 - (j + 1)) + 1 by omega]
    rfl
   ·have : j = 8 := by omega
    subst this
    rw [decide_eq_false (by omega), cond_false]
    rw [show le8 (8 - 8) y = [] from rfl, List.append_nil] at hq
    rw [hq]
  ·show _ = (((), ((8 * s.length : Nat) : Int), ((0 : Nat) : Int), ()), o, ())
   rw [show ((8 * s.length : Nat) : Int) = 8 * (s.length : Int) by omega]; rfl
 ·unfold m_impl_padded
  rw [if_pos (by rw [List.length_map]; simp only [List.length_cons, List.length_nil]; omega)]
  refine bind_eq (show loopC _ _ _ = _ from e) ?_
  dsimp only
  rw [wr (8 * (s.length : Int)) (by omega)]
  have eL : IntKind.wrap IntKind.u32 (8 * (s.length : Int)) = ((8 * s.length : Nat) : Int) := by
   rw [show 8 * (s.length : Int) = ((8 * s.length : Nat) : Int) by omega]; exact wrap32 _ (by omega)
  have eH : IntKind.wrap IntKind.u32 (Int.fdiv (8 * (s.length : Int)) (2 ^ min (Int.toNat 32) (IntKind.bits IntKind.i64))) = ((0 : Nat) : Int) := by
   have : Int.fdiv (8 * (s.length : Int)) (2 ^ min (Int.toNat 32) (IntKind.bits IntKind.i64)) = ((0 : Nat) : Int) := by
    show Int.fdiv (8 * (s.length : Int)) 4294967296 = _
    rw [Int.fdiv_eq_ediv_of_nonneg _ (by decide)]; omega
   rw [this]; rfl
  rw [eL, wordText_eq _ (by omega), Option.bind_some]
  dsimp only
  have l4 : ∀ y, (strOg (le8 4 y)).length = 4 := fun y => by rw [strOf_len]; rfl
  rw [if_pos (by rw [List.length_map, l4]; show _ < 9223372036854775808; omega), if_pos (by decide), eH, wordText_eq 0 (by omega), Option.bind_some]
  dsimp only
  rw [if_pos (by rw [List.length_append, List.length_map, l4, l4]; show _ < 9223372036854775808; omega)]
  have e8 : le8 8 (8 * s.length) = le8 4 (8 * s.length) ++ le8 4 0 := by
   simp only [le8, List.cons_append, List.nil_append, List.cons.injEq, and_true]
   refine ⟨trivial, trivial, trivial, trivial, ?_, ?_, ?_, ?_⟩ <;> omega
  rw [e8, strOf_app, strOf_app, ← List.append_assoc]
  rfl
 ·rw [List.length_append]; show (o.length + 8) % 64 = 0; omega
 ·rw [List.length_append]; show 0 < o.length + 8; omega
 ·rw [List.length_append]; show o.length + 8 ≤ 21000; omega
theorem strong_of (s : List UInt8) (h : s.length ≤ 20000) {P : List Int} (eS : m_spec_PadStrong s = some (P, ())) (eI : m_impl_padded s = some (strOg P, ())) (hm : P.length % 64 = 0) (h0 : 0 < P.length) (hl : P.length ≤ 21000) :
    ∃ a b c d : Nat, stV (strOg P) (P.length / 64) = [(a : Int), (b : Int), (c : Int), (d : Int)] ∧ (a < 4294967296 ∧ b < 4294967296 ∧ c < 4294967296 ∧ d < 4294967296) ∧ m_spec_StrongOf s = some (sumW a b c d, ()) ∧ m_impl_strong s = some (strOg (sumW a b c d), ()) := by
 have hBl : (strOg P).length = P.length := strOf_len P
 obtain ⟨a, b, c, d, est, ha, hb, hc, hd⟩ := stV_ok (strOg P) (P.length / 64)
 refine ⟨a, b, c, d, est, ⟨ha, hb, hc, hd⟩, ?_, ?_⟩
 ·unfold m_spec_StrongOf
  refine bind_eq eS ?_
  dsimp only
  rw [show (((P.length : Int)) == 0) = false by rw [beq_eq_false_iff_ne]; omega, cond_false]
  refine bind_eq (x := (((), (), (), ()), Int.ofNat (nat_lit 0) :: List.replicate (nat_lit 15) (Int.ofNat (nat_lit 0)), List.replicate (16 : Nat) (0 : Int), stV (strOg P) (P.length / 64), ())) ?_ ?_
  ·refine loopC_inv _ (fun n t => ∃ j : Nat, t = (((), (), P, (), ((64 * j : Nat) : Int), ()), Int.ofNat (nat_lit 0) :: List.replicate (nat_lit 15) (Int.ofNat (nat_lit 0)), List.replicate (16 : Nat) (0 : Int), stV (strOg P) j, ()) ∧ 64 * j ≤ P.length ∧ n = P.length - j) (fun _ => some (((), (), (), ()), Int.ofNat (nat_lit 0) :: List.replicate (nat_lit 15) (Int.ofNat (nat_lit 0)), List.replicate (16 : Nat) (0 : Int), stV (strOg P) (P.length / 64), ())) ?_ _ P.length _ ⟨0, rfl, by omega, rfl⟩ (by omega)
   rintro n t k ⟨j, rfl, hj, rfl⟩ hk
   dsimp only
   rw [wr (((64 * j : Nat) : Int) + 64) (by omega)]
   by_cases hlt : 64 * j + 64 ≤ P.length
   ·rw [decide_eq_true (by omega), cond_true, if_pos (by omega)]
    have e1 : List.map (fun (n : Int) => UInt8.ofNat (Int.toNat n)) (List.drop (Int.toNat ((64 * j : Nat) : Int)) (List.take (Int.toNat (((64 * j : Nat) : Int) + 64)) P)) = ((strOg P).take (64 * j + 64)).drop (64 * j) := by
     rw [← strOf_cut]; rfl
    rw [e1, cp4 _ (stV_len _ j)]
    refine bind_eq (mixS_eq _ _ (by rw [List.length_drop, List.length_take]; omega)) ?_
    dsimp only
    rw [cp4 _ (mixV_len _ _)]
    exact hk (P.length - (j + 1)) _ (by omega) ⟨j + 1, rfl, by omega, rfl⟩
   ·rw [decide_eq_false (by omega), cond_false, show j = P.length / 64 by omega]
  ·dsimp only
   rw [est]
   have hst : ∀ j : Nat, List.getD ([(a : Int), (b : Int), (c : Int), (d : Int)] : List Int) j (Int.ofNat (nat_lit 0)) = (([a, b, c, d].getD j 0 : Nat) : Int) := by
    intro j
    match j with
    | 0 => rfl
    | 1 => rfl
    | 2 => rfl
    | 3 => rfl
    | (j + 4) => rfl
   have hlt4 : ∀ j : Nat, [a, b, c, d].getD j 0 < 4294967296 := by
    intro j
    match j with
    | 0 => exact ha
    | 1 => exact hb
    | 2 => exact hc
    | 3 => exact hd
    | (j + 4) => exact (by decide : 0 < 4294967296)
   have hs4 : ([(a : Int), (b : Int), (c : Int), (d : Int)] : List Int).length = 4 := rfl
   generalize ([(a : Int), (b : Int), (c : Int), (d : Int)] : List Int) = st at hst hs4 ⊢
   have hW : (sumW a b c d).length = 16 := rfl
   have hat := sumW_at a b c d
   generalize sumW a b c d = W at hW hat ⊢
   generalize [a, b, c, d] = xs at hst hlt4 hat ⊢
   refine bind_eq (x := (((), (), ()), Int.ofNat (nat_lit 0) :: List.replicate (nat_lit 15) (Int.ofNat (nat_lit 0)), outW W 16, ())) ?_ ?_
   ·refine loopC_inv _ (fun n t => ∃ j : Nat, t = (((), (), (), (j : Int), ()), Int.ofNat (nat_lit 0) :: List.replicate (nat_lit 15) (Int.ofNat (nat_lit 0)), outW W (4 * j), st, ()) ∧ j ≤ 4 ∧ n = 4 - j) (fun _ => some (((), (), ()), Int.ofNat (nat_lit 0) :: List.replicate (nat_lit 15) (Int.ofNat (nat_lit 0)), outW W 16, ())) ?_ _ 4 _ ⟨0, rfl, by omega, rfl⟩ (by omega)
    rintro n t k ⟨j, rfl, hj, rfl⟩ hk
    dsimp only
    by_cases hlt : j < 4
    ·rw [decide_eq_true (show (j : Int) < 4 by omega), cond_true, hs4, if_pos (by omega), if_pos (by omega), Int.toNat_natCast, hst]
     refine bind_eq (putWord_eq _ (hlt4 j)) ?_
     dsimp only
     refine bind_eq (x := (((), (), (), (j : Int), ()), Int.ofNat (nat_lit 0) :: List.replicate (nat_lit 15) (Int.ofNat (nat_lit 0)), outW W (4 * j + 4), st, ())) ?_ ?_
     ·refine loopC_inv _ (fun n t => ∃ q : Nat, t = (((), (), (), (j : Int), le8 4 (xs.getD j 0), (q : Int), ()), Int.ofNat (nat_lit 0) :: List.replicate (nat_lit 15) (Int.ofNat (nat_lit 0)), outW W (4 * j + q), st, ()) ∧ q ≤ 4 ∧ n = 4 - q) (fun _ => some (((), (), (), (j : Int), ()), Int.ofNat (nat_lit 0) :: List.replicate (nat_lit 15) (Int.ofNat (nat_lit 0)), outW W (4 * j + 4), st, ())) ?_ _ 4 _ ⟨0, rfl, by omega, rfl⟩ (by omega)
      rintro n t kk ⟨q, rfl, hq, rfl⟩ hkk
      dsimp only
      by_cases hlq : q < 4
      ·have hol := outW_len W hW (4 * j + q) (by omega)
       rw [decide_eq_true (show (q : Int) < 4 by omega), cond_true, show (le8 4 (xs.getD j 0)).length = 4 from rfl, if_pos (by omega), wr (4 * (j : Int)) (by omega), wr (4 * (j : Int) + (q : Int)) (by omega), hol, if_pos (by omega), show Int.toNat (4 * (j : Int) + (q : Int)) = 4 * j + q by omega, if_pos (by omega), wr1 q (by omega), Int.toNat_natCast, ← hat j q hlt hlq, outW_set W hW _ (by omega)]
       exact hkk (4 - (q + 1)) _ (by omega) ⟨q + 1, rfl, by omega, rfl⟩
      ·rw [decide_eq_false (by omega), cond_false, show q = 4 by omega]
     ·dsimp only
      rw [wr1 j (by omega)]
      exact hk (4 - (j + 1)) _ (by omega) ⟨j + 1, rfl, by omega, rfl⟩
    ·rw [decide_eq_false (by omega), cond_false, show j = 4 by omega]
   ·dsimp only
    have ho : outW W 16 = W := by
     unfold outW
     rw [List.take_of_length_le (by omega)]
     exact List.append_nil W
    rw [ho, cp16 W hW, cp16 W hW]
 ·unfold m_impl_strong
  refine bind_eq eI ?_
  dsimp only
  refine bind_eq (x := (((), ()), stV (strOg P) (P.length / 64), ())) ?_ ?_
  ·refine loopC_inv _ (fun n t => ∃ j : Nat, t = (((), (strOg P).drop (64 * j), ()), stV (strOg P) j, ()) ∧ 64 * j ≤ P.length ∧ n = P.length - j) (fun _ => some (((), ()), stV (strOg P) (P.length / 64), ())) ?_ _ P.length _ ⟨0, rfl, by omega, rfl⟩ (by omega)
   rintro n t k ⟨j, rfl, hj, rfl⟩ hk
   dsimp only
   cases hn : (strOg P).drop (64 * j) == nilOf UInt8 with
   | true =>
    have he : (strOg P).drop (64 * j) = [] := by simpa [nilOf] using hn
    have := congrArg List.length he
    rw [List.length_drop, hBl, List.length_nil] at this
    rw [Bool.not_true, cond_false, show j = P.length / 64 by omega]
   | false =>
    have hne : (strOg P).drop (64 * j) ≠ [] := by simpa [nilOf] using hn
    have hpos := List.length_pos_iff.2 hne
    rw [List.length_drop, hBl] at hpos
    have hdl : ((strOg P).drop (64 * j)).length = P.length - 64 * j := by rw [List.length_drop, hBl]
    rw [Bool.not_false, cond_true, hdl, if_pos (by omega), cp4 _ (stV_len _ j)]
    have e1 : List.drop (Int.toNat 0) (List.take (Int.toNat 64) ((strOg P).drop (64 * j))) = ((strOg P).take (64 * j + 64)).drop (64 * j) := by
     rw [List.drop_take (i := 64 * j), show 64 * j + 64 - 64 * j = 64 by omega]; rfl
    rw [e1]
    refine bind_eq (mixI_eq _ _ (by rw [List.length_drop, List.length_take]; omega)) ?_
    dsimp only
    have e2 : List.drop (Int.toNat 64) (List.take (Int.toNat ((P.length - 64 * j : Nat) : Int)) ((strOg P).drop (64 * j))) = (strOg P).drop (64 * (j + 1)) := by
     rw [Int.toNat_natCast, List.take_of_length_le (by omega), List.drop_drop]; rfl
    rw [if_pos (by omega), cp4 _ (mixV_len _ _), e2]
    exact hk (P.length - (j + 1)) _ (by omega) ⟨j + 1, rfl, by omega, rfl⟩
  ·dsimp only
   rw [est]
   have sm : ∀ n : Nat, n ≤ 100 → n < 2 ^ 63 := fun n hn => by show n < 9223372036854775808; omega
   have ll : ∀ x, (strOg (le8 4 x)).length = 4 := fun x => by rw [strOf_len]; rfl
   rw [if_pos (⟨by decide, by decide, by show (0 : Int) < ((4 : Nat) : Int); decide⟩), if_pos (by show 0 < 4; decide)]
   refine bind_eq (wordText_eq a ha) ?_
   dsimp only
   rw [if_pos (⟨by decide, by decide, by show (1 : Int) < ((4 : Nat) : Int); decide⟩), if_pos (by show 1 < 4; decide)]
   refine bind_eq (wordText_eq b hb) ?_
   dsimp only
   rw [if_pos (sm _ (by rw [ll, ll]; omega)), if_pos (⟨by decide, by decide, by show (2 : Int) < ((4 : Nat) : Int); decide⟩), if_pos (by show 2 < 4; decide)]
   refine bind_eq (wordText_eq c hc) ?_
   dsimp only
   rw [if_pos (sm _ (by rw [List.length_append, ll, ll, ll]; omega)), if_pos (⟨by decide, by decide, by show (3 : Int) < ((4 : Nat) : Int); decide⟩), if_pos (by show 3 < 4; decide)]
   refine bind_eq (wordText_eq d hd) ?_
   dsimp only
   rw [if_pos (sm _ (by rw [List.length_append, List.length_append, ll, ll, ll, ll]; omega))]
   unfold sumW
   rw [strOf_app, strOf_app, strOf_app]
theorem below_any (n : Int) (hn : 0 < n) (s : CurT) (h : Cur s) : ∃ r, m_spec_l01Below n s = some r ∧ (0 ≤ r.1 ∧ r.1 < n) ∧ Cur r.2.1 := by
 obtain ⟨c, i, x, u⟩ := s
 obtain ⟨b, i', h', e, h0, h1, hc, _⟩ := below_mv n hn c i x h
 exact ⟨_, e, ⟨h0, h1⟩, hc⟩
theorem pickInt_mem (l : List Int) (s : CurT) (hl : 0 < l.length ∧ l.length ≤ 256) (h : Cur s) : ∃ r, m_spec_l01PickInt l s = some r ∧ r.1 ∈ l ∧ Cur r.2.1 := by
 obtain ⟨c, i, x, u⟩ := s
 unfold m_spec_l01PickInt
 obtain ⟨b, s1, e, hb, hc⟩ := below_some (l.length : Int) (by omega) (c, i, x, ()) h
 obtain ⟨hb1, hb2⟩ := hb (by omega)
 rw [e, Option.bind_some]
 simp only
 rw [if_pos ⟨hb1, hb2⟩]
 exact ⟨_, rfl, getD_mem _ (by omega), hc⟩
theorem word_some (s : CurT) (h : Cur s) : ∃ r, m_spec_l01Word s = some r ∧ (∃ w : Nat, r.1 = (w : Int) ∧ w < 4294967296) ∧ Cur r.2.1 := by
 unfold m_spec_l01Word
 refine bind_some' (below_some' 4 (by decide) (by decide) s h) ?_
 rintro ⟨b, s1, u⟩ ⟨hb, h1⟩
 have h1 : Cur s1 := h1
 dsimp only
 cases b == 0 with
 | true =>
  rw [cond_true]
  refine bind_some' (pickInt_some _ s1 ⟨by decide, by decide⟩ h1) ?_
  rintro ⟨v, s2, u2⟩ h2
  exact ⟨_, rfl, w32 v, h2⟩
 | false =>
  rw [cond_false]
  cases b == 1 with
  | true =>
   rw [cond_true]
   refine bind_some' (below_any 300 (by decide) s1 h1) ?_
   rintro ⟨v, s2, u2⟩ ⟨_, h2⟩
   exact ⟨_, rfl, w32 v, h2⟩
  | false =>
   rw [cond_false]
   refine bind_some' (below_any 65536 (by decide) s1 h1) ?_
   rintro ⟨v, s2, u2⟩ ⟨_, h2⟩
   have h2 : Cur s2 := h2
   refine bind_some' (below_any 65536 (by decide) s2 h2) ?_
   rintro ⟨v2, s3, u3⟩ ⟨_, h3⟩
   exact ⟨_, rfl, w32 _, h3⟩
theorem size300 (c : List Int) (hc : c.length ≤ 1048576) : ∃ r, m_spec_l01Size c 300 = some r ∧ (1 ≤ r.1 ∧ r.1 ≤ 300) := by
 unfold m_spec_l01Size
 have e : Int.tdiv (c.length : Int) 20 = ((c.length / 20 : Nat) : Int) := rfl
 rw [if_pos (by decide), e, wr ((c.length / 20 : Nat) : Int) (by omega), wr _ (by omega)]
 by_cases hg : 2 + ((c.length / 20 : Nat) : Int) > 300
 ·rw [decide_eq_true hg]; exact ⟨_, rfl, by decide, by decide⟩
 ·rw [decide_eq_false hg]; exact ⟨_, rfl, by show 1 ≤ 2 + ((c.length / 20 : Nat) : Int); omega, by show 2 + ((c.length / 20 : Nat) : Int) ≤ 300; omega⟩
theorem data_some (c : List Int) (hc : c.length ≤ 1048576) (s : CurT) (h : Cur s) : ∃ r, m_spec_l04Data c s = some r ∧ r.1.length ≤ 20100 ∧ Cur r.2.1 := by
 unfold m_spec_l04Data
 refine bind_some' (size300 c hc) ?_
 rintro ⟨n, u⟩ ⟨hn1, hn2⟩
 have hn1 : 1 ≤ n := hn1
 have hn2 : n ≤ 300 := hn2
 refine bind_some' (below_any n (by omega) s h) ?_
 rintro ⟨b, s1, u1⟩ ⟨⟨hb1, hb2⟩, h1⟩
 have hb1 : 0 ≤ b := hb1
 have hb2 : b < n := hb2
 have h1 : Cur s1 := h1
 refine bind_some' (once_some' 4 (by decide) s1 h1) ?_
 rintro ⟨t, s2, u2⟩ h2
 have h2 : Cur s2 := h2
 dsimp only
 refine bind_some' (Q := fun r => (0 ≤ r.1.2.1 ∧ r.1.2.1 ≤ 20100) ∧ Cur r.2.1) ?_ ?_
 ·cases t with
  | true =>
   rw [cond_true]
   refine bind_some' (pickInt_mem _ s2 ⟨by decide, by decide⟩ h2) ?_
   rintro ⟨v, s3, u3⟩ ⟨hv, h3⟩
   have hv : v ∈ ([0, 55, 56, 63, 64, 119, 120] : List Int) := hv
   refine ⟨_, rfl, ?_, h3⟩
   simp only [List.mem_cons, List.not_mem_nil, or_false] at hv
   show 0 ≤ v ∧ v ≤ 20100
   omega
  | false =>
   rw [cond_false]
   refine ⟨_, rfl, ?_, h2⟩
   show 0 ≤ b ∧ b ≤ 20100
   omega
 ·rintro ⟨⟨u4, v, u5⟩, s3, u6⟩ ⟨⟨hv1, hv2⟩, h3⟩
  have hv1 : 0 ≤ v := hv1
  have hv2 : v ≤ 20100 := hv2
  have h3 : Cur s3 := h3
  dsimp only
  refine bind_some' (once_some' 80 (by decide) s3 h3) ?_
  rintro ⟨t2, s4, u7⟩ h4
  have h4 : Cur s4 := h4
  dsimp only
  refine bind_some' (Q := fun r => (0 ≤ r.1.2.1 ∧ r.1.2.1 ≤ 20100) ∧ Cur r.2.1) ?_ ?_
  ·cases t2 with
   | true =>
    rw [cond_true]
    refine bind_some' (below_some' 6 (by decide) (by decide) s4 h4) ?_
    rintro ⟨v2, s5, u8⟩ ⟨⟨hw1, hw2⟩, h5⟩
    have hw1 : 0 ≤ v2 := hw1
    have hw2 : v2 < 6 := hw2
    refine ⟨_, rfl, ?_, h5⟩
    show 0 ≤ IntKind.wrap IntKind.i64 (19996 + v2) ∧ IntKind.wrap IntKind.i64 (19996 + v2) ≤ 20100
    rw [wr _ (by omega)]
    omega
   | false =>
    rw [cond_false]
    exact ⟨_, rfl, ⟨hv1, hv2⟩, h4⟩
  ·rintro ⟨⟨u9, v3, u10⟩, s5, u11⟩ ⟨⟨hv3, hv4⟩, h5⟩
   have hv3 : 0 ≤ v3 := hv3
   have hv4 : v3 ≤ 20100 := hv4
   have h5 : Cur s5 := h5
   dsimp only
   refine bind_some' (text_some v3 s5 hv3 (by omega) h5) ?_
   rintro ⟨x, s6, u12⟩ ⟨hx, h6⟩
   have hx : x.length ≤ v3.toNat := hx
   exact ⟨_, rfl, by show x.length ≤ 20100; omega, h6⟩
theorem draw_some (c : List Int) (hc : c.length ≤ 1048576) : ∃ (w : Nat) (s : List UInt8), m_spec_DrawSeedStrong c = some (((w : Int), s, ()), ()) ∧ w < 4294967296 ∧ s.length ≤ 20100 := by
 unfold m_spec_DrawSeedStrong
 obtain ⟨⟨u, s0, u0⟩, e0, h0⟩ := new_some c hc
 obtain ⟨⟨w, s1, u1⟩, e1, ⟨w', hw, hw2⟩, h1⟩ := word_some s0 h0
 obtain ⟨⟨x, s2, u2⟩, e2, hx, h2⟩ := data_some c hc s1 h1
 have hw : w = (w' : Int) := hw
 subst hw
 refine ⟨w', x, ?_, hw2, hx⟩
 rw [e0, Option.bind_some]
 dsimp only
 refine bind_eq e1 ?_
 refine bind_eq e2 ?_
 rfl
theorem iB_strOf' : ∀ l : List Int, Bd l → iB (strOg l) = l
 | [], _ => rfl
 | x :: r, h => by
  have hx := h x (List.mem_cons_self ..)
  have ih := iB_strOf' r (fun v hv => h v (List.mem_cons_of_mem _ hv))
  show ((UInt8.toNat (UInt8.ofNat (Int.toNat x)) : Nat) : Int) :: iB (strOg r) = x :: r
  rw [ih, UInt8.toNat_ofNat']
  have : ((Int.toNat x % 2 ^ 8 : Nat) : Int) = x := by omega
  rw [this]
theorem sumW_bd (a b c d : Nat) : Bd (sumW a b c d) := bd_app (bd_app (bd_app (bd_le8 _ _) (bd_le8 _ _)) (bd_le8 _ _)) (bd_le8 _ _)
def zero16 : List Int := List.replicate 16 0
/-- Both strong sums of a text. -/
theorem both_strong (t : List UInt8) : ∃ W : List Int, W.length = 16 ∧ m_impl_StrongOf t = some (W, ()) ∧ m_spec_StrongOf t = some (W, ()) ∧ (t.length ≤ 20000 → m_impl_strong t = some (strOg W, ())) := by
 by_cases h : t.length ≤ 20000
 ·obtain ⟨P, eS, eI, hm, h0, hl, hB, _⟩ := pad_eq2 t h
  obtain ⟨a, b, c, d, _, _, g1, g2⟩ := strong_of t h eS eI hm h0 hl
  refine ⟨sumW a b c d, rfl, ?_, g1, fun _ => g2⟩
  unfold m_impl_StrongOf
  rw [decide_eq_true (show (t.length : Int) ≤ 20000 by omega), cond_true, g2, Option.bind_some, Option.bind_some]
  dsimp only
  have hlen : (strOg (sumW a b c d)).length = 16 := by rw [strOf_len]; rfl
  have e1 : List.map (fun (b : UInt8) => ((UInt8.toNat b : Nat) : Int)) (List.take (16 : Nat) (strOg (sumW a b c d))) = sumW a b c d := by
   rw [List.take_of_length_le (by omega)]
   exact iB_strOf' _ (sumW_bd a b c d)
  rw [e1, hlen]
  rfl
 ·refine ⟨zero16, rfl, ?_, ?_, fun h' => absurd h' h⟩
  ·unfold m_impl_StrongOf
   rw [decide_eq_false (show ¬ (t.length : Int) ≤ 20000 by omega)]
   rfl
  ·unfold m_spec_StrongOf m_spec_PadStrong
   rw [decide_eq_true (show (t.length : Int) > 20000 by omega)]
   rfl
theorem at_some (c : List Int) (hc : c.length ≤ 1048576) (hB : ∀ a ∈ c, 0 ≤ a ∧ a ≤ 255) : ∃ v, m_laws_at c 3 = some (v, ()) ∧ 0 ≤ v ∧ v ≤ 255 := by
 unfold m_laws_at
 by_cases h : (3 : Int) < (c.length : Int)
 ·have := hB _ (getD_mem (Int.ofNat (nat_lit 0)) (show Int.toNat 3 < c.length by have : Int.toNat 3 = 3 := rfl; omega))
  rw [decide_eq_true h, cond_true, if_pos (by omega), wr _ (by omega)]
  exact ⟨_, rfl, this⟩
 ·rw [decide_eq_false h, cond_false, if_pos (by decide), wr (3 * 7) (by decide), wr (3 * 7 + (c.length : Int)) (by omega)]
  refine ⟨_, rfl, ?_⟩
  rw [Int.tmod_eq_emod_of_nonneg (by omega)]
  omega
theorem seedI (w : Nat) (s : List UInt8) (hw : w < 4294967296) (hs : s.length ≤ 30000) {W : List Int} (hW : W.length = 16) (e : m_impl_StrongOf (strOg (le8 4 w) ++ s) = some (W, ())) : m_impl_SeedStrong (w : Int) s = some (W, ()) := by
 unfold m_impl_SeedStrong
 refine bind_eq (wordText_eq w hw) ?_
 dsimp only
 rw [if_pos (by rw [strOf_len]; show 4 + s.length < 9223372036854775808; omega)]
 refine bind_eq e ?_
 dsimp only
 rw [cp16 W hW, cp16 W hW]
theorem seedS (w : Nat) (s : List UInt8) (hw : w < 4294967296) (hs : s.length ≤ 30000) {W : List Int} (hW : W.length = 16) (e : m_spec_StrongOf (strOg (le8 4 w) ++ s) = some (W, ())) : m_spec_SeedStrong (w : Int) s = some (W, ()) := by
 unfold m_spec_SeedStrong
 by_cases h : (s.length : Int) > 20000
 ·rw [decide_eq_true h, cond_true]
  have hz : m_spec_StrongOf (strOg (le8 4 w) ++ s) = some (zero16, ()) := by
   unfold m_spec_StrongOf m_spec_PadStrong
   rw [decide_eq_true (show ((strOg (le8 4 w) ++ s).length : Int) > 20000 by rw [List.length_append]; omega)]
   rfl
  have : W = zero16 := by
   have := e.symm.trans hz
   simpa using this
  rw [this]
  rfl
 ·rw [decide_eq_false h, cond_false]
  refine bind_eq (putWord_eq w hw) ?_
  dsimp only
  rw [if_pos (by rw [List.length_map]; show 4 + s.length < 9223372036854775808; omega)]
  refine bind_eq (x := (W, ())) e ?_
  dsimp only
  rw [cp16 W hW, cp16 W hW]
theorem putI (w : Nat) (hw : w < 4294967296) : m_impl_PutWord (w : Int) = some (le8 4 w, ()) := by
 unfold m_impl_PutWord
 refine bind_eq (wordText_eq w hw) ?_
 show some (iB (strOg (le8 4 w)), ()) = _
 rw [iB_strOf' _ (bd_le8 _ _)]
theorem law_Strong (c : List Int) (hB : ∀ a ∈ c, 0 ≤ a ∧ a ≤ 255) : m_laws_FnStrong c = some (true, ()) := by
 unfold m_laws_FnStrong m_laws_big
 rw [Option.bind_some]
 dsimp only
 by_cases hbig : (c.length : Int) > 1048576
 ·rw [decide_eq_true hbig]; rfl
 rw [decide_eq_false hbig, cond_false]
 have hc : c.length ≤ 1048576 := by omega
 obtain ⟨w, s, eD, hw, hs⟩ := draw_some c hc
 refine bind_eq eD ?_
 dsimp only
 obtain ⟨W, hW, eWI, eWS, eWs⟩ := both_strong s
 obtain ⟨W2, hW2, eI2, eS2, es2⟩ := both_strong (strOg (le8 4 w) ++ s)
 have eLI := seedI w s hw (by omega) hW2 eI2
 have eLS := seedS w s hw (by omega) hW2 eS2
 by_cases hlong : (s.length : Int) > 19996
 ·rw [decide_eq_true hlong, cond_true]
  refine bind_eq eLI ?_
  refine bind_eq eLS ?_
  dsimp only
  simp only [beq_self_eq_true, Bool.true_and]
 ·rw [decide_eq_false hlong, cond_false]
  obtain ⟨P, eS, eI, hm, h0, hl, hBP, hT, hP1, hP2⟩ := pad_eq2 s (by omega)
  obtain ⟨a, b, c4, d, est, ⟨ha, hb, hc4, hd⟩, g1, g2⟩ := strong_of s (by omega) eS eI hm h0 hl
  have hWe : W = sumW a b c4 d := by
   have := eWS.symm.trans g1
   simpa using this
  have ePad : m_impl_PadStrong s = some (P, ()) := by
   unfold m_impl_PadStrong
   rw [decide_eq_false (show ¬ (s.length : Int) > 20000 by omega), cond_false, eI, Option.bind_some]
   show some (iB (strOg P), ()) = _
   rw [iB_strOf' P hBP]
  have hsP : strOg P = strOg P := rfl
  refine bind_eq ePad ?_
  dsimp only
  refine bind_eq (x := ((c, (w : Int), s, P, false, ()), ())) ?_ ?_
  ·have e64 : Int.tmod (P.length : Int) 64 = ((P.length % 64 : Nat) : Int) := rfl
   rw [if_pos (by decide), e64, hm, show ((((0 : Nat) : Int)) != 0) = false from rfl, cond_false, wr _ (by omega), decide_eq_false (by omega), cond_false, wr _ (by omega), decide_eq_false (by omega), cond_false, if_pos (by omega)]
   have e1 : List.map (fun (n : Int) => UInt8.ofNat (Int.toNat n)) (List.drop (Int.toNat 0) (List.take (Int.toNat (s.length : Int)) P)) = s := by
    rw [Int.toNat_natCast, hT]
    exact strOf_iB s
   rw [e1, beq_self_eq_true]
   rfl
  dsimp only
  rw [cond_false]
  refine bind_eq (x := ((c, (w : Int), s, (), ()), stV (strOg P) (P.length / 64), ())) ?_ ?_
  ·refine loopC_inv _ (fun n t => ∃ j : Nat, t = ((c, (w : Int), s, P, (), ((64 * j : Nat) : Int), ()), stV (strOg P) j, ()) ∧ 64 * j ≤ P.length ∧ n = P.length - j) (fun _ => some ((c, (w : Int), s, (), ()), stV (strOg P) (P.length / 64), ())) ?_ _ P.length _ ⟨0, rfl, by omega, rfl⟩ (by omega)
   rintro n t k ⟨j, rfl, hj, rfl⟩ hk
   dsimp only
   rw [wr (((64 * j : Nat) : Int) + 64) (by omega)]
   by_cases hlt : 64 * j + 64 ≤ P.length
   ·rw [decide_eq_true (by omega), cond_true, if_pos (by omega)]
    have e1 : List.map (fun (n : Int) => UInt8.ofNat (Int.toNat n)) (List.drop (Int.toNat ((64 * j : Nat) : Int)) (List.take (Int.toNat (((64 * j : Nat) : Int) + 64)) P)) = ((strOg P).take (64 * j + 64)).drop (64 * j) := by
     rw [← strOf_cut]; rfl
    have hbl : (((strOg P).take (64 * j + 64)).drop (64 * j)).length = 64 := by rw [List.length_drop, List.length_take, strOf_len]; omega
    rw [e1, cp4 _ (stV_len _ j)]
    have eM : m_impl_MixStrong (stV (strOg P) j) (((strOg P).take (64 * j + 64)).drop (64 * j)) = some (stV (strOg P) (j + 1), ()) := by
     unfold m_impl_MixStrong
     rw [hbl, show ((((64 : Nat) : Int)) != 64) = false from rfl, cond_false, cp4 _ (stV_len _ j), cp4 _ (stV_len _ j)]
     refine bind_eq (mixI_eq _ _ hbl) ?_
     dsimp only
     rw [cp4 _ (mixV_len _ _), cp4 _ (mixV_len _ _)]
     rfl
    refine bind_eq eM ?_
    dsimp only
    rw [cp4 _ (stV_len _ (j + 1))]
    exact hk (P.length - (j + 1)) _ (by omega) ⟨j + 1, rfl, by omega, rfl⟩
   ·rw [decide_eq_false (by omega), cond_false, show j = P.length / 64 by omega]
  dsimp only
  refine bind_eq eWI ?_
  dsimp only
  rw [cp16 W hW]
  refine (joinC_inl' (s := ((c, (w : Int), s, W, ()), ())) ?_).trans ?_
  ·refine loopC_inv _ (fun n t => ∃ j : Nat, t = ((c, (w : Int), s, (), W, (j : Int), ()), stV (strOg P) (P.length / 64), ()) ∧ j ≤ 4 ∧ n = 4 - j) (fun _ => some (Sum.inl ((c, (w : Int), s, W, ()), ()))) ?_ _ 4 _ ⟨0, rfl, by omega, rfl⟩ (by omega)
   rintro n t k ⟨j, rfl, hj, rfl⟩ hk
   dsimp only
   by_cases hlt : j < 4
   ·have h4 := stV_len (strOg P) (P.length / 64)
    rw [decide_eq_true (show (j : Int) < 4 by omega), cond_true, wr (4 * (j : Int)) (by omega), wr (4 * (j : Int) + 4) (by omega), hW, if_pos (by omega), h4, if_pos (by omega), if_pos (by omega), Int.toNat_natCast]
    have hx : ∃ x : Nat, List.getD (stV (strOg P) (P.length / 64)) j (Int.ofNat (nat_lit 0)) = (x : Int) ∧ x < 4294967296 ∧ (W.take (4 * j + 4)).drop (4 * j) = le8 4 x := by
     rw [est, hWe]
     rcases (show j = 0 ∨ j = 1 ∨ j = 2 ∨ j = 3 by omega) with rfl | rfl | rfl | rfl
     ·exact ⟨a, rfl, ha, rfl⟩
     ·exact ⟨b, rfl, hb, rfl⟩
     ·exact ⟨c4, rfl, hc4, rfl⟩
     ·exact ⟨d, rfl, hd, rfl⟩
    obtain ⟨x, ex, hx1, hx2⟩ := hx
    rw [ex]
    refine bind_eq (putI x hx1) ?_
    dsimp only
    rw [show Int.toNat (4 * (j : Int)) = 4 * j by omega, show Int.toNat (4 * (j : Int) + 4) = 4 * j + 4 by omega, hx2, beq_self_eq_true, Bool.not_true, cond_false, wr1 j (by omega)]
    exact hk (4 - (j + 1)) _ (by omega) ⟨j + 1, rfl, by omega, rfl⟩
   ·rw [decide_eq_false (by omega), cond_false]
  dsimp only
  refine bind_eq eLI ?_
  dsimp only
  obtain ⟨v, ev, hv0, hv1⟩ := at_some c hc hB
  refine bind_eq ev ?_
  dsimp only
  have hv16 : 0 ≤ Int.tmod v 16 ∧ Int.tmod v 16 ≤ 15 := tmod16 v hv0
  rw [if_pos (by decide), cp16 W2 hW2, wr (1 + Int.tmod v 16) (by omega)]
  refine bind_eq (x := ((true, ()), ())) ?_ ?_
  ·refine bind_eq (putI w hw) ?_
   dsimp only
   rw [show List.map (fun (n : Int) => UInt8.ofNat (Int.toNat n)) (le8 4 w) = strOg (le8 4 w) from rfl, if_pos (by rw [strOf_len]; show 4 + s.length < 9223372036854775808; omega)]
   refine bind_eq eI2 ?_
   dsimp only
   have eSh : m_impl_ShortSum (w : Int) s (1 + Int.tmod v 16) = some ((strOg W2).take (Int.toNat (1 + Int.tmod v 16)), ()) := by
    unfold m_impl_ShortSum m_impl_within
    have hl2 : (strOg W2).length = 16 := by rw [strOf_len, hW2]
    rw [decide_eq_true (show 1 + Int.tmod v 16 ≥ 1 by omega), cond_true, Option.bind_some, Option.bind_some]
    dsimp only
    rw [decide_eq_true (show 1 + Int.tmod v 16 ≤ 16 by omega), Bool.not_true, cond_false, Option.bind_some]
    dsimp only
    rw [decide_eq_false (show ¬ (s.length : Int) > 19996 by omega), cond_false]
    unfold m_impl_short
    rw [wordText_eq w hw, Option.bind_some]
    dsimp only
    rw [if_pos (by rw [strOf_len]; show 4 + s.length < 9223372036854775808; omega), es2 (by rw [List.length_append, strOf_len]; show 4 + s.length ≤ 20000; omega), Option.bind_some]
    dsimp only
    rw [hl2, if_pos (by omega), Option.bind_some]
    rfl
   simp only [beq_self_eq_true, Bool.true_and]
   refine bind_eq eSh ?_
   dsimp only
   rw [hW2, if_pos (by omega)]
   have e1 : List.map (fun (n : Int) => UInt8.ofNat (Int.toNat n)) (List.drop (Int.toNat 0) (List.take (Int.toNat (1 + Int.tmod v 16)) W2)) = (strOg W2).take (Int.toNat (1 + Int.tmod v 16)) := by
    show strOg (List.take _ W2) = _
    unfold strOg
    rw [List.map_take]
   rw [e1, beq_self_eq_true, cond_true]
   refine bind_eq eWS ?_
   simp only [beq_self_eq_true, Bool.true_and]
  ·rfl
end Go.AM
