/- The statement FnExactLikeness over the printed functions: true at all arguments. Conditions: none. -/
import Derived.Test.YtpgnbcemdkgjgaaPFnExactLikenessx0
import Derived.Test.YtpgnbcemdkgjgaaPFnExactLikenessx1
import Derived.Test.YtpgnbcemdkgjgaaPFnExactLikenessx2
import Derived.Test.YtpgnbcemdkgjgaaPFnExactLikenessx3
import Derived.Test.YtpgnbcemdkgjgaaPFnExactLikenessx4
import Derived.RowKit
import Derived.Lib.IndexBytes
import Derived.Laws.BitsLemmas
namespace Go.Proofs.Ytpgnbcemdkgjgaa.Fc
open Go Go.RowKit
set_option linter.unusedVariables false
set_option linter.unusedSimpArgs false


/-! ### rounds -/
/-- From some number of rounds on, g answers r. -/
def Er {α : Type} (g : Nat → Option α) (r : α) : Prop := ∃ K, ∀ k, K ≤ k → g k = some r
theorem Er.some {α : Type} {r : α} : Er (fun _ => some r) r := ⟨0, fun _ _ => rfl⟩
theorem Er.const {α : Type} {o : Option α} {r : α} (h : o = .some r) : Er (fun _ => o) r := ⟨0, fun _ _ => h⟩
theorem Er.now {α : Type} {g : Nat → Option α} {r : α} (h : ∀ k, g k = .some r) : Er g r := ⟨0, fun k _ => h k⟩
theorem Er.rounds {α : Type} {g : Nat → Option α} {r : α} (h : Er g r) : ∃ k, g k = .some r := h.elim fun K h => ⟨K, h K (Nat.le_refl _)⟩
theorem Er.congr {α : Type} {g f : Nat → Option α} {r : α} (k : Er f r) (h : ∀ k, g k = f k) : Er g r := k.elim fun K k => ⟨K, fun n hn => (h n).trans (k n hn)⟩
theorem Er.step {α : Type} {g f : Nat → Option α} {r : α} (h : ∀ k, g (k + 1) = f k) (k : Er f r) : Er g r := by
  obtain ⟨K, k⟩ := k
  refine ⟨K + 1, fun n hn => ?_⟩
  obtain ⟨m, rfl⟩ : ∃ m, n = m + 1 := ⟨n - 1, by omega⟩
  rw [h]
  exact k m (by omega)
theorem Er.bind {α β : Type} {g : Nat → Option α} {f : Nat → α → Option β} {a : α} {r : β} (h : Er g a) (k : Er (fun n => f n a) r) : Er (fun n => (g n).bind (f n)) r := by
  obtain ⟨K, h⟩ := h
  obtain ⟨K', k⟩ := k
  refine ⟨max K K', fun n hn => ?_⟩
  show (g n).bind (f n) = _
  rw [h n (by omega)]
  exact k n (by omega)
theorem Er.bindc {α β : Type} {o : Option α} {f : Nat → α → Option β} {a : α} {r : β} (h : o = .some a) (k : Er (fun n => f n a) r) : Er (fun n => o.bind (f n)) r := by
  subst h; exact k
theorem Er.ite {α : Type} {c : Prop} [Decidable c] {f g : Nat → Option α} {r : α} (h : c → Er f r) (k : ¬c → Er g r) : Er (fun n => if c then f n else g n) r := by
  by_cases hc : c
  · exact (h hc).congr fun n => if_pos hc
  · exact (k hc).congr fun n => if_neg hc
theorem Er.pos {α : Type} {c : Prop} [Decidable c] {f g : Nat → Option α} {r : α} (hc : c) (h : Er f r) : Er (fun n => if c then f n else g n) r := h.congr fun _ => if_pos hc
theorem Er.neg {α : Type} {c : Prop} [Decidable c] {f g : Nat → Option α} {r : α} (hc : ¬c) (h : Er g r) : Er (fun n => if c then f n else g n) r := h.congr fun _ => if_neg hc
theorem Er.val {α : Type} {g : Nat → Option α} {r s : α} (h : Er g r) (e : r = s) : Er g s := e ▸ h
theorem Er.unique {α : Type} {g : Nat → Option α} {r s : α} (h : Er g r) (k : Er g s) : r = s := by
  obtain ⟨K, h⟩ := h
  obtain ⟨K', k⟩ := k
  have a := h (max K K') (by omega)
  have b := k (max K K') (by omega)
  rw [a] at b
  exact Option.some.inj b

/-! ### integers -/
theorem w64 {x : Int} (h : -9223372036854775808 ≤ x) (h' : x ≤ 9223372036854775807) : wrap64 x = x := by unfold wrap64; omega

/-! ### bytes -/
/-- The bytes of a text, as numbers. -/
def nb (s : ByteArray) : List Int := s.data.toList.map fun b => (b.toNat : Int)
theorem nb_length (s : ByteArray) : (nb s).length = s.size := by unfold nb; rw [List.length_map, Array.length_toList]; rfl
theorem nb_range (s : ByteArray) : ∀ x ∈ nb s, 0 ≤ x ∧ x ≤ 255 := by
  intro x hx
  unfold nb at hx
  obtain ⟨b, _, rfl⟩ := List.mem_map.1 hx
  have := b.toNat_lt
  omega
theorem nb_inj {s t : ByteArray} (h : nb s = nb t) : s = t := by
  apply ByteArray.ext
  apply Array.toList_inj.1
  unfold nb at h
  refine List.map_inj_right (fun a b h => ?_) |>.1 h
  exact UInt8.toNat_inj.1 (by omega)
theorem toList_nb (s : ByteArray) : s.toList.map (fun b => (b.toNat : Int)) = nb s := by rw [ByteArray.toList_eq]; rfl
theorem toList_eq_iff (s t : ByteArray) : s.toList = t.toList ↔ nb s = nb t := by
  constructor
  · intro h; rw [← toList_nb, h, toList_nb]
  · intro h; rw [nb_inj h]
theorem toList_eq_lit (s : ByteArray) (l : List UInt8) : s.toList = l ↔ nb s = l.map (fun b => (b.toNat : Int)) := by
  constructor
  · intro h; rw [← toList_nb, h]
  · intro h
    rw [← toList_nb] at h
    refine List.map_inj_right (fun a b h => ?_) |>.1 h
    exact UInt8.toNat_inj.1 (by omega)
theorem nb_extract (s : ByteArray) (a b : Nat) : nb (s.extract a b) = ((nb s).take b).drop a := by
  unfold nb
  rw [ByteArray.data_extract, Array.toList_extract, List.extract_eq_drop_take', List.map_drop, List.map_take]
theorem nb_extract_end (s : ByteArray) (a : Nat) : nb (s.extract a s.size) = (nb s).drop a := by
  rw [nb_extract, List.take_of_length_le (by rw [nb_length]; omega)]
theorem nb_append (s t : ByteArray) : nb (s ++ t) = nb s ++ nb t := by
  unfold nb; rw [ByteArray.data_append, Array.toList_append, List.map_append]



def nx (h : Int) : Int := wrap64 (wrap64 (h * 6364136223846793005) + 1442695040888963407)
def gz (h : Int) : Int := 6364136223846793005 * h + 1442695040888963407
def it (f : Int → Int) : Nat → Int → Int
  | 0, h => h
  | n + 1, h => it f n (f h)
theorem it_add (f : Int → Int) (m n : Nat) (h : Int) : it f (m + n) h = it f n (it f m h) := by
  induction m generalizing h with
  | zero => rw [Nat.zero_add]; rfl
  | succ m ih => rw [Nat.succ_add]; exact ih (f h)
def uz : Nat → Int
  | 0 => 1591034055961698251
  | k + 1 => uz k + 2 * 2 ^ k * (uz k * uz k)
def vz : Nat → Int
  | 0 => 721347520444481703
  | k + 1 => vz k + (2 * vz k + 1) * (2 ^ k * uz k)
theorem gz_pow (k : Nat) : ∀ h, it gz (2 ^ k) h = (1 + 4 * 2 ^ k * uz k) * h + 2 ^ k * (2 * vz k + 1) := by
  induction k with
  | zero => intro h; show gz h = _; unfold gz uz vz; omega
  | succ k ih =>
    intro h
    have e : 2 ^ (k + 1) = 2 ^ k + 2 ^ k := by rw [Nat.pow_succ]; omega
    rw [e, it_add, ih, ih]
    have e2 : (2 : Int) ^ (k + 1) = 2 * 2 ^ k := by rw [Int.pow_succ]; omega
    rw [e2]
    simp only [uz, vz]
    generalize (2 : Int) ^ k = p
    generalize uz k = u
    generalize vz k = v
    grind
theorem gz_reach (h t : Int) (k : Nat) : ∃ n, ∃ q : Int, it gz n h = t + 2 ^ k * q := by
  induction k with
  | zero => exact ⟨0, h - t, by simp [it]; omega⟩
  | succ k ih =>
    obtain ⟨n, q, hq⟩ := ih
    have e2 : (2 : Int) ^ (k + 1) = 2 * 2 ^ k := by rw [Int.pow_succ]; omega
    rcases Int.emod_two_eq q with h0 | h1
    · refine ⟨n, q / 2, ?_⟩
      rw [hq, e2]
      have : q = 2 * (q / 2) := by omega
      generalize (2 : Int) ^ k = p
      generalize q / 2 = z at *
      subst this
      grind
    · refine ⟨n + 2 ^ k, ?_⟩
      rw [it_add, gz_pow, hq, e2]
      have : q = 2 * (q / 2) + 1 := by omega
      generalize (2 : Int) ^ k = p
      generalize q / 2 = z at *
      generalize uz k = u
      generalize vz k = v
      subst this
      exact ⟨z + 1 + v + 2 * u * (t + p * (2 * z + 1)), by grind⟩
theorem wrap64_mod (x : Int) : ∃ q, wrap64 x = x + 18446744073709551616 * q := by
  unfold wrap64
  exact ⟨-((x + 9223372036854775808) / 18446744073709551616), by omega⟩
theorem wrap64_congr {x y q : Int} (h : x = y + 18446744073709551616 * q) : wrap64 x = wrap64 y := by
  unfold wrap64; omega
theorem wrap64_idem (x : Int) : wrap64 (wrap64 x) = wrap64 x := by unfold wrap64; omega
theorem nx_gz (h : Int) : nx h = wrap64 (gz h) := by
  unfold nx gz
  obtain ⟨q, hq⟩ := wrap64_mod (h * 6364136223846793005)
  rw [hq]
  exact wrap64_congr (q := q) (by omega)
theorem gz_wrap (h : Int) : wrap64 (gz (wrap64 h)) = wrap64 (gz h) := by
  obtain ⟨q, hq⟩ := wrap64_mod h
  exact wrap64_congr (q := 6364136223846793005 * q) (by rw [hq]; unfold gz; omega)
theorem it_nx (n : Nat) : ∀ h, wrap64 (it nx n h) = wrap64 (it gz n h) := by
  have key : ∀ n h, wrap64 (it gz n (wrap64 h)) = wrap64 (it gz n h) := by
    intro n
    induction n with
    | zero => intro h; exact wrap64_idem h
    | succ n ih => intro h; show wrap64 (it gz n (gz (wrap64 h))) = wrap64 (it gz n (gz h)); rw [← ih, gz_wrap, ih]
  induction n with
  | zero => intro h; rfl
  | succ n ih =>
    intro h
    show wrap64 (it nx n (nx h)) = wrap64 (it gz n (gz h))
    rw [ih, nx_gz, key]
/-- From every state the sequence comes to every state. -/
theorem nx_reach (h t : Int) (ht : wrap64 t = t) : ∃ n, it nx (n + 1) h = t := by
  obtain ⟨n, q, hq⟩ := gz_reach (gz h) t 64
  refine ⟨n, ?_⟩
  have last : ∀ n h, it nx (n + 1) h = nx (it nx n h) := by
    intro n
    induction n with
    | zero => intro h; rfl
    | succ n ih => intro h; exact ih (nx h)
  have w : wrap64 (it nx (n + 1) h) = it nx (n + 1) h := by
    rw [last]; unfold nx; exact wrap64_idem _
  rw [← w, it_nx]
  show wrap64 (it gz n (gz h)) = t
  rw [hq, ← ht]
  rw [ht]
  conv => rhs; rw [← ht]
  have e : (2 : Int) ^ 64 = 18446744073709551616 := by decide
  rw [e]
  exact wrap64_congr (q := q) rfl

/-- Element i, as the printed functions read it. -/
theorem getD_mem {α : Type} (xs : List α) (d : α) (i : Nat) (h : i < xs.length) : xs.getD i d ∈ xs := by
  rw [List.getD_eq_getElem?_getD, List.getElem?_eq_getElem h]; exact List.getElem_mem h
theorem drop_getD {α : Type} (xs : List α) (d : α) (i : Nat) (h : i < xs.length) : xs.drop i = xs.getD i d :: xs.drop (i + 1) := by
  rw [List.drop_eq_getElem_cons h, List.getD_eq_getElem?_getD, List.getElem?_eq_getElem h]; rfl
/-- 'szXS': what is left of a sum that is taken down. -/
theorem sz_loop {α : Type} (z : α) (xs : List α) (hx : xs.length ≤ 4611686018427387904) (f : α → Int → Option Int) (g : Nat → Int → Int → Option Int)
    (heq : ∀ k x (i : Int), g (k + 1) x i = if i < (xs.length : Int) then (if 0 ≤ i then ((f (xs.getD i.toNat z) x).bind fun t => (if t < 0 then (some (-1)) else (g k t (wrap64 (i + 1))))) else none) else some x)
    (hf : ∀ a ∈ xs, ∀ x, 0 ≤ x → x ≤ 1048576 → ∃ r, f a x = some r ∧ (r < 0 ∨ 0 ≤ r ∧ r ≤ x)) (d : Nat) :
    ∀ (i : Nat) (x : Int), i + d = xs.length → 0 ≤ x → x ≤ 1048576 → ∃ r, Er (fun k => g k x i) r ∧ (r < 0 ∨ 0 ≤ r ∧ r ≤ x) := by
  induction d with
  | zero =>
    intro i x hi h0 h1
    exact ⟨x, Er.step (fun k => heq k x i) (Er.neg (by omega) Er.some), .inr ⟨h0, Int.le_refl _⟩⟩
  | succ d ih =>
    intro i x hi h0 h1
    have e2 : wrap64 ((i : Int) + 1) = ((i + 1 : Nat) : Int) := by rw [w64 (by omega) (by omega)]; omega
    obtain ⟨r, hr, hq⟩ := hf (xs.getD i z) (getD_mem xs z i (by omega)) x h0 h1
    by_cases hn : r < 0
    · exact ⟨-1, Er.step (fun k => heq k x i) (Er.pos (by omega) (Er.pos (by omega) (Er.bindc (by rw [Int.toNat_natCast]; exact hr) (Er.pos hn Er.some)))), .inl (by omega)⟩
    · obtain ⟨s, hs, hq'⟩ := ih (i + 1) r (by omega) (by omega) (by omega)
      exact ⟨s, Er.step (fun k => heq k x i) (Er.pos (by omega) (Er.pos (by omega) (Er.bindc (by rw [Int.toNat_natCast]; exact hr) (Er.neg hn (by rw [e2]; exact hs))))), by omega⟩
/-- 'toXS': each element turned. -/
theorem to_loop {α β γ : Type} (z : α) (xs : List α) (hx : xs.length ≤ 4611686018427387904) (f : α → Option γ) (mk : γ → β) (conv : α → β) (g : Nat → List β → Int → Option (List β))
    (heq : ∀ k out (i : Int), g (k + 1) out i = if i < (xs.length : Int) then (if 0 ≤ i then ((f (xs.getD i.toNat z)).bind fun b => (if i < (out.length : Int) then (g k (out.set i.toNat (mk b)) (wrap64 (i + 1))) else none)) else none) else some out)
    (hf : ∀ a, ∃ b, f a = some b ∧ mk b = conv a) (d : Nat) :
    ∀ (i : Nat) (out : List β), i + d = xs.length → out.length = xs.length → Er (fun k => g k out i) (out.take i ++ (xs.drop i).map conv) := by
  induction d with
  | zero =>
    intro i out hi ho
    refine Er.step (fun k => heq k out i) (Er.neg (by omega) (Er.some.val ?_))
    rw [List.take_of_length_le (by omega), List.drop_of_length_le (by omega)]
    simp
  | succ d ih =>
    intro i out hi ho
    have e2 : wrap64 ((i : Int) + 1) = ((i + 1 : Nat) : Int) := by rw [w64 (by omega) (by omega)]; omega
    obtain ⟨b, hb, hm⟩ := hf (xs.getD i z)
    refine Er.step (fun k => heq k out i) (Er.pos (by omega) (Er.pos (by omega) (Er.bindc (by rw [Int.toNat_natCast]; exact hb) (Er.pos (by omega) ?_))))
    rw [e2, Int.toNat_natCast]
    refine (ih (i + 1) (out.set i (mk b)) (by omega) (by rw [List.length_set]; exact ho)).val ?_
    rw [drop_getD xs z i (by omega), List.map_cons, ← hm]
    rw [List.take_succ_eq_append_getElem (by rw [List.length_set]; omega), List.getElem_set_self, List.take_set_of_le (Nat.le_refl _), List.append_assoc]
    rfl
/-- 'eqXS' of a list and itself. -/
theorem eq_loop {α : Type} (z : α) (xs : List α) (hx : xs.length ≤ 4611686018427387904) (f : α → α → Option Bool) (g : Nat → Int → Option Bool)
    (heq : ∀ k (i : Int), g (k + 1) i = if i < (xs.length : Int) then (if 0 ≤ i then (if i < (xs.length : Int) then ((f (xs.getD i.toNat z) (xs.getD i.toNat z)).bind fun t => (if t = true then (g k (wrap64 (i + 1))) else (some false))) else none) else none) else some true)
    (hf : ∀ a, f a a = some true) (d : Nat) : ∀ i : Nat, i + d = xs.length → Er (fun k => g k i) true := by
  induction d with
  | zero => intro i hi; exact Er.step (fun k => heq k i) (Er.neg (by omega) Er.some)
  | succ d ih =>
    intro i hi
    have e2 : wrap64 ((i : Int) + 1) = ((i + 1 : Nat) : Int) := by rw [w64 (by omega) (by omega)]; omega
    exact Er.step (fun k => heq k i) (Er.pos (by omega) (Er.pos (by omega) (Er.pos (by omega) (Er.bindc (hf _) (Er.pos (by rfl) (by rw [e2]; exact ih (i + 1) (by omega)))))))

end Go.Proofs.Ytpgnbcemdkgjgaa.Fc
namespace Go.Proofs.Ytpgnbcemdkgjgaa.Pure
open Go Go.RowKit Go.Proofs.Ytpgnbcemdkgjgaa.PFnExactLikeness Go.Proofs.YtpgnbcemdkgjgaaW.PrintWords Go.Proofs.YtpgnbcemdkgjgaaW.PrintLast Go.Proofs.YtpgnbcemdkgjgaaW.PrintMore Go.Proofs.Ytpgnbcemdkgjgaa.Fc
/-! ### names -/
theorem bt_nb (s : ByteArray) (i : Int) : bt s i = (nb s).getD i.toNat 0 := by
  unfold bt nb
  split
  · rename_i h
    have h' : i.toNat < s.data.toList.length := by rw [Array.length_toList]; exact h
    rw [List.getD_eq_getElem?_getD, List.getElem?_map, List.getElem?_eq_getElem h']
    simp only [Option.map_some, Option.getD_some, Array.getElem_toList]
    rfl
  · rename_i h
    have h' : s.data.toList.length ≤ i.toNat := by rw [Array.length_toList]; exact Nat.le_of_not_lt h
    rw [List.getD_eq_getElem?_getD, List.getElem?_map, List.getElem?_eq_none h']
    rfl
theorem bt_01 (s : ByteArray) (i : Int) : 0 ≤ bt s i ∧ bt s i ≤ 255 := bt_range s i
def nameByte (c : Int) : Bool := decide (97 ≤ c ∧ c ≤ 122) || decide (65 ≤ c ∧ c ≤ 90) || decide (48 ≤ c ∧ c ≤ 57) || c == 46 || c == 95 || c == 45
def nameOk (l : List Int) : Bool := decide (1 ≤ l.length ∧ l.length ≤ 20) && !(l == [46]) && !(l == [46, 46]) && l.all nameByte
theorem drop_bt (s : ByteArray) (i : Nat) (h : i < s.size) : (nb s).drop i = bt s i :: (nb s).drop (i + 1) := by
  rw [List.drop_eq_getElem_cons (by rw [nb_length]; exact h), bt_nb]
  simp [List.getD_eq_getElem?_getD, List.getElem?_eq_getElem (show i < (nb s).length by rw [nb_length]; exact h)]
theorem in_eq (a b c : Int) : spec_l01In.f a b c = some (decide (b ≤ a ∧ a ≤ c)) := by
  unfold spec_l01In.f
  split <;> simp [*]
theorem within_eq (a b c : Int) : impl_within.f a b c = some (decide (b ≤ a ∧ a ≤ c)) := by
  unfold impl_within.f
  split <;> simp [*]
theorem specName_l0 (s : ByteArray) (hs : s.size ≤ 140737488351232) (d : Nat) : ∀ i : Nat, i + d = s.size → Er (fun k => spec_NameOk.l0 k s i) (((nb s).drop i).all nameByte) := by
  induction d with
  | zero =>
    intro i hi
    refine Er.step (fun k => rfl) (Er.neg (by omega) (Er.some.val ?_))
    rw [List.drop_of_length_le (by rw [nb_length]; omega)]; rfl
  | succ d ih =>
    intro i hi
    have hb := bt_01 s i
    have e1 : wrap64 (bt s i) = bt s i := w64 (by omega) (by omega)
    have e2 : wrap64 ((i : Int) + 1) = ((i + 1 : Nat) : Int) := by rw [w64 (by omega) (by omega)]; omega
    have next := ih (i + 1) (by omega)
    rw [drop_bt s i (by omega), List.all_cons]
    refine Er.step (fun k => rfl) (Er.pos (by omega) (Er.pos (by omega) ?_))
    rw [e1]
    rw [e2]
    generalize bt s i = c at *
    refine Er.bindc (in_eq _ _ _) (Er.ite (fun h => next.val ?_) (fun h1 => Er.bindc (in_eq _ _ _) (Er.ite (fun h => next.val ?_) (fun h2 => Er.bindc (in_eq _ _ _) (Er.ite (fun h => next.val ?_) (fun h3 => Er.ite (fun h => next.val ?_) (fun h4 => Er.ite (fun h => next.val ?_) (fun h5 => Er.ite (fun h => next.val ?_) (fun h6 => Er.some.val ?_)))))))))
    all_goals (try rw [decide_eq_true_iff] at h)
    all_goals (try rw [decide_eq_true_iff] at h1)
    all_goals (try rw [decide_eq_true_iff] at h2)
    all_goals (try rw [decide_eq_true_iff] at h3)
    all_goals (simp [nameByte, *]; done)
theorem specName_ev (s : ByteArray) (hs : s.size ≤ 140737488351232) : Er (fun k => spec_NameOk.f k s) (nameOk (nb s)) := by
  unfold spec_NameOk.f nameOk
  refine Er.bindc (in_eq _ _ _) (Er.ite (fun h => Er.ite (fun h' => ?_) (fun h' => ?_)) (fun h => ?_))
  · refine Er.step (f := fun _ => some false) (fun k => rfl) (Er.some.val ?_)
    rw [toList_eq_lit] at h'
    rw [h']; rfl
  · refine Er.step (fun k => rfl) (Er.ite (fun h2 => Er.some.val ?_) (fun h2 => (specName_l0 s hs s.size 0 (by omega)).val ?_))
    · rw [beq_iff_eq, toList_eq_lit] at h2
      rw [h2]; rfl
    · have h3 : ¬ nb s = [46, 46] := fun e => h2 (by rw [beq_iff_eq, toList_eq_lit]; exact e)
      have h4 : ¬ nb s = [46] := fun e => h' (by rw [toList_eq_lit]; exact e)
      rw [decide_eq_true_iff] at h
      simp [nb_length, h3, h4]
      omega
  · refine Er.step (f := fun _ => some false) (fun k => rfl) (Er.some.val ?_)
    rw [decide_eq_true_iff] at h
    have : ¬ (1 ≤ s.size ∧ s.size ≤ 20) := by omega
    simp [nb_length, this]
theorem implName_l0 (s : ByteArray) (hs : s.size ≤ 140737488351232) (d : Nat) : ∀ i : Nat, i + d = s.size → Er (fun k => impl_NameOk.l0 k s s.size i) (((nb s).drop i).all nameByte && (decide (1 ≤ (nb s).length ∧ (nb s).length ≤ 20) && !(nb s == [46]) && !(nb s == [46, 46]))) := by
  induction d with
  | zero =>
    intro i hi
    refine Er.step (fun k => rfl) (Er.neg (by omega) (Er.bindc (within_eq _ _ _) ?_))
    rw [List.drop_of_length_le (by rw [nb_length]; omega)]
    refine Er.ite (fun h => Er.ite (fun h' => Er.some.val ?_) (fun h' => Er.some.val ?_)) (fun h => Er.some.val ?_)
    · rw [toList_eq_lit] at h'; rw [h']; rfl
    · have h4 : ¬ nb s = [46] := fun e => h' (by rw [toList_eq_lit]; exact e)
      rw [decide_eq_true_iff] at h
      have h5 : (s.toList != [46, 46]) = !(nb s == [46, 46]) := by
        have := toList_eq_lit s [46, 46]
        by_cases e : s.toList = [46, 46]
        · have e' := this.1 e; rw [e, e']; rfl
        · have e' := fun z => e (this.2 z)
          have e2 : (nb s == [46, 46]) = false := by rw [beq_eq_false_iff_ne]; exact e'
          rw [e2]; simp [e]
      rw [h5]
      simp [nb_length, h4]
      omega
    · rw [decide_eq_true_iff] at h
      have : ¬ (1 ≤ s.size ∧ s.size ≤ 20) := by omega
      simp [nb_length, this]
  | succ d ih =>
    intro i hi
    have e2 : wrap64 ((i : Int) + 1) = ((i + 1 : Nat) : Int) := by rw [w64 (by omega) (by omega)]; omega
    have next := ih (i + 1) (by omega)
    rw [drop_bt s i (by omega), List.all_cons]
    refine Er.step (fun k => rfl) (Er.pos (by omega) (Er.pos (by omega) (Er.pos (by omega) ?_)))
    rw [e2]
    generalize bt s i = c at *
    have yes : nameByte c = true → Er (fun k => impl_NameOk.l0 k s s.size ((i + 1 : Nat) : Int)) ((nameByte c && ((nb s).drop (i + 1)).all nameByte) && (decide (1 ≤ (nb s).length ∧ (nb s).length ≤ 20) && !(nb s == [46]) && !(nb s == [46, 46]))) := fun h => next.val (by rw [h, Bool.true_and])
    have no : nameByte c = false → Er (fun _ => some false) ((nameByte c && ((nb s).drop (i + 1)).all nameByte) && (decide (1 ≤ (nb s).length ∧ (nb s).length ≤ 20) && !(nb s == [46]) && !(nb s == [46, 46]))) := fun h => Er.some.val (by rw [h]; simp)
    clear next
    repeat' (first | (refine Er.ite (fun _ => ?_) (fun _ => ?_)) | (refine yes ?_) | (refine no ?_))
    all_goals simp [nameByte]; omega
theorem implName_ev (s : ByteArray) (hs : s.size ≤ 140737488351232) : Er (fun k => impl_NameOk.f k s) (nameOk (nb s)) := by
  refine (implName_l0 s hs s.size 0 (by omega)).val ?_
  unfold nameOk
  rw [List.drop_zero, Bool.and_comm]

/-! ### how like two names are -/
def common : List Int → List Int → Nat
  | a :: l, b :: bs => if a = b then common l bs + 1 else 0
  | _, _ => 0
theorem common_comm (a b : List Int) : common a b = common b a := by
  induction a generalizing b with
  | nil => cases b <;> rfl
  | cons x xs ih =>
    cases b with
    | nil => rfl
    | cons y ys => unfold common; rw [ih]; by_cases h : x = y <;> simp [h, eq_comm]
theorem common_le (a b : List Int) : common a b ≤ a.length := by
  induction a generalizing b with
  | nil => cases b <;> exact Nat.zero_le _
  | cons x xs ih =>
    cases b with
    | nil => exact Nat.zero_le _
    | cons y ys => unfold common; split; have := ih ys; simp; omega; exact Nat.zero_le _
theorem common_self (a : List Int) : common a a = a.length := by
  induction a with
  | nil => rfl
  | cons x xs ih => unfold common; rw [if_pos rfl, ih]; rfl
theorem common_le' (a b : List Int) : common a b ≤ b.length := by rw [common_comm]; exact common_le b a
def dotDown (l : List Int) : Nat → Option Nat
  | 0 => none
  | i + 1 => if l.getD (i + 1) 0 = 46 then some (i + 1) else dotDown l i
theorem dotDown_le (l : List Int) (i j : Nat) (h : dotDown l i = some j) : 1 ≤ j ∧ j ≤ i := by
  induction i with
  | zero => cases h
  | succ i ih =>
    unfold dotDown at h
    split at h
    · cases h; omega
    · have := ih h; omega
def endB (s : ByteArray) : ByteArray × Bool := match dotDown (nb s) (s.size - 1) with
  | some i => (s.extract (i + 1) s.size, true)
  | none => (⟨#[]⟩, false)
def dots (l : List Int) : Option (List Int) := (dotDown l (l.length - 1)).map fun i => l.drop (i + 1)
def bonus (a b : List Int) : Int := match dots a, dots b with
  | some x, some y => if x = y then 10 else 0
  | _, _ => 0
def like (a b : List Int) : Int :=
  if nameOk a && nameOk b then 3 * (common a b : Int) + 2 * (common (a.drop (common a b)).reverse (b.drop (common a b)).reverse : Int) + bonus a b else 0
theorem specCommon_l0 (s t : ByteArray) (hs : s.size ≤ 140737488351232) (d : Nat) : ∀ i : Nat, i + d = s.size → Er (fun k => spec_l12Common.l0 k s t i) ((i + common ((nb s).drop i) ((nb t).drop i) : Nat) : Int) := by
  induction d with
  | zero =>
    intro i hi
    refine Er.step (fun k => rfl) (Er.neg (by omega) (Er.some.val ?_))
    rw [List.drop_of_length_le (by rw [nb_length]; omega)]
    rfl
  | succ d ih =>
    intro i hi
    have e2 : wrap64 ((i : Int) + 1) = ((i + 1 : Nat) : Int) := by rw [w64 (by omega) (by omega)]; omega
    have next := ih (i + 1) (by omega)
    refine Er.step (fun k => rfl) (Er.pos (by omega) (Er.ite (fun h => Er.pos (by omega) (Er.ite (fun e => ?_) (fun e => Er.some.val ?_))) (fun h => Er.some.val ?_)))
    · rw [e2]
      refine next.val ?_
      rw [drop_bt s i (by omega), drop_bt t i (by omega), common, if_pos e]
      omega
    · rw [drop_bt s i (by omega), drop_bt t i (by omega), common, if_neg e]
      rfl
    · rw [List.drop_of_length_le (l := nb t) (by rw [nb_length]; omega), common_comm]
      rfl
theorem specCommon_ev (s t : ByteArray) (hs : s.size ≤ 140737488351232) : Er (fun k => spec_l12Common.f k s t) (common (nb s) (nb t) : Int) :=
  (specCommon_l0 s t hs s.size 0 (by omega)).val (by simp)
theorem implCommon_l0 (s t : ByteArray) (hs : s.size ≤ 140737488351232) (d : Nat) : ∀ i : Nat, i + d = s.size → Er (fun k => impl_common.l0 k s t i) ((i + common ((nb s).drop i) ((nb t).drop i) : Nat) : Int) := by
  induction d with
  | zero =>
    intro i hi
    refine Er.step (fun k => rfl) (Er.neg (by omega) (Er.some.val ?_))
    rw [List.drop_of_length_le (by rw [nb_length]; omega)]
    rfl
  | succ d ih =>
    intro i hi
    have e2 : wrap64 ((i : Int) + 1) = ((i + 1 : Nat) : Int) := by rw [w64 (by omega) (by omega)]; omega
    have next := ih (i + 1) (by omega)
    refine Er.step (fun k => rfl) (Er.pos (by omega) (Er.ite (fun h => Er.pos (by omega) (Er.ite (fun e => ?_) (fun e => Er.some.val ?_))) (fun h => Er.some.val ?_)))
    · rw [e2]
      refine next.val ?_
      rw [drop_bt s i (by omega), drop_bt t i (by omega), common, if_pos e]
      omega
    · rw [drop_bt s i (by omega), drop_bt t i (by omega), common, if_neg e]
      rfl
    · rw [List.drop_of_length_le (l := nb t) (by rw [nb_length]; omega), common_comm]
      rfl
theorem implCommon_ev (s t : ByteArray) (hs : s.size ≤ 140737488351232) : Er (fun k => impl_common.f k s t) (common (nb s) (nb t) : Int) :=
  (implCommon_l0 s t hs s.size 0 (by omega)).val (by simp)
theorem getD_bt (s : ByteArray) (i : Nat) : (nb s).getD i 0 = bt s i := by rw [bt_nb]; rfl
theorem specEnd_l0 (s : ByteArray) (hs : s.size ≤ 140737488351232) : ∀ i : Nat, i < s.size → Er (fun k => spec_l13Ending.l0 k s i) (match dotDown (nb s) i with | some i => (s.extract (i + 1) s.size, true) | none => (⟨#[]⟩, false)) := by
  intro i
  induction i with
  | zero => intro _; exact Er.step (fun k => rfl) (Er.neg (by omega) Er.some)
  | succ i ih =>
    intro hi
    have e2 : wrap64 (((i + 1 : Nat) : Int) + 1) = ((i + 1 + 1 : Nat) : Int) := by rw [w64 (by omega) (by omega)]; omega
    have e3 : wrap64 (((i + 1 : Nat) : Int) - 1) = (i : Int) := by rw [w64 (by omega) (by omega)]; omega
    refine Er.step (fun k => rfl) (Er.pos (by omega) (Er.pos (by omega) (Er.pos (by omega) (Er.ite (fun h => ?_) (fun h => ?_)))))
    · rw [e2]
      refine Er.pos (by omega) (Er.pos (by omega) (Er.some.val ?_))
      unfold dotDown
      rw [if_pos (by rw [getD_bt]; exact h)]
      rfl
    · rw [e3]
      refine (ih (by omega)).val ?_
      conv => rhs; unfold dotDown
      rw [if_neg (by rw [getD_bt]; exact h)]
theorem specEnd_ev (s : ByteArray) (h0 : 1 ≤ s.size) (hs : s.size ≤ 140737488351232) : Er (fun k => spec_l13Ending.f k s) (endB s) := by
  have e3 : wrap64 ((s.size : Int) - 1) = ((s.size - 1 : Nat) : Int) := by rw [w64 (by omega) (by omega)]; omega
  unfold spec_l13Ending.f
  rw [e3]
  exact specEnd_l0 s hs (s.size - 1) (by omega)
theorem lastIdx_l0 (s : ByteArray) (hs : s.size ≤ 140737488351232) : ∀ i : Nat, i < s.size → ∃ r : Int, Er (fun k => bytealg_LastIndexByteString.l0 k s 46 i) r ∧ (match dotDown (nb s) i with | some j => r = (j : Int) | none => r < 1) := by
  intro i
  induction i with
  | zero =>
    intro hi
    by_cases h : bt s 0 = 46
    · exact ⟨0, Er.step (fun k => rfl) (Er.pos (by omega) (Er.pos (by omega) (Er.pos (by omega) (Er.pos h Er.some)))), by unfold dotDown; decide⟩
    · refine ⟨-1, Er.step (fun k => rfl) (Er.pos (by omega) (Er.pos (by omega) (Er.pos (by omega) (Er.neg h ?_)))), by unfold dotDown; decide⟩
      exact Er.step (fun k => rfl) (Er.neg (by unfold wrap64; omega) Er.some)
  | succ i ih =>
    intro hi
    have e3 : wrap64 (((i + 1 : Nat) : Int) - 1) = (i : Int) := by rw [w64 (by omega) (by omega)]; omega
    by_cases h : bt s ((i + 1 : Nat) : Int) = 46
    · refine ⟨((i + 1 : Nat) : Int), Er.step (fun k => rfl) (Er.pos (by omega) (Er.pos (by omega) (Er.pos (by omega) (Er.pos h Er.some)))), ?_⟩
      unfold dotDown
      rw [if_pos (by rw [getD_bt]; exact h)]
    · obtain ⟨r, hr, hq⟩ := ih (by omega)
      refine ⟨r, Er.step (fun k => rfl) (Er.pos (by omega) (Er.pos (by omega) (Er.pos (by omega) (Er.neg h (by rw [e3]; exact hr))))), ?_⟩
      unfold dotDown
      rw [if_neg (by rw [getD_bt]; exact h)]
      exact hq
theorem implEnd_ev (s : ByteArray) (h0 : 1 ≤ s.size) (hs : s.size ≤ 140737488351232) : Er (fun k => impl_ending.f k s) (endB s) := by
  have e3 : wrap64 ((s.size : Int) - 1) = ((s.size - 1 : Nat) : Int) := by rw [w64 (by omega) (by omega)]; omega
  obtain ⟨r, hr, hq⟩ := lastIdx_l0 s hs (s.size - 1) (by omega)
  unfold impl_ending.f strings_LastIndexByte.f bytealg_LastIndexByteString.f
  rw [e3]
  refine Er.bind (Er.bind hr Er.some) ?_
  unfold endB
  cases hd : dotDown (nb s) (s.size - 1) with
  | none =>
    rw [hd] at hq
    exact Er.pos hq Er.some
  | some j =>
    rw [hd] at hq
    have hj := dotDown_le _ _ _ hd
    simp only at hq
    subst hq
    have e2 : wrap64 ((j : Int) + 1) = ((j + 1 : Nat) : Int) := by rw [w64 (by omega) (by omega)]; omega
    rw [e2]
    exact Er.neg (by omega) (Er.pos (by omega) (Er.pos (by omega) Er.some))
theorem drop_rev (s : ByteArray) (i : Nat) (h : i < s.size) : (nb s).reverse.drop i = bt s ((s.size - 1 - i : Nat) : Int) :: (nb s).reverse.drop (i + 1) := by
  rw [List.drop_eq_getElem_cons (by rw [List.length_reverse, nb_length]; exact h), List.getElem_reverse, ← getD_bt]
  have hl : (nb s).length - 1 - i < (nb s).length := by rw [nb_length]; omega
  rw [List.getD_eq_getElem?_getD, show s.size - 1 - i = (nb s).length - 1 - i by rw [nb_length], List.getElem?_eq_getElem hl]
  rfl
theorem bonus_eq (s t : ByteArray) : bonus (nb s) (nb t) = if (endB s).2 = true then if (endB t).2 = true then if (endB s).1.toList = (endB t).1.toList then 10 else 0 else 0 else 0 := by
  unfold bonus dots endB
  rw [nb_length, nb_length]
  cases dotDown (nb s) (s.size - 1) with
  | none => rfl
  | some i =>
    cases dotDown (nb t) (t.size - 1) with
    | none => rfl
    | some j =>
      simp only [Option.map_some, if_true]
      have : (s.extract (i + 1) s.size).toList = (t.extract (j + 1) t.size).toList ↔ (nb s).drop (i + 1) = (nb t).drop (j + 1) := by
        rw [toList_eq_iff, nb_extract_end, nb_extract_end]
      simp only [this]
theorem name_size (s : ByteArray) (h : nameOk (nb s) = true) : 1 ≤ s.size ∧ s.size ≤ 20 := by
  unfold nameOk at h
  simp only [Bool.and_eq_true, decide_eq_true_iff, nb_length] at h
  omega
theorem specLike_j2 (s t : ByteArray) (hs : 1 ≤ s.size ∧ s.size ≤ 20) (ht : 1 ≤ t.size ∧ t.size ≤ 20) (x y : Int) (hx : 0 ≤ x ∧ x ≤ 1000) (hy : 0 ≤ y ∧ y ≤ 1000) :
    Er (fun k => spec_Likeness.j2 k s t x y) (x + 2 * y + bonus (nb s) (nb t)) := by
  have e1 : wrap64 (2 * y) = 2 * y := w64 (by omega) (by omega)
  have e2 : wrap64 (x + 2 * y) = x + 2 * y := w64 (by omega) (by omega)
  have e3 : wrap64 (x + 2 * y + 10) = x + 2 * y + 10 := w64 (by omega) (by omega)
  refine Er.step (fun k => rfl) (Er.bind (specEnd_ev s hs.1 (by omega)) (Er.bind (specEnd_ev t ht.1 (by omega)) ?_))
  rw [e1, e2, e3, bonus_eq]
  refine Er.ite (fun h => Er.ite (fun h' => Er.ite (fun h'' => Er.some.val ?_) (fun h'' => Er.some.val ?_)) (fun h' => Er.some.val ?_)) (fun h => Er.some.val ?_) <;> simp [*]
theorem specLike_l0 (s t : ByteArray) (x : Int) (u v : ByteArray) (hu : u.size ≤ 20) (hv : v.size ≤ 20) (r : Int) (d : Nat) : ∀ i : Nat, i + d = u.size →
    Er (fun k => spec_Likeness.j2 k s t x ((i + common ((nb u).reverse.drop i) ((nb v).reverse.drop i) : Nat) : Int)) r → Er (fun k => spec_Likeness.l0 k s t x u v i) r := by
  induction d with
  | zero =>
    intro i hi hj
    rw [List.drop_of_length_le (by rw [List.length_reverse, nb_length]; omega)] at hj
    exact Er.step (fun k => rfl) (Er.neg (by omega) hj)
  | succ d ih =>
    intro i hi hj
    have e2 : wrap64 ((i : Int) + 1) = ((i + 1 : Nat) : Int) := by rw [w64 (by omega) (by omega)]; omega
    refine Er.step (fun k => rfl) (Er.pos (by omega) (Er.ite (fun h => ?_) (fun h => ?_)))
    · have e3 : wrap64 (wrap64 ((u.size : Int) - 1) - i) = ((u.size - 1 - i : Nat) : Int) := by rw [w64 (x := (u.size : Int) - 1) (by omega) (by omega), w64 (by omega) (by omega)]; omega
      have e4 : wrap64 (wrap64 ((v.size : Int) - 1) - i) = ((v.size - 1 - i : Nat) : Int) := by rw [w64 (x := (v.size : Int) - 1) (by omega) (by omega), w64 (by omega) (by omega)]; omega
      rw [e3, e4, e2]
      refine Er.pos (by omega) (Er.pos (by omega) (Er.pos (by omega) (Er.pos (by omega) (Er.ite (fun e => ?_) (fun e => ?_)))))
      · refine ih (i + 1) (by omega) ?_
        rw [drop_rev u i (by omega), drop_rev v i (by omega), common, if_pos e] at hj
        rw [show i + 1 + common (List.drop (i + 1) (nb u).reverse) (List.drop (i + 1) (nb v).reverse) = i + (common (List.drop (i + 1) (nb u).reverse) (List.drop (i + 1) (nb v).reverse) + 1) by omega]
        exact hj
      · rw [drop_rev u i (by omega), drop_rev v i (by omega), common, if_neg e] at hj
        exact hj
    · rw [common_comm, List.drop_of_length_le (l := (nb v).reverse) (by rw [List.length_reverse, nb_length]; omega)] at hj
      exact hj
theorem implLike_j2 (s t : ByteArray) (hs : 1 ≤ s.size ∧ s.size ≤ 20) (ht : 1 ≤ t.size ∧ t.size ≤ 20) (x y : Int) (hx : 0 ≤ x ∧ x ≤ 1000) (hy : 0 ≤ y ∧ y ≤ 1000) :
    Er (fun k => impl_Likeness.j2 k s t x y) (3 * x + 2 * y + bonus (nb s) (nb t)) := by
  have e0 : wrap64 (3 * x) = 3 * x := w64 (by omega) (by omega)
  have e1 : wrap64 (2 * y) = 2 * y := w64 (by omega) (by omega)
  have e2 : wrap64 (3 * x + 2 * y) = 3 * x + 2 * y := w64 (by omega) (by omega)
  have e3 : wrap64 (3 * x + 2 * y + 10) = 3 * x + 2 * y + 10 := w64 (by omega) (by omega)
  refine Er.step (fun k => rfl) (Er.bind (implEnd_ev s hs.1 (by omega)) (Er.bind (implEnd_ev t ht.1 (by omega)) ?_))
  rw [e0, e1, e2, e3, bonus_eq]
  refine Er.ite (fun h => Er.ite (fun h' => Er.ite (fun h'' => Er.some.val ?_) (fun h'' => Er.some.val ?_)) (fun h' => Er.some.val ?_)) (fun h => Er.some.val ?_) <;> simp [*]
theorem implLike_l0 (s t : ByteArray) (x : Int) (u v : ByteArray) (hu : u.size ≤ 20) (hv : v.size ≤ 20) (r : Int) (d : Nat) : ∀ i : Nat, i + d = u.size →
    Er (fun k => impl_Likeness.j2 k s t x ((i + common ((nb u).reverse.drop i) ((nb v).reverse.drop i) : Nat) : Int)) r → Er (fun k => impl_Likeness.l0 k s t x u v i) r := by
  induction d with
  | zero =>
    intro i hi hj
    rw [List.drop_of_length_le (by rw [List.length_reverse, nb_length]; omega)] at hj
    exact Er.step (fun k => rfl) (Er.neg (by omega) hj)
  | succ d ih =>
    intro i hi hj
    have e2 : wrap64 ((i : Int) + 1) = ((i + 1 : Nat) : Int) := by rw [w64 (by omega) (by omega)]; omega
    refine Er.step (fun k => rfl) (Er.pos (by omega) (Er.ite (fun h => ?_) (fun h => ?_)))
    · have e3 : wrap64 (wrap64 ((u.size : Int) - 1) - i) = ((u.size - 1 - i : Nat) : Int) := by rw [w64 (x := (u.size : Int) - 1) (by omega) (by omega), w64 (by omega) (by omega)]; omega
      have e4 : wrap64 (wrap64 ((v.size : Int) - 1) - i) = ((v.size - 1 - i : Nat) : Int) := by rw [w64 (x := (v.size : Int) - 1) (by omega) (by omega), w64 (by omega) (by omega)]; omega
      rw [e3, e4, e2]
      refine Er.pos (by omega) (Er.pos (by omega) (Er.pos (by omega) (Er.pos (by omega) (Er.ite (fun e => ?_) (fun e => ?_)))))
      · refine ih (i + 1) (by omega) ?_
        rw [drop_rev u i (by omega), drop_rev v i (by omega), common, if_pos e] at hj
        rw [show i + 1 + common (List.drop (i + 1) (nb u).reverse) (List.drop (i + 1) (nb v).reverse) = i + (common (List.drop (i + 1) (nb u).reverse) (List.drop (i + 1) (nb v).reverse) + 1) by omega]
        exact hj
      · rw [drop_rev u i (by omega), drop_rev v i (by omega), common, if_neg e] at hj
        exact hj
    · rw [common_comm, List.drop_of_length_le (l := (nb v).reverse) (by rw [List.length_reverse, nb_length]; omega)] at hj
      exact hj
theorem specLike_ev (s t : ByteArray) (hs : s.size ≤ 140737488351232) (ht : t.size ≤ 140737488351232) : Er (fun k => spec_Likeness.f k s t) (like (nb s) (nb t)) := by
  unfold spec_Likeness.f like
  refine Er.bind (specName_ev s hs) ?_
  cases h : nameOk (nb s) with
  | false => exact Er.step (f := fun _ => some 0) (fun k => rfl) (Er.some.val rfl)
  | true =>
    refine Er.pos (by rfl) (Er.bind (specName_ev t ht) ?_)
    cases h' : nameOk (nb t) with
    | false => exact Er.step (f := fun _ => some 0) (fun k => rfl) (Er.some.val rfl)
    | true =>
      have a := name_size s h
      have b := name_size t h'
      have c1 := common_le (nb s) (nb t)
      have c2 := common_le' (nb s) (nb t)
      rw [nb_length] at c1 c2
      refine Er.step (f := fun k => (spec_l12Common.f k s t).bind fun t107 => (if 0 ≤ t107 then (if t107 ≤ (s.size : Int) then (if t107 ≤ (t.size : Int) then (spec_Likeness.l0 k s t (wrap64 (3 * t107)) (s.extract (t107 : Int).toNat s.size) (t.extract (t107 : Int).toNat t.size) 0) else (none)) else (none)) else (none))) (fun k => rfl) (Er.bind (specCommon_ev s t hs) (Er.pos (by omega) (Er.pos (by omega) (Er.pos (by omega) ?_))))
      rw [w64 (x := 3 * (common (nb s) (nb t) : Int)) (by omega) (by omega), Int.toNat_natCast]
      have c3 := common_le ((nb s).drop (common (nb s) (nb t))).reverse ((nb t).drop (common (nb s) (nb t))).reverse
      rw [List.length_reverse, List.length_drop, nb_length] at c3
      refine specLike_l0 s t _ _ _ (by rw [ByteArray.size_extract]; omega) (by rw [ByteArray.size_extract]; omega) _ _ 0 (Nat.zero_add _) ?_
      rw [List.drop_zero, List.drop_zero, nb_extract_end, nb_extract_end, Nat.zero_add]
      exact (specLike_j2 s t a b _ _ (by omega) (by omega)).val (by simp)
theorem implLike_ev (s t : ByteArray) (hs : s.size ≤ 140737488351232) (ht : t.size ≤ 140737488351232) : Er (fun k => impl_Likeness.f k s t) (like (nb s) (nb t)) := by
  unfold impl_Likeness.f like
  refine Er.bind (implName_ev s hs) ?_
  cases h : nameOk (nb s) with
  | false => exact Er.step (f := fun _ => some 0) (fun k => rfl) (Er.some.val rfl)
  | true =>
    refine Er.pos (by rfl) (Er.bind (implName_ev t ht) ?_)
    cases h' : nameOk (nb t) with
    | false => exact Er.step (f := fun _ => some 0) (fun k => rfl) (Er.some.val rfl)
    | true =>
      have a := name_size s h
      have b := name_size t h'
      have c1 := common_le (nb s) (nb t)
      have c2 := common_le' (nb s) (nb t)
      rw [nb_length] at c1 c2
      refine Er.step (f := fun k => (impl_common.f k s t).bind fun t117 => (if 0 ≤ t117 then (if t117 ≤ (s.size : Int) then (if t117 ≤ (t.size : Int) then (impl_Likeness.l0 k s t t117 (s.extract (t117 : Int).toNat s.size) (t.extract (t117 : Int).toNat t.size) 0) else (none)) else (none)) else (none))) (fun k => rfl) (Er.bind (implCommon_ev s t hs) (Er.pos (by omega) (Er.pos (by omega) (Er.pos (by omega) ?_))))
      rw [Int.toNat_natCast]
      have c3 := common_le ((nb s).drop (common (nb s) (nb t))).reverse ((nb t).drop (common (nb s) (nb t))).reverse
      rw [List.length_reverse, List.length_drop, nb_length] at c3
      refine implLike_l0 s t _ _ _ (by rw [ByteArray.size_extract]; omega) (by rw [ByteArray.size_extract]; omega) _ _ 0 (Nat.zero_add _) ?_
      rw [List.drop_zero, List.drop_zero, nb_extract_end, nb_extract_end, Nat.zero_add]
      exact (implLike_j2 s t a b _ _ (by omega) (by omega)).val (by simp)

theorem FnExactLikeness : laws_FnExactLikeness.Pure := by
  intro s t hs ht
  refine Er.rounds ?_
  unfold laws_FnExactLikeness.f
  refine Er.ite (fun _ => Er.some) (fun _ => Er.ite (fun _ => Er.some) (fun _ => ?_))
  exact Er.bind (specLike_ev s t hs ht) (Er.bind (implLike_ev s t hs ht) (Er.pos rfl Er.some))

end Go.Proofs.Ytpgnbcemdkgjgaa.Pure
