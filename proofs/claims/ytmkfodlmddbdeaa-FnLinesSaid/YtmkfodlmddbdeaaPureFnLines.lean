/- A place is between the ends of its line, and a gap is over where it is over: for all texts that MakeAnyText can make, and all their places. -/
import Derived.Test.YtmkfodlmddbdeaaPFnLinesx0
import Derived.Test.YtmkfodlmddbdeaaPFnLinesx1
import Derived.Test.YtmkfodlmddbdeaaPFnLinesx2
import Derived.Test.YtmkfodlmddbdeaaPFnLinesx3
import Derived.Test.YtmkfodlmddbdeaaPFnLinesx4
import Derived.Test.YtmkfodlmddbdeaaPFnLinesx5
import Derived.Test.YtmkfodlmddbdeaaPFnLinesx6
import Derived.Test.YtmkfodlmddbdeaaPFnLinesx7
import Derived.Test.YtmkfodlmddbdeaaDra
import Derived.Test.YtmkfodlmddbdeaaGen
import Derived.Test.YtmkfodlmddbdeaaIx
import Derived.Test.YtmkfodlmddbdeaaLst
import Derived.Test.YtmkfodlmddbdeaaMine
import Derived.Test.YtmkfodlmddbdeaaQuo
import Derived.Test.YtmkfodlmddbdeaaTxt
namespace Go.Proofs.Ytmkfodlmddbdeaa.Pure
open Go.RowKit Go.Proofs.Ytmkfodlmddbdeaa.PFnLines Go.Proofs.YtmkfodlmddbdeaaW.PrintWords Go.Proofs.YtmkfodlmddbdeaaW.PrintLast Go.Proofs.YtmkfodlmddbdeaaW.PrintMore Go.Proofs.Ytmkfodlmddbdeaa.Mine

theorem spec_l01New_l0 (b : List Int) (hb : b.length ≤ 4611686018427387904) (d : Nat) : ∀ (k : Nat) (h i : Int), 0 ≤ i → (b.length : Int) - i ≤ d → d < k → ∃ h', spec_l01New.l0 k b h i = some (b, 0, h') := by
  induction d with
  | zero =>
    intro k h i h0 hd hk
    obtain ⟨k, rfl⟩ : ∃ m, k = m + 1 := ⟨k - 1, by omega⟩
    exact ⟨h, by rw [spec_l01New.l0, if_neg (by omega)]⟩
  | succ d ih =>
    intro k h i h0 hd hk
    obtain ⟨k, rfl⟩ : ∃ m, k = m + 1 := ⟨k - 1, by omega⟩
    rw [spec_l01New.l0]
    by_cases c : i < (b.length : Int)
    · rw [if_pos c]
      by_cases c2 : i < 4000
      · rw [if_pos c2, if_pos h0, w64 (n := i + 1) (by omega) (by omega)]
        exact ih k _ (i + 1) (by omega) (by omega) (by omega)
      · rw [if_neg c2]; exact ⟨h, rfl⟩
    · rw [if_neg c]; exact ⟨h, rfl⟩
theorem spec_l01New_ok (b : List Int) (hb : b.length ≤ 4611686018427387904) (k : Nat) (hk : b.length < k) : ∃ h, spec_l01New.f k b = some (b, 0, h) := by
  unfold spec_l01New.f
  exact spec_l01New_l0 b hb b.length k _ 0 (by omega) (by omega) hk

theorem spec_l01Byte_ok (b : List Int) (i h : Int) (hb : b.length ≤ 4611686018427387904) (h0 : 0 ≤ i) (h1 : i ≤ b.length) : ∃ v i' h', spec_l01Byte.f b i h = some (v, i', h') ∧ 0 ≤ v ∧ v ≤ 255 ∧ 0 ≤ i' ∧ i' ≤ b.length := by
  unfold spec_l01Byte.f
  by_cases c : i < (b.length : Int)
  · rw [if_pos c, if_pos h0, w64 (n := i + 1) (by omega) (by omega)]
    exact ⟨_, _, _, rfl, (and_255 _).1, (and_255 _).2, by omega, by omega⟩
  · rw [if_neg c]
    exact ⟨_, _, _, rfl, (and_255 _).1, (and_255 _).2, h0, h1⟩

theorem spec_l01Below_ok (b : List Int) (i h a : Int) (hb : b.length ≤ 4611686018427387904) (h0 : 0 ≤ i) (h1 : i ≤ b.length) : ∃ v i' h', spec_l01Below.f b i h a = some (v, i', h') ∧ 0 ≤ v ∧ (0 < a → v < a) ∧ (a ≤ 0 → v = 0) ∧ 0 ≤ i' ∧ i' ≤ b.length := by
  unfold spec_l01Below.f
  by_cases c : a ≤ 0
  · rw [if_pos c]
    exact ⟨_, _, _, rfl, by omega, fun h => by omega, fun _ => rfl, h0, h1⟩
  · rw [if_neg c]
    by_cases c2 : a ≤ 256
    · rw [if_pos c2]
      obtain ⟨v, i', h', e, v0, v1, j0, j1⟩ := spec_l01Byte_ok b i h hb h0 h1
      rw [e, Option.bind_some, if_neg (by omega)]
      have := tmod_range (x := v) (a := a) v0 (by omega)
      exact ⟨_, _, _, rfl, this.1, fun _ => this.2, fun h => by omega, j0, j1⟩
    · rw [if_neg c2]
      obtain ⟨v, i', h', e, v0, v1, j0, j1⟩ := spec_l01Byte_ok b i h hb h0 h1
      rw [e, Option.bind_some]
      obtain ⟨u, i2, h2, e, u0, u1, j0, j1⟩ := spec_l01Byte_ok b i' h' hb j0 j1
      dsimp only at e ⊢
      rw [e, Option.bind_some]
      obtain ⟨x, i3, h3, e, x0, x1, j0, j1⟩ := spec_l01Byte_ok b i2 h2 hb j0 j1
      dsimp only at e ⊢
      rw [e, Option.bind_some]
      obtain ⟨y, i4, h4, e, y0, y1, j0, j1⟩ := spec_l01Byte_ok b i3 h3 hb j0 j1
      dsimp only at e ⊢
      rw [e, Option.bind_some, if_neg (by omega)]
      have := tmod_range (x := wrap64 ((wrap64 ((wrap64 ((wrap64 (v * 16777216)) + (wrap64 (u * 65536)))) + (wrap64 (x * 256)))) + y)) (a := a) (by
        rw [w64 (n := v * 16777216) (by omega) (by omega), w64 (n := u * 65536) (by omega) (by omega), w64 (n := x * 256) (by omega) (by omega)]
        rw [w64 (n := v * 16777216 + u * 65536) (by omega) (by omega)]
        rw [w64 (n := v * 16777216 + u * 65536 + x * 256) (by omega) (by omega)]
        rw [w64 (by omega) (by omega)]
        omega) (by omega)
      exact ⟨_, _, _, rfl, this.1, fun _ => this.2, fun h => by omega, j0, j1⟩

theorem spec_l01Of_ok (b : List Int) (i h : Int) (l : List ByteArray) (hb : b.length ≤ 4611686018427387904) (h0 : 0 ≤ i) (h1 : i ≤ b.length) (hl : 0 < l.length) : ∃ w i' h', spec_l01Of.f b i h l = some (w, i', h') ∧ w ∈ l ∧ 0 ≤ i' ∧ i' ≤ b.length := by
  unfold spec_l01Of.f
  obtain ⟨v, i', h', e, v0, v1, _, j0, j1⟩ := spec_l01Below_ok b i h (l.length : Int) hb h0 h1
  have v2 := v1 (by omega)
  rw [e, Option.bind_some, if_pos v0, if_pos v2]
  refine ⟨_, _, _, rfl, ?_, j0, j1⟩
  unfold rdOf
  rw [List.getD_eq_getElem?_getD, List.getElem?_eq_getElem (show v.toNat < l.length by omega)]
  exact List.getElem_mem _

theorem ok_below {b : List Int} {B : Nat} {i h a : Int} {f : Int × Int × Int → Option (ByteArray × Int × Int)} (hb : b.length ≤ 4611686018427387904) (h0 : 0 ≤ i) (h1 : i ≤ (b.length : Int)) (ha : 0 < a) (hf : ∀ v i h, 0 ≤ v → v < a → 0 ≤ i → i ≤ (b.length : Int) → Ok b B (f (v, i, h))) : Ok b B ((spec_l01Below.f b i h a).bind f) := by
  obtain ⟨v, i', h', e, v0, v1, _, j0, j1⟩ := spec_l01Below_ok b i h a hb h0 h1
  rw [e, Option.bind_some]
  exact hf v i' h' v0 (v1 ha) j0 j1
theorem ok_of {b : List Int} {B : Nat} {i h : Int} {l : List ByteArray} (m : Nat) {f : ByteArray × Int × Int → Option (ByteArray × Int × Int)} (hb : b.length ≤ 4611686018427387904) (h0 : 0 ≤ i) (h1 : i ≤ (b.length : Int)) (hl : 0 < l.length) (hm : ∀ x ∈ l, x.size ≤ m) (hf : ∀ w i h, w.size ≤ m → 0 ≤ i → i ≤ (b.length : Int) → Ok b B (f (w, i, h))) : Ok b B ((spec_l01Of.f b i h l).bind f) := by
  obtain ⟨w, i', h', e, hw, j0, j1⟩ := spec_l01Of_ok b i h l hb h0 h1 hl
  rw [e, Option.bind_some]
  exact hf w i' h' (hm w hw) j0 j1
theorem spec_l01Mess_l0 (b : List Int) (hb : b.length ≤ 4611686018427387904) (d : Nat) : ∀ (k : Nat) (s : ByteArray) (n i h : Int), 0 ≤ n → n ≤ d → s.size + 10 * d ≤ 1000 → 0 ≤ i → i ≤ (b.length : Int) → d < k → Ok b (s.size + 10 * d) (spec_l01Mess.l0 k s n b i h) := by
  induction d with
  | zero =>
    intro k s n i h hn0 hn hs h0 h1 hk
    obtain ⟨k, rfl⟩ : ∃ j, k = j + 1 := ⟨k - 1, by omega⟩
    rw [spec_l01Mess.l0, if_neg (by omega)]
    exact Ok.some (by omega) h0 h1
  | succ d ih =>
    intro k s n i h hn0 hn hs h0 h1 hk
    obtain ⟨k, rfl⟩ : ∃ j, k = j + 1 := ⟨k - 1, by omega⟩
    rw [spec_l01Mess.l0]
    refine Ok.ite (fun hc => ?_) (fun _ => Ok.some (by omega) h0 h1)
    refine ok_of 10 hb h0 h1 (by decide) (by decide) fun w i h hw h0 h1 => ?_
    try dsimp only
    refine Ok.cond (by omega) ?_
    have hsz := size_app s w
    rw [w64 (n := n - 1) (by omega) (by omega)]
    exact (ih k (s ++ w) (n - 1) i h (by omega) (by omega) (by omega) h0 h1 (by omega)).mono (by omega)
theorem spec_l01Mess_ok (b : List Int) (hb : b.length ≤ 4611686018427387904) (m : Nat) (hm : m ≤ 50) (i h : Int) (h0 : 0 ≤ i) (h1 : i ≤ (b.length : Int)) (k : Nat) (hk : 100 ≤ k) : Ok b (10 * m) (spec_l01Mess.f k b i h (m : Int)) := by
  unfold spec_l01Mess.f
  rw [w64 (n := (m : Int) + 1) (by omega) (by omega)]
  refine ok_below hb h0 h1 (by omega) fun v i h v0 v1 h0 h1 => ?_
  try dsimp only
  have := spec_l01Mess_l0 b hb m k (⟨#[]⟩ : ByteArray) v i h v0 (by omega) (by rw [size_none]; omega) h0 h1 (by omega)
  rw [size_none] at this
  exact this.mono (by omega)

theorem size_ext_le (s : ByteArray) (a c : Nat) : (s.extract a c).size ≤ s.size := by
  rw [ByteArray.size_extract]; omega
theorem size_ext_two (s : ByteArray) (n : Nat) : (s.extract 0 n).size + (s.extract n s.size).size ≤ s.size := by
  rw [ByteArray.size_extract, ByteArray.size_extract]; omega
theorem spec_l10Spoil_ok (b : List Int) (hb : b.length ≤ 4611686018427387904) (s : ByteArray) (hs : s.size ≤ 1000000) (i h : Int) (h0 : 0 ≤ i) (h1 : i ≤ (b.length : Int)) (k : Nat) (hk : 100 ≤ k) : Ok b (s.size + 10) (spec_l10Spoil.f k b i h s) := by
  unfold spec_l10Spoil.f
  rw [w64 (n := (s.size : Int) + 1) (by omega) (by omega)]
  refine ok_below hb h0 h1 (by omega) fun v i h v0 v1 h0 h1 => ?_
  try dsimp only
  refine ok_below hb h0 h1 (by omega) fun u i h u0 u1 h0 h1 => ?_
  try dsimp only
  refine Ok.ite (fun _ => ?_) (fun _ => Ok.ite (fun _ => ?_) (fun _ => ?_))
  · refine Ok.cond v0 (Ok.cond (by omega) ?_)
    exact Ok.some (Nat.le_trans (size_ext_le s _ _) (by omega)) h0 h1
  · refine Ok.cond v0 (Ok.cond (by omega) ?_)
    refine Ok.bind (spec_l01Mess_ok b hb 1 (by omega) i h h0 h1 k hk) fun w i h hw h0 h1 => ?_
    try dsimp only
    have e1 := size_ext_two s v.toNat
    have e2 := size_app (s.extract 0 v.toNat) w
    have e3 := size_app (s.extract 0 v.toNat ++ w) (s.extract v.toNat s.size)
    refine Ok.cond (by omega) (Ok.cond (by omega) ?_)
    exact Ok.some (by omega) h0 h1
  · exact Ok.some (by omega) h0 h1

def wordsL : List ByteArray := [(⟨#[97]⟩ : ByteArray), (⟨#[98]⟩ : ByteArray), (⟨#[107, 101, 121]⟩ : ByteArray), (⟨#[120, 49]⟩ : ByteArray), (⟨#[108, 105, 115, 116]⟩ : ByteArray), (⟨#[195, 169]⟩ : ByteArray), (⟨#[110, 111]⟩ : ByteArray), (⟨#[49, 50]⟩ : ByteArray), (⟨#[45, 51]⟩ : ByteArray), (⟨#[48, 120, 49, 70]⟩ : ByteArray), (⟨#[116, 114, 117, 101]⟩ : ByteArray), (⟨#[110, 117, 108, 108]⟩ : ByteArray), (⟨#[126]⟩ : ByteArray), (⟨#[97, 32, 98]⟩ : ByteArray)]
theorem spec_l01Word_ok (b : List Int) (i h : Int) (hb : b.length ≤ 4611686018427387904) (h0 : 0 ≤ i) (h1 : i ≤ b.length) : ∃ w i' h', spec_l01Word.f b i h = some (w, i', h') ∧ w ∈ wordsL ∧ 0 ≤ i' ∧ i' ≤ b.length := by
  unfold spec_l01Word.f
  obtain ⟨w, i', h', e, hw, j0, j1⟩ := spec_l01Of_ok b i h wordsL hb h0 h1 (by decide)
  unfold wordsL at e
  rw [e, Option.bind_some]
  exact ⟨_, _, _, rfl, hw, j0, j1⟩

def b10 : Nat → Nat
  | 0 => 20
  | n + 1 => 100 + 4 * b10 n
theorem b10_ge (n : Nat) : 20 ≤ b10 n := by
  induction n with
  | zero => exact Nat.le_refl _
  | succ n ih => rw [b10]; omega
theorem b10_mono (n : Nat) : b10 n ≤ b10 (n + 1) := by rw [b10]; omega
theorem b10_le (n m : Nat) (h : n ≤ m) : b10 n ≤ b10 m := by
  induction m with
  | zero => rw [show n = 0 by omega]; exact Nat.le_refl _
  | succ m ih =>
    rcases Nat.lt_or_ge n (m + 1) with hn | hn
    · exact Nat.le_trans (ih (by omega)) (b10_mono m)
    · rw [show n = m + 1 by omega]; exact Nat.le_refl _
theorem word_short : ∀ x ∈ wordsL, x.size ≤ 5 := by decide
theorem spec_l10Draw_flat (b : List Int) (hb : b.length ≤ 4611686018427387904) (a x6 : Int) (s : ByteArray) (hs : s.size ≤ 8) (hx : 5 ≤ x6) (i h : Int) (h0 : 0 ≤ i) (h1 : i ≤ (b.length : Int)) (k : Nat) (hk : 1 ≤ k) : Ok b 20 (spec_l10Draw.j1 k a s x6 b i h) := by
  obtain ⟨k, rfl⟩ : ∃ j, k = j + 1 := ⟨k - 1, by omega⟩
  rw [spec_l10Draw.j1]
  refine ok_of 5 hb h0 h1 (by decide) (by decide) fun g i h hg h0 h1 => ?_
  try dsimp only
  rw [if_neg (by omega), if_neg (by omega)]
  refine Ok.ite (fun _ => ?_) (fun _ => Ok.ite (fun _ => ?_) (fun _ => Ok.ite (fun _ => Ok.some (by omega) h0 h1) (fun _ => ?_)))
  · refine ok_of 1 hb h0 h1 (by decide) (by decide) fun w i h hw h0 h1 => ?_
    try dsimp only
    have e1 := size_app (⟨#[42]⟩ : ByteArray) w
    have e2 : (⟨#[42]⟩ : ByteArray).size = 1 := rfl
    exact Ok.cond (by omega) (Ok.some (by omega) h0 h1)
  · refine ok_of 8 hb h0 h1 (by decide) (by decide) fun w i h hw h0 h1 => ?_
    try dsimp only
    have e1 := size_app s w
    exact Ok.cond (by omega) (Ok.some (by omega) h0 h1)
  · obtain ⟨w, i, h, e, hw, h0, h1⟩ := spec_l01Word_ok b i h hb h0 h1
    rw [e, Option.bind_some]
    try dsimp only
    have hw := word_short w hw
    have e1 := size_app s w
    exact Ok.cond (by omega) (Ok.some (by omega) h0 h1)
theorem spec_l10Draw_zero (b : List Int) (hb : b.length ≤ 4611686018427387904) (a : Int) (ha : a ≤ 0) (i h : Int) (h0 : 0 ≤ i) (h1 : i ≤ (b.length : Int)) (k : Nat) (hk : 3 ≤ k) : Ok b 20 (spec_l10Draw.f k b i h a) := by
  obtain ⟨k, rfl⟩ : ∃ j, k = j + 2 := ⟨k - 2, by omega⟩
  rw [spec_l10Draw.f]
  refine ok_of 8 hb h0 h1 (by decide) (by decide) fun s i h hs h0 h1 => ?_
  try dsimp only
  refine ok_below hb h0 h1 (by omega) fun v i h v0 v1 h0 h1 => ?_
  try dsimp only
  refine Ok.cond ha ?_
  by_cases hv : v < 5
  · rw [show decide (v < 5) = true by simpa using hv, spec_l10Draw.j0, if_pos rfl]
    exact spec_l10Draw_flat b hb a 5 s hs (by omega) i h h0 h1 k (by omega)
  · rw [show decide (v < 5) = false by simpa using hv, spec_l10Draw.j0, if_neg (by decide)]
    exact spec_l10Draw_flat b hb a v s hs (by omega) i h h0 h1 k (by omega)
theorem spec_l10Draw_l0 (b : List Int) (hb : b.length ≤ 4611686018427387904) (n : Nat) (hn3 : n ≤ 3) (hn : b10 n ≤ 1000) (K : Nat) (ih : ∀ a : Int, a ≤ n → -20 ≤ a → ∀ i h : Int, 0 ≤ i → i ≤ (b.length : Int) → ∀ k, K ≤ k → Ok b (b10 n) (spec_l10Draw.f k b i h a)) (a : Int) (ha : a ≤ n + 1) (ha0 : -10 ≤ a) (g : ByteArray) (hg : g.size ≤ 5) (d : Nat) : ∀ (k : Nat) (s : ByteArray) (x8 i h : Int), 0 ≤ x8 → x8 ≤ d → d ≤ 3 → s.size + d * (b10 n + 6) ≤ 100000 → 0 ≤ i → i ≤ (b.length : Int) → K + d + 1 ≤ k → Ok b (s.size + d * (b10 n + 6) + b10 n + 1) (spec_l10Draw.l0 k a s g x8 b i h) := by
  have one : (⟨#[44]⟩ : ByteArray).size = 1 := rfl
  have one' : (⟨#[93]⟩ : ByteArray).size = 1 := rfl
  have fin : ∀ (d : Nat) (k : Nat) (s : ByteArray) (i h : Int), s.size + d * (b10 n + 6) ≤ 100000 → 0 ≤ i → i ≤ (b.length : Int) → K + 1 ≤ k → Ok b (s.size + d * (b10 n + 6) + b10 n + 1) (spec_l10Draw.l0 k a s g 0 b i h) := by
    intro d k s i h hs h0 h1 hk
    obtain ⟨k, rfl⟩ : ∃ j, k = j + 1 := ⟨k - 1, by omega⟩
    generalize d * (b10 n + 6) = z at hs ⊢
    rw [spec_l10Draw.l0, if_neg (by omega), w64 (n := a - 2) (by omega) (by omega)]
    refine Ok.bind (ih (a - 2) (by omega) (by omega) i h h0 h1 k (by omega)) fun w i h hw h0 h1 => ?_
    try dsimp only
    have e1 := size_app s w
    have e2 := size_app (s ++ w) (⟨#[93]⟩ : ByteArray)
    exact Ok.cond (by omega) (Ok.cond (by omega) (Ok.some (by omega) h0 h1))
  induction d with
  | zero =>
    intro k s x8 i h hx0 hx hdd hs h0 h1 hk
    obtain rfl : x8 = 0 := by omega
    exact fin 0 k s i h hs h0 h1 (by omega)
  | succ d ihd =>
    intro k s x8 i h hx0 hx hdd hs h0 h1 hk
    by_cases hc : x8 > 0
    · obtain ⟨k, rfl⟩ : ∃ j, k = j + 1 := ⟨k - 1, by omega⟩
      have hmul : (d + 1) * (b10 n + 6) = d * (b10 n + 6) + (b10 n + 6) := by rw [Nat.add_mul, Nat.one_mul]
      rw [hmul] at hs ⊢
      rw [spec_l10Draw.l0, if_pos hc, w64 (n := a - 1) (by omega) (by omega)]
      refine Ok.bind (ih (a - 1) (by omega) (by omega) i h h0 h1 k (by omega)) fun w i h hw h0 h1 => ?_
      try dsimp only
      have e1 := size_app s w
      have e2 := size_app (s ++ w) g
      have e3 := size_app (s ++ w ++ g) (⟨#[44]⟩ : ByteArray)
      refine Ok.cond (by omega) (Ok.cond (by omega) (Ok.cond (by omega) ?_))
      rw [w64 (n := x8 - 1) (by omega) (by omega)]
      exact (ihd k _ (x8 - 1) i h (by omega) (by omega) (by omega) (by omega) h0 h1 (by omega)).mono (by omega)
    · obtain rfl : x8 = 0 := by omega
      exact fin (d + 1) k s i h hs h0 h1 (by omega)
theorem spec_l10Draw_l1 (b : List Int) (hb : b.length ≤ 4611686018427387904) (n : Nat) (hn3 : n ≤ 3) (hn : b10 n ≤ 1000) (K : Nat) (hK : 3 ≤ K) (ih : ∀ a : Int, a ≤ n → -20 ≤ a → ∀ i h : Int, 0 ≤ i → i ≤ (b.length : Int) → ∀ k, K ≤ k → Ok b (b10 n) (spec_l10Draw.f k b i h a)) (a : Int) (ha : a ≤ n + 1) (ha0 : -10 ≤ a) (d : Nat) : ∀ (k : Nat) (s : ByteArray) (x8 i h : Int), 0 ≤ x8 → x8 ≤ d → d ≤ 3 → s.size + d * (b10 n + 24) ≤ 100000 → 0 ≤ i → i ≤ (b.length : Int) → K + d + 1 ≤ k → Ok b (s.size + d * (b10 n + 24) + 1) (spec_l10Draw.l1 k a s x8 b i h) := by
  have one : (⟨#[44]⟩ : ByteArray).size = 1 := rfl
  have one' : (⟨#[125]⟩ : ByteArray).size = 1 := rfl
  have fin : ∀ (z : Nat) (k : Nat) (s : ByteArray) (i h : Int), s.size + z ≤ 100000 → 0 ≤ i → i ≤ (b.length : Int) → 1 ≤ k → Ok b (s.size + z + 1) (spec_l10Draw.l1 k a s 0 b i h) := by
    intro z k s i h hs h0 h1 hk
    obtain ⟨k, rfl⟩ : ∃ j, k = j + 1 := ⟨k - 1, by omega⟩
    rw [spec_l10Draw.l1, if_neg (by omega)]
    have e2 := size_app s (⟨#[125]⟩ : ByteArray)
    exact Ok.cond (by omega) (Ok.some (by omega) h0 h1)
  induction d with
  | zero =>
    intro k s x8 i h hx0 hx hdd hs h0 h1 hk
    obtain rfl : x8 = 0 := by omega
    exact fin _ k s i h hs h0 h1 (by omega)
  | succ d ihd =>
    intro k s x8 i h hx0 hx hdd hs h0 h1 hk
    by_cases hc : x8 > 0
    · obtain ⟨k, rfl⟩ : ∃ j, k = j + 1 := ⟨k - 1, by omega⟩
      have hmul : (d + 1) * (b10 n + 24) = d * (b10 n + 24) + (b10 n + 24) := by rw [Nat.add_mul, Nat.one_mul]
      rw [hmul] at hs ⊢
      rw [spec_l10Draw.l1, if_pos hc]
      refine Ok.bind (spec_l10Draw_zero b hb 0 (by omega) i h h0 h1 k (by omega)) fun w i h hw h0 h1 => ?_
      try dsimp only
      have e1 := size_app s w
      refine Ok.cond (by omega) ?_
      refine ok_of 3 hb h0 h1 (by decide) (by decide) fun g i h hg h0 h1 => ?_
      try dsimp only
      have e2 := size_app (s ++ w) g
      refine Ok.cond (by omega) ?_
      rw [w64 (n := a - 1) (by omega) (by omega)]
      refine Ok.bind (ih (a - 1) (by omega) (by omega) i h h0 h1 k (by omega)) fun v i h hv h0 h1 => ?_
      try dsimp only
      have e3 := size_app (s ++ w ++ g) v
      have e4 := size_app (s ++ w ++ g ++ v) (⟨#[44]⟩ : ByteArray)
      refine Ok.cond (by omega) (Ok.cond (by omega) ?_)
      rw [w64 (n := x8 - 1) (by omega) (by omega)]
      exact (ihd k _ (x8 - 1) i h (by omega) (by omega) (by omega) (by omega) h0 h1 (by omega)).mono (by omega)
    · obtain rfl : x8 = 0 := by omega
      exact fin _ k s i h hs h0 h1 (by omega)
theorem spec_l10Draw_ok (b : List Int) (hb : b.length ≤ 4611686018427387904) (n : Nat) : n ≤ 3 → ∀ (a : Int), a ≤ n → -20 ≤ a → ∀ i h : Int, 0 ≤ i → i ≤ (b.length : Int) → ∀ k, 10 * n + 10 ≤ k → Ok b (b10 n) (spec_l10Draw.f k b i h a) := by
  induction n with
  | zero =>
    intro _ a ha ha0 i h h0 h1 k hk
    exact (spec_l10Draw_zero b hb a (by omega) i h h0 h1 k (by omega)).mono (by decide)
  | succ n ih =>
    intro hn3 a ha ha0 i h h0 h1 k hk
    have hb10 : b10 n ≤ 1000 := Nat.le_trans (b10_le n 2 (by omega)) (by decide)
    have hge := b10_ge n
    by_cases hz : a ≤ 0
    · exact (spec_l10Draw_zero b hb a hz i h h0 h1 k (by omega)).mono (b10_ge _)
    obtain ⟨k, rfl⟩ : ∃ j, k = j + 3 := ⟨k - 3, by omega⟩
    rw [spec_l10Draw.f]
    refine ok_of 8 hb h0 h1 (by decide) (by decide) fun s i h hs h0 h1 => ?_
    try dsimp only
    refine ok_below hb h0 h1 (by omega) fun v i h v0 v1 h0 h1 => ?_
    try dsimp only
    rw [if_neg hz, spec_l10Draw.j0, if_neg (by decide)]
    by_cases hv : 5 ≤ v
    · exact (spec_l10Draw_flat b hb a v s hs hv i h h0 h1 (k + 1) (by omega)).mono (by rw [b10]; omega)
    · rw [spec_l10Draw.j1]
      refine ok_of 5 hb h0 h1 (by decide) (by decide) fun g i h hg h0 h1 => ?_
      try dsimp only
      have o1 : (⟨#[91]⟩ : ByteArray).size = 1 := rfl
      have o2 : (⟨#[123]⟩ : ByteArray).size = 1 := rfl
      have e1 := size_app s (⟨#[91]⟩ : ByteArray)
      have e2 := size_app (s ++ (⟨#[91]⟩ : ByteArray)) g
      have e3 := size_app s (⟨#[123]⟩ : ByteArray)
      have e4 := size_app (s ++ (⟨#[123]⟩ : ByteArray)) g
      refine Ok.ite (fun _ => ?_) (fun _ => ?_)
      · refine Ok.cond (by omega) (Ok.cond (by omega) ?_)
        refine ok_below hb h0 h1 (by omega) fun u i h u0 u1 h0 h1 => ?_
        try dsimp only
        exact (spec_l10Draw_l0 b hb n (by omega) hb10 (10 * n + 10) (ih (by omega)) a (by omega) (by omega) g hg 3 k _ u i h u0 (by omega) (by omega) (by omega) h0 h1 (by omega)).mono (by rw [b10]; omega)
      · rw [if_pos (by omega)]
        refine Ok.cond (by omega) (Ok.cond (by omega) ?_)
        refine ok_below hb h0 h1 (by omega) fun u i h u0 u1 h0 h1 => ?_
        try dsimp only
        exact (spec_l10Draw_l1 b hb n (by omega) hb10 (10 * n + 10) (by omega) (ih (by omega)) a (by omega) (by omega) 3 k _ u i h u0 (by omega) (by omega) (by omega) h0 h1 (by omega)).mono (by rw [b10]; omega)

theorem spec_l11Leaf_ok (b : List Int) (hb : b.length ≤ 4611686018427387904) (i h : Int) (h0 : 0 ≤ i) (h1 : i ≤ (b.length : Int)) (k : Nat) (hk : 50 ≤ k) : Ok b 200 (spec_l11Leaf.f k b i h) := by
  unfold spec_l11Leaf.f
  refine ok_of 6 hb h0 h1 (by decide) (by decide) fun s i h hs h0 h1 => ?_
  try dsimp only
  refine ok_below hb h0 h1 (by omega) fun v i h v0 v1 h0 h1 => ?_
  try dsimp only
  refine Ok.ite (fun _ => ?_) (fun _ => Ok.ite (fun _ => ?_) (fun _ => Ok.ite (fun _ => ?_) (fun _ => Ok.ite (fun _ => ?_) (fun _ => Ok.some (by omega) h0 h1))))
  · obtain ⟨w, i, h, e, hw, h0, h1⟩ := spec_l01Word_ok b i h hb h0 h1
    rw [e, Option.bind_some]
    try dsimp only
    have hw := word_short w hw
    have e1 := size_app s w
    exact Ok.cond (by omega) (Ok.some (by omega) h0 h1)
  · refine ok_of 8 hb h0 h1 (by decide) (by decide) fun w i h hw h0 h1 => ?_
    try dsimp only
    have e1 := size_app s w
    exact Ok.cond (by omega) (Ok.some (by omega) h0 h1)
  · refine ok_of 2 hb h0 h1 (by decide) (by decide) fun w i h hw h0 h1 => ?_
    try dsimp only
    exact Ok.some (by show w.size ≤ 200; omega) h0 h1
  · refine Ok.bind (spec_l10Draw_ok b hb 1 (by omega) 1 (by omega) (by omega) i h h0 h1 k (by omega)) fun w i h hw h0 h1 => ?_
    try dsimp only
    have : b10 1 = 180 := rfl
    exact Ok.some (by show w.size ≤ 200; omega) h0 h1

theorem spec_l11Pad_l0 (d : Nat) : ∀ (k : Nat) (n : Int) (s : ByteArray), n ≤ d → -10 ≤ n → s.size + d ≤ 1000 → d < k → ∃ w, spec_l11Pad.l0 k n s = some w ∧ w.size ≤ s.size + d := by
  induction d with
  | zero =>
    intro k n s hn hn0 hs hk
    obtain ⟨k, rfl⟩ : ∃ j, k = j + 1 := ⟨k - 1, by omega⟩
    exact ⟨s, by rw [spec_l11Pad.l0, if_neg (by omega)], by omega⟩
  | succ d ih =>
    intro k n s hn hn0 hs hk
    obtain ⟨k, rfl⟩ : ∃ j, k = j + 1 := ⟨k - 1, by omega⟩
    rw [spec_l11Pad.l0]
    by_cases hc : n > 0
    · have e1 := size_app s (⟨#[32]⟩ : ByteArray)
      have o : (⟨#[32]⟩ : ByteArray).size = 1 := rfl
      rw [if_pos hc, if_pos (by omega), w64 (n := n - 1) (by omega) (by omega)]
      obtain ⟨w, q, hw⟩ := ih k (n - 1) (s ++ (⟨#[32]⟩ : ByteArray)) (by omega) (by omega) (by omega) (by omega)
      exact ⟨w, q, by omega⟩
    · rw [if_neg hc]
      exact ⟨s, rfl, by omega⟩
theorem ok_pad {b : List Int} {B : Nat} {k : Nat} {n : Int} {f : ByteArray → Option (ByteArray × Int × Int)} (hn : n ≤ 20) (hn0 : -10 ≤ n) (hk : 30 ≤ k) (hf : ∀ w : ByteArray, w.size ≤ 20 → Ok b B (f w)) : Ok b B ((spec_l11Pad.f k n).bind f) := by
  obtain ⟨w, e, hw⟩ := spec_l11Pad_l0 20 k n (⟨#[]⟩ : ByteArray) (by omega) hn0 (by decide) (by omega)
  unfold spec_l11Pad.f
  rw [e, Option.bind_some]
  exact hf w (by rw [size_none] at hw; omega)

theorem spec_l11Value0_ok (b : List Int) (hb : b.length ≤ 4611686018427387904) (D : Nat) (hD : D ≤ 100000) (draw : List Int → Int → Int → Int → Int → Option (ByteArray × Int × Int)) (a1 a2 : Int) (ha : 0 ≤ a1) (ha' : a1 ≤ 17) (hd0 : -10 ≤ a2) (hd1 : a2 ≤ 10) (hdraw : ∀ n : Int, a1 + 1 ≤ n → n ≤ a1 + 2 → ∀ i h : Int, 0 ≤ i → i ≤ (b.length : Int) → Ok b D (draw b i h n (a2 - 1))) (i h : Int) (h0 : 0 ≤ i) (h1 : i ≤ (b.length : Int)) (k : Nat) (hk : 60 ≤ k) : Ok b (D + 300) (spec_l11Value0.g draw k b i h a1 a2) := by
  unfold spec_l11Value0.g
  refine ok_below hb h0 h1 (by omega) fun v i h v0 v1 h0 h1 => ?_
  try dsimp only
  have o1 : (⟨#[32]⟩ : ByteArray).size = 1 := rfl
  have o2 : (⟨#[10]⟩ : ByteArray).size = 1 := rfl
  have o3 : (⟨#[45, 32, 120, 10]⟩ : ByteArray).size = 4 := rfl
  have o4 : (⟨#[45, 32]⟩ : ByteArray).size = 2 := rfl
  have o5 : (⟨#[32, 124, 10]⟩ : ByteArray).size = 3 := rfl
  have o6 : (⟨#[32, 32, 116, 10]⟩ : ByteArray).size = 4 := rfl
  refine Ok.ite (fun _ => ?_) (fun _ => Ok.ite (fun _ => ?_) (fun _ => Ok.ite (fun _ => ?_) (fun _ => ?_)))
  · refine Ok.bind (spec_l11Leaf_ok b hb i h h0 h1 k (by omega)) fun w i h hw h0 h1 => ?_
    try dsimp only
    have e1 := size_app (⟨#[32]⟩ : ByteArray) w
    have e2 := size_app ((⟨#[32]⟩ : ByteArray) ++ w) (⟨#[10]⟩ : ByteArray)
    exact Ok.cond (by omega) (Ok.cond (by omega) (Ok.some (by omega) h0 h1))
  · refine ok_below hb h0 h1 (by omega) fun u i h u0 u1 h0 h1 => ?_
    try dsimp only
    refine ok_of 6 hb h0 h1 (by decide) (by decide) fun w i h hw h0 h1 => ?_
    try dsimp only
    rw [w64 (n := a1 + 1) (by omega) (by omega), w64 (n := a1 + 1 + u) (by omega) (by omega), w64 (n := a2 - 1) (by omega) (by omega)]
    refine ok_pad (by omega) (by omega) (by omega) fun p hp => ?_
    have e1 := size_app w p
    refine Ok.cond (by omega) ?_
    refine Ok.bind (hdraw (a1 + 1 + u) (by omega) (by omega) i h h0 h1) fun x i h hx h0 h1 => ?_
    try dsimp only
    have e2 := size_app (w ++ p) x
    exact Ok.cond (by omega) (Ok.some (by omega) h0 h1)
  · refine ok_pad (by omega) (by omega) (by omega) fun p hp => ?_
    have e1 := size_app (⟨#[10]⟩ : ByteArray) p
    have e2 := size_app ((⟨#[10]⟩ : ByteArray) ++ p) (⟨#[45, 32, 120, 10]⟩ : ByteArray)
    refine Ok.cond (by omega) (Ok.cond (by omega) ?_)
    refine ok_pad (by omega) (by omega) (by omega) fun q hq => ?_
    have e3 := size_app ((⟨#[10]⟩ : ByteArray) ++ p ++ (⟨#[45, 32, 120, 10]⟩ : ByteArray)) q
    have e4 := size_app ((⟨#[10]⟩ : ByteArray) ++ p ++ (⟨#[45, 32, 120, 10]⟩ : ByteArray) ++ q) (⟨#[45, 32]⟩ : ByteArray)
    refine Ok.cond (by omega) (Ok.cond (by omega) ?_)
    refine Ok.bind (spec_l11Leaf_ok b hb i h h0 h1 k (by omega)) fun w i h hw h0 h1 => ?_
    try dsimp only
    have e5 := size_app ((⟨#[10]⟩ : ByteArray) ++ p ++ (⟨#[45, 32, 120, 10]⟩ : ByteArray) ++ q ++ (⟨#[45, 32]⟩ : ByteArray)) w
    have e6 := size_app ((⟨#[10]⟩ : ByteArray) ++ p ++ (⟨#[45, 32, 120, 10]⟩ : ByteArray) ++ q ++ (⟨#[45, 32]⟩ : ByteArray) ++ w) (⟨#[10]⟩ : ByteArray)
    exact Ok.cond (by omega) (Ok.cond (by omega) (Ok.some (by omega) h0 h1))
  · refine ok_pad (by omega) (by omega) (by omega) fun p hp => ?_
    have e1 := size_app (⟨#[32, 124, 10]⟩ : ByteArray) p
    have e2 := size_app ((⟨#[32, 124, 10]⟩ : ByteArray) ++ p) (⟨#[32, 32, 116, 10]⟩ : ByteArray)
    exact Ok.cond (by omega) (Ok.cond (by omega) (Ok.some (by omega) h0 h1))

def b11 : Nat → Nat
  | 0 => 300
  | n + 1 => 1100 + 3 * b11 n
theorem b11_ge (n : Nat) : 300 ≤ b11 n := by
  induction n with
  | zero => exact Nat.le_refl _
  | succ n ih => rw [b11]; omega
theorem b11_mono (n : Nat) : b11 n ≤ b11 (n + 1) := by rw [b11]; omega
theorem b11_le (n m : Nat) (h : n ≤ m) : b11 n ≤ b11 m := by
  induction m with
  | zero => rw [show n = 0 by omega]; exact Nat.le_refl _
  | succ m ih =>
    rcases Nat.lt_or_ge n (m + 1) with hn | hn
    · exact Nat.le_trans (ih (by omega)) (b11_mono m)
    · rw [show n = m + 1 by omega]; exact Nat.le_refl _
theorem spec_l11Draw_flat (b : List Int) (hb : b.length ≤ 4611686018427387904) (a1 a2 x7 : Int) (ha : 0 ≤ a1) (ha' : a1 ≤ 17) (hx : 7 ≤ x7) (i h : Int) (h0 : 0 ≤ i) (h1 : i ≤ (b.length : Int)) (k : Nat) (hk : 61 ≤ k) : Ok b 300 (spec_l11Draw.j0 k a1 a2 x7 b i h) := by
  obtain ⟨k, rfl⟩ : ∃ j, k = j + 1 := ⟨k - 1, by omega⟩
  have o2 : (⟨#[10]⟩ : ByteArray).size = 1 := rfl
  have o3 : (⟨#[32, 116, 101, 120, 116, 10, 10]⟩ : ByteArray).size = 7 := rfl
  have o4 : (⟨#[32, 32, 102, 97, 114, 10]⟩ : ByteArray).size = 6 := rfl
  have o5 : (⟨#[32, 109, 111, 114, 101, 10]⟩ : ByteArray).size = 6 := rfl
  rw [spec_l11Draw.j0, if_neg (by omega), if_neg (by omega)]
  refine Ok.ite (fun _ => ?_) (fun _ => ?_)
  · refine ok_of 2 hb h0 h1 (by decide) (by decide) fun w i h hw h0 h1 => ?_
    try dsimp only
    have e1 := size_app w (⟨#[10]⟩ : ByteArray)
    refine Ok.cond (by omega) ?_
    refine ok_pad (by omega) (by omega) (by omega) fun p hp => ?_
    have e2 := size_app (w ++ (⟨#[10]⟩ : ByteArray)) p
    have e3 := size_app (w ++ (⟨#[10]⟩ : ByteArray) ++ p) (⟨#[32, 116, 101, 120, 116, 10, 10]⟩ : ByteArray)
    refine Ok.cond (by omega) (Ok.cond (by omega) ?_)
    refine ok_pad (by omega) (by omega) (by omega) fun q hq => ?_
    have e4 := size_app (w ++ (⟨#[10]⟩ : ByteArray) ++ p ++ (⟨#[32, 116, 101, 120, 116, 10, 10]⟩ : ByteArray)) q
    have e5 := size_app (w ++ (⟨#[10]⟩ : ByteArray) ++ p ++ (⟨#[32, 116, 101, 120, 116, 10, 10]⟩ : ByteArray) ++ q) (⟨#[32, 32, 102, 97, 114, 10]⟩ : ByteArray)
    exact Ok.cond (by omega) (Ok.cond (by omega) (Ok.some (by omega) h0 h1))
  · refine Ok.bind (spec_l11Leaf_ok b hb i h h0 h1 k (by omega)) fun w i h hw h0 h1 => ?_
    try dsimp only
    refine ok_pad (by omega) (by omega) (by omega) fun p hp => ?_
    have e1 := size_app (⟨#[10]⟩ : ByteArray) p
    have e2 := size_app ((⟨#[10]⟩ : ByteArray) ++ p) (⟨#[32, 109, 111, 114, 101, 10]⟩ : ByteArray)
    refine Ok.cond (by omega) (Ok.cond (by omega) ?_)
    refine ok_of 27 hb h0 h1 (by simp) (fun x hx => by
      simp only [List.mem_cons, List.not_mem_nil, or_false] at hx
      rcases hx with h | h | h | h <;> (rw [h]; omega)) fun v i h hv h0 h1 => ?_
    try dsimp only
    have e3 := size_app w v
    exact Ok.cond (by omega) (Ok.some (by omega) h0 h1)
set_option maxRecDepth 100000 in
theorem spec_l11Draw_l0 (b : List Int) (hb : b.length ≤ 4611686018427387904) (D : Nat) (hD : D ≤ 10000) (K : Nat) (hK : 60 ≤ K) (a1 a2 : Int) (ha : 0 ≤ a1) (ha' : a1 ≤ 15) (hd0 : -5 ≤ a2) (hd1 : a2 ≤ 5) (ih : ∀ n : Int, a1 + 1 ≤ n → n ≤ a1 + 2 → ∀ i h : Int, 0 ≤ i → i ≤ (b.length : Int) → ∀ k, K ≤ k → Ok b D (spec_l11Draw.f k b i h n (a2 - 1))) (d : Nat) : ∀ (k : Nat) (s : ByteArray) (x9 i h : Int), 0 ≤ x9 → x9 ≤ d → d ≤ 3 → s.size + d * (D + 330) ≤ 100000 → 0 ≤ i → i ≤ (b.length : Int) → K + 2 * d + 1 ≤ k → Ok b (s.size + d * (D + 330)) (spec_l11Draw.l0 k a1 a2 s x9 b i h) := by
  have fin : ∀ (z : Nat) (k : Nat) (s : ByteArray) (i h : Int), 0 ≤ i → i ≤ (b.length : Int) → 1 ≤ k → Ok b (s.size + z) (spec_l11Draw.l0 k a1 a2 s 0 b i h) := by
    intro z k s i h h0 h1 hk
    obtain ⟨k, rfl⟩ : ∃ j, k = j + 1 := ⟨k - 1, by omega⟩
    rw [spec_l11Draw.l0, if_neg (by omega)]
    exact Ok.some (by omega) h0 h1
  induction d with
  | zero =>
    intro k s x9 i h hx0 hx hdd hs h0 h1 hk
    obtain rfl : x9 = 0 := by omega
    exact fin (0 * (D + 330)) k s i h h0 h1 (by omega)
  | succ d ihd =>
    intro k s x9 i h hx0 hx hdd hs h0 h1 hk
    by_cases hc : x9 > 0
    · obtain ⟨k, rfl⟩ : ∃ j, k = j + 2 := ⟨k - 2, by omega⟩
      have hmul : (d + 1) * (D + 330) = d * (D + 330) + (D + 330) := by rw [Nat.add_mul, Nat.one_mul]
      rw [hmul] at hs ⊢
      have st : ∀ (s' : ByteArray) (i h : Int), 0 ≤ i → i ≤ (b.length : Int) → s'.size ≤ s.size + 20 → Ok b (s.size + (d * (D + 330) + (D + 330))) (spec_l11Draw.j2 (k + 1) a1 a2 s' x9 b i h) := by
        intro s' i h h0 h1 hs'
        rw [spec_l11Draw.j2]
        refine ok_of 3 hb h0 h1 (by decide) (by decide) fun w i h hw h0 h1 => ?_
        try dsimp only
        have e1 := size_app s' w
        refine Ok.cond (by omega) ?_
        refine ok_of 3 hb h0 h1 (by decide) (by decide) fun u i h hu h0 h1 => ?_
        try dsimp only
        have e2 := size_app (s' ++ w) u
        refine Ok.cond (by omega) ?_
        refine ok_of 2 hb h0 h1 (by decide) (by decide) fun v i h hv h0 h1 => ?_
        try dsimp only
        have e3 := size_app (s' ++ w ++ u) v
        refine Ok.cond (by omega) ?_
        refine Ok.bind (spec_l11Value0_ok b hb D (by omega) (fun y0 y1 y2 y3 y4 => spec_l11Draw.f k y0 y1 y2 y3 y4) a1 a2 ha (by omega) (by omega) (by omega) (fun n hn hn' i h h0 h1 => ih n hn hn' i h h0 h1 k (by omega)) i h h0 h1 k (by omega)) fun x i h hx h0 h1 => ?_
        try dsimp only
        have e4 := size_app (s' ++ w ++ u ++ v) x
        refine Ok.cond (by omega) ?_
        rw [w64 (n := x9 - 1) (by omega) (by omega)]
        exact (ihd k _ (x9 - 1) i h (by omega) (by omega) (by omega) (by omega) h0 h1 (by omega)).mono (by omega)
      rw [spec_l11Draw.l0, if_pos hc]
      refine Ok.ite (fun _ => st s i h h0 h1 (by omega)) (fun _ => ?_)
      refine ok_pad (by omega) (by omega) (by omega) fun p hp => ?_
      have e1 := size_app s p
      exact Ok.cond (by omega) (st (s ++ p) i h h0 h1 (by omega))
    · obtain rfl : x9 = 0 := by omega
      exact fin ((d + 1) * (D + 330)) k s i h h0 h1 (by omega)
set_option maxRecDepth 100000 in
theorem spec_l11Draw_l1 (b : List Int) (hb : b.length ≤ 4611686018427387904) (D : Nat) (hD : D ≤ 10000) (K : Nat) (hK : 60 ≤ K) (a1 a2 : Int) (ha : 0 ≤ a1) (ha' : a1 ≤ 15) (hd0 : -5 ≤ a2) (hd1 : a2 ≤ 5) (ih : ∀ n : Int, a1 + 1 ≤ n → n ≤ a1 + 2 → ∀ i h : Int, 0 ≤ i → i ≤ (b.length : Int) → ∀ k, K ≤ k → Ok b D (spec_l11Draw.f k b i h n (a2 - 1))) (d : Nat) : ∀ (k : Nat) (s : ByteArray) (x9 i h : Int), 0 ≤ x9 → x9 ≤ d → d ≤ 3 → s.size + d * (D + 330) ≤ 100000 → 0 ≤ i → i ≤ (b.length : Int) → K + 2 * d + 1 ≤ k → Ok b (s.size + d * (D + 330)) (spec_l11Draw.l1 k a1 a2 s x9 b i h) := by
  have o1 : (⟨#[45]⟩ : ByteArray).size = 1 := rfl
  have fin : ∀ (z : Nat) (k : Nat) (s : ByteArray) (i h : Int), 0 ≤ i → i ≤ (b.length : Int) → 1 ≤ k → Ok b (s.size + z) (spec_l11Draw.l1 k a1 a2 s 0 b i h) := by
    intro z k s i h h0 h1 hk
    obtain ⟨k, rfl⟩ : ∃ j, k = j + 1 := ⟨k - 1, by omega⟩
    rw [spec_l11Draw.l1, if_neg (by omega)]
    exact Ok.some (by omega) h0 h1
  induction d with
  | zero =>
    intro k s x9 i h hx0 hx hdd hs h0 h1 hk
    obtain rfl : x9 = 0 := by omega
    exact fin (0 * (D + 330)) k s i h h0 h1 (by omega)
  | succ d ihd =>
    intro k s x9 i h hx0 hx hdd hs h0 h1 hk
    by_cases hc : x9 > 0
    · obtain ⟨k, rfl⟩ : ∃ j, k = j + 2 := ⟨k - 2, by omega⟩
      have hmul : (d + 1) * (D + 330) = d * (D + 330) + (D + 330) := by rw [Nat.add_mul, Nat.one_mul]
      rw [hmul] at hs ⊢
      have st : ∀ (s' : ByteArray) (i h : Int), 0 ≤ i → i ≤ (b.length : Int) → s'.size ≤ s.size + 20 → Ok b (s.size + (d * (D + 330) + (D + 330))) (spec_l11Draw.j4 (k + 1) a1 a2 s' x9 b i h) := by
        intro s' i h h0 h1 hs'
        rw [spec_l11Draw.j4]
        have e1 := size_app s' (⟨#[45]⟩ : ByteArray)
        refine Ok.cond (by omega) ?_
        refine ok_of 2 hb h0 h1 (by decide) (by decide) fun w i h hw h0 h1 => ?_
        try dsimp only
        have e2 := size_app (s' ++ (⟨#[45]⟩ : ByteArray)) w
        refine Ok.cond (by omega) ?_
        refine ok_below hb h0 h1 (by omega) fun u i h u0 u1 h0 h1 => ?_
        try dsimp only
        rw [w64 (n := a1 + 2) (by omega) (by omega), w64 (n := a2 - 1) (by omega) (by omega), w64 (n := x9 - 1) (by omega) (by omega)]
        refine Ok.ite (fun _ => ?_) (fun _ => ?_)
        · refine Ok.bind (ih (a1 + 2) (by omega) (by omega) i h h0 h1 k (by omega)) fun x i h hx h0 h1 => ?_
          try dsimp only
          have e3 := size_app (s' ++ (⟨#[45]⟩ : ByteArray) ++ w) x
          refine Ok.cond (by omega) ?_
          exact (ihd k _ (x9 - 1) i h (by omega) (by omega) (by omega) (by omega) h0 h1 (by omega)).mono (by omega)
        · refine Ok.bind (spec_l11Leaf_ok b hb i h h0 h1 k (by omega)) fun x i h hx h0 h1 => ?_
          try dsimp only
          have e3 := size_app (s' ++ (⟨#[45]⟩ : ByteArray) ++ w) x
          refine Ok.cond (by omega) ?_
          refine ok_of 5 hb h0 h1 (by decide) (by decide) fun v i h hv h0 h1 => ?_
          try dsimp only
          have e4 := size_app (s' ++ (⟨#[45]⟩ : ByteArray) ++ w ++ x) v
          refine Ok.cond (by omega) ?_
          exact (ihd k _ (x9 - 1) i h (by omega) (by omega) (by omega) (by omega) h0 h1 (by omega)).mono (by omega)
      rw [spec_l11Draw.l1, if_pos hc]
      refine Ok.ite (fun _ => st s i h h0 h1 (by omega)) (fun _ => ?_)
      refine ok_pad (by omega) (by omega) (by omega) fun p hp => ?_
      have e1 := size_app s p
      exact Ok.cond (by omega) (st (s ++ p) i h h0 h1 (by omega))
    · obtain rfl : x9 = 0 := by omega
      exact fin ((d + 1) * (D + 330)) k s i h h0 h1 (by omega)
set_option maxRecDepth 100000 in
theorem spec_l11Draw_ok (b : List Int) (hb : b.length ≤ 4611686018427387904) (d : Nat) : d ≤ 3 → ∀ (a1 a2 : Int), 0 ≤ a1 → a1 + 2 * d ≤ 15 → a2 ≤ d → -4 + (d : Int) ≤ a2 → ∀ i h : Int, 0 ≤ i → i ≤ (b.length : Int) → ∀ k, 20 * d + 100 ≤ k → Ok b (b11 d) (spec_l11Draw.f k b i h a1 a2) := by
  induction d with
  | zero =>
    intro _ a1 a2 ha ha' hd hd' i h h0 h1 k hk
    obtain ⟨k, rfl⟩ : ∃ j, k = j + 1 := ⟨k - 1, by omega⟩
    rw [spec_l11Draw.f]
    refine ok_below hb h0 h1 (by omega) fun v i h v0 v1 h0 h1 => ?_
    try dsimp only
    rw [if_pos (by omega)]
    exact spec_l11Draw_flat b hb a1 a2 8 ha (by omega) (by omega) i h h0 h1 k (by omega)
  | succ d ih =>
    intro hd3 a1 a2 ha ha' hd hd' i h h0 h1 k hk
    have hb11 : b11 d ≤ 10000 := Nat.le_trans (b11_le d 2 (by omega)) (by decide)
    have hge := b11_ge d
    have hge1 := b11_ge (d + 1)
    have hstep : b11 (d + 1) = 1100 + 3 * b11 d := rfl
    have ih2 := ih (by omega)
    clear ih
    rw [hstep] at hge1 ⊢
    clear hstep
    generalize b11 d = D at hb11 hge ih2 hge1 ⊢
    obtain ⟨k, rfl⟩ : ∃ j, k = j + 2 := ⟨k - 2, by omega⟩
    rw [spec_l11Draw.f]
    refine ok_below hb h0 h1 (by omega) fun v i h v0 v1 h0 h1 => ?_
    try dsimp only
    refine Ok.ite (fun _ => (spec_l11Draw_flat b hb a1 a2 8 ha (by omega) (by omega) i h h0 h1 (k + 1) (by omega)).mono hge1) (fun hpos => ?_)
    by_cases hv : 7 ≤ v
    · exact (spec_l11Draw_flat b hb a1 a2 v ha (by omega) hv i h h0 h1 (k + 1) (by omega)).mono hge1
    · have ih' : ∀ n : Int, a1 + 1 ≤ n → n ≤ a1 + 2 → ∀ i h : Int, 0 ≤ i → i ≤ (b.length : Int) → ∀ k, 20 * d + 100 ≤ k → Ok b D (spec_l11Draw.f k b i h n (a2 - 1)) := fun n hn hn' i h h0 h1 k hk => ih2 n (a2 - 1) (by omega) (by omega) (by omega) (by omega) i h h0 h1 k hk
      have o : (⟨#[]⟩ : ByteArray).size = 0 := rfl
      rw [spec_l11Draw.j0]
      refine Ok.ite (fun _ => ?_) (fun _ => ?_)
      · refine ok_below hb h0 h1 (by omega) fun u i h u0 u1 h0 h1 => ?_
        try dsimp only
        rw [w64 (n := 1 + u) (by omega) (by omega)]
        exact (spec_l11Draw_l0 b hb D hb11 (20 * d + 100) (by omega) a1 a2 ha (by omega) (by omega) (by omega) ih' 3 k (⟨#[]⟩ : ByteArray) (1 + u) i h (by omega) (by omega) (by omega) (by omega) h0 h1 (by omega)).mono (by omega)
      · rw [if_pos (by omega)]
        refine ok_below hb h0 h1 (by omega) fun u i h u0 u1 h0 h1 => ?_
        try dsimp only
        rw [w64 (n := 1 + u) (by omega) (by omega)]
        exact (spec_l11Draw_l1 b hb D hb11 (20 * d + 100) (by omega) a1 a2 ha (by omega) (by omega) (by omega) ih' 3 k (⟨#[]⟩ : ByteArray) (1 + u) i h (by omega) (by omega) (by omega) (by omega) h0 h1 (by omega)).mono (by omega)

theorem spec_l12Draw_l0 (b : List Int) (hb : b.length ≤ 4611686018427387904) (d : Nat) : ∀ (k : Nat) (s : ByteArray) (x4 i h : Int), 0 ≤ x4 → x4 ≤ d → d ≤ 2 → s.size + d * 30000 ≤ 100000 → 0 ≤ i → i ≤ (b.length : Int) → 300 + d ≤ k → Ok b (s.size + d * 30000 + 10000) (spec_l12Draw.l0 k s x4 b i h) := by
  have B3 : b11 3 = 22400 := rfl
  have B2 : b11 2 = 7100 := rfl
  have C2 : b10 2 = 820 := rfl
  have o1 : (⟨#[45, 45, 45, 32]⟩ : ByteArray).size = 4 := rfl
  have o2 : (⟨#[10]⟩ : ByteArray).size = 1 := rfl
  have fin : ∀ (z : Nat) (k : Nat) (s : ByteArray) (i h : Int), s.size + z ≤ 100000 → 0 ≤ i → i ≤ (b.length : Int) → 300 ≤ k → Ok b (s.size + z + 10000) (spec_l12Draw.l0 k s 0 b i h) := by
    intro z k s i h hs h0 h1 hk
    obtain ⟨k, rfl⟩ : ∃ j, k = j + 1 := ⟨k - 1, by omega⟩
    rw [spec_l12Draw.l0, if_neg (by omega)]
    refine Ok.bind (spec_l11Draw_ok b hb 2 (by omega) 0 2 (by omega) (by omega) (by omega) (by omega) i h h0 h1 k (by omega)) fun w i h hw h0 h1 => ?_
    try dsimp only
    have e1 := size_app s w
    exact Ok.cond (by omega) (Ok.some (by omega) h0 h1)
  induction d with
  | zero =>
    intro k s x4 i h hx0 hx hd hs h0 h1 hk
    obtain rfl : x4 = 0 := by omega
    exact fin _ k s i h hs h0 h1 (by omega)
  | succ d ihd =>
    intro k s x4 i h hx0 hx hd hs h0 h1 hk
    by_cases hc : x4 > 0
    · obtain ⟨k, rfl⟩ : ∃ j, k = j + 1 := ⟨k - 1, by omega⟩
      rw [spec_l12Draw.l0, if_pos hc]
      refine ok_below hb h0 h1 (by omega) fun v i h v0 v1 h0 h1 => ?_
      try dsimp only
      rw [w64 (n := x4 - 1) (by omega) (by omega)]
      refine Ok.ite (fun _ => ?_) (fun _ => Ok.ite (fun _ => ?_) (fun _ => ?_))
      · refine Ok.bind (spec_l11Draw_ok b hb 3 (by omega) 0 3 (by omega) (by omega) (by omega) (by omega) i h h0 h1 k (by omega)) fun w i h hw h0 h1 => ?_
        try dsimp only
        have e1 := size_app s w
        refine Ok.cond (by omega) ?_
        refine ok_of 30 hb h0 h1 (by decide) (by decide) fun u i h hu h0 h1 => ?_
        try dsimp only
        have e2 := size_app (s ++ w) u
        refine Ok.cond (by omega) ?_
        exact (ihd k _ (x4 - 1) i h (by omega) (by omega) (by omega) (by omega) h0 h1 (by omega)).mono (by omega)
      · have e0 := size_app s (⟨#[45, 45, 45, 32]⟩ : ByteArray)
        refine Ok.cond (by omega) ?_
        refine Ok.bind (spec_l11Leaf_ok b hb i h h0 h1 k (by omega)) fun w i h hw h0 h1 => ?_
        try dsimp only
        have e1 := size_app (s ++ (⟨#[45, 45, 45, 32]⟩ : ByteArray)) w
        have e2 := size_app (s ++ (⟨#[45, 45, 45, 32]⟩ : ByteArray) ++ w) (⟨#[10]⟩ : ByteArray)
        refine Ok.cond (by omega) (Ok.cond (by omega) ?_)
        refine ok_of 30 hb h0 h1 (by decide) (by decide) fun u i h hu h0 h1 => ?_
        try dsimp only
        have e3 := size_app (s ++ (⟨#[45, 45, 45, 32]⟩ : ByteArray) ++ w ++ (⟨#[10]⟩ : ByteArray)) u
        refine Ok.cond (by omega) ?_
        exact (ihd k _ (x4 - 1) i h (by omega) (by omega) (by omega) (by omega) h0 h1 (by omega)).mono (by omega)
      · refine Ok.bind (spec_l10Draw_ok b hb 2 (by omega) 2 (by omega) (by omega) i h h0 h1 k (by omega)) fun w i h hw h0 h1 => ?_
        try dsimp only
        have e1 := size_app s w
        have e2 := size_app (s ++ w) (⟨#[10]⟩ : ByteArray)
        refine Ok.cond (by omega) (Ok.cond (by omega) ?_)
        refine ok_of 30 hb h0 h1 (by decide) (by decide) fun u i h hu h0 h1 => ?_
        try dsimp only
        have e3 := size_app (s ++ w ++ (⟨#[10]⟩ : ByteArray)) u
        refine Ok.cond (by omega) ?_
        exact (ihd k _ (x4 - 1) i h (by omega) (by omega) (by omega) (by omega) h0 h1 (by omega)).mono (by omega)
    · obtain rfl : x4 = 0 := by omega
      exact fin _ k s i h hs h0 h1 (by omega)
theorem spec_l12Draw_ok (b : List Int) (hb : b.length ≤ 4611686018427387904) (i h : Int) (h0 : 0 ≤ i) (h1 : i ≤ (b.length : Int)) (k : Nat) (hk : 400 ≤ k) : Ok b 70100 (spec_l12Draw.f k b i h) := by
  unfold spec_l12Draw.f
  refine ok_of 30 hb h0 h1 (by decide) (by decide) fun s i h hs h0 h1 => ?_
  try dsimp only
  refine ok_below hb h0 h1 (by omega) fun v i h v0 v1 h0 h1 => ?_
  try dsimp only
  exact (spec_l12Draw_l0 b hb 2 k s v i h v0 (by omega) (by omega) (by omega) h0 h1 (by omega)).mono (by omega)

theorem spec_l12Any_ok (b : List Int) (hb : b.length ≤ 4611686018427387904) (i h : Int) (h0 : 0 ≤ i) (h1 : i ≤ (b.length : Int)) (k : Nat) (hk : 400 ≤ k) : Ok b 70200 (spec_l12Any.f k b i h) := by
  unfold spec_l12Any.f
  refine ok_below hb h0 h1 (by omega) fun v i h v0 v1 h0 h1 => ?_
  try dsimp only
  refine Ok.ite (fun _ => ?_) (fun _ => ?_)
  · refine Ok.bind (spec_l01Mess_ok b hb 12 (by omega) i h h0 h1 k (by omega)) fun w i h hw h0 h1 => ?_
    try dsimp only
    exact Ok.some (by show w.size ≤ _; omega) h0 h1
  · refine Ok.bind (spec_l12Draw_ok b hb i h h0 h1 k hk) fun w i h hw h0 h1 => ?_
    try dsimp only
    refine Ok.bind (spec_l10Spoil_ok b hb w (by omega) i h h0 h1 k (by omega)) fun u i h hu h0 h1 => ?_
    try dsimp only
    exact Ok.some (by show u.size ≤ _; omega) h0 h1

theorem spec_l16Text_ok (b : List Int) (hb : b.length ≤ 4611686018427387904) (i h : Int) (h0 : 0 ≤ i) (h1 : i ≤ (b.length : Int)) (k : Nat) (hk : 400 ≤ k) : Ok b 70200 (spec_l16Text.f k b i h) := by
  unfold spec_l16Text.f
  refine ok_below hb h0 h1 (by omega) fun v i h v0 v1 h0 h1 => ?_
  try dsimp only
  refine Ok.ite (fun _ => ?_) (fun _ => ?_)
  · refine Ok.bind (spec_l12Any_ok b hb i h h0 h1 k hk) fun w i h hw h0 h1 => ?_
    try dsimp only
    exact Ok.some (by show w.size ≤ _; omega) h0 h1
  · refine ok_of 100 hb h0 h1 (by decide) (by decide) fun s i h hs h0 h1 => ?_
    try dsimp only
    refine Ok.ite (fun _ => ?_) (fun _ => Ok.some (by show s.size ≤ _; omega) h0 h1)
    refine Ok.bind (spec_l10Spoil_ok b hb s (by omega) i h h0 h1 k (by omega)) fun u i h hu h0 h1 => ?_
    try dsimp only
    exact Ok.some (by show u.size ≤ _; omega) h0 h1

theorem spec_MakeAnyText_ok (b : List Int) (hb : b.length ≤ 4611686018427387904) (k : Nat) (hk : b.length + 400 ≤ k) : ∃ s, spec_MakeAnyText.f k b = some s ∧ s.size ≤ 70200 := by
  obtain ⟨h, e⟩ := spec_l01New_ok b hb k (by omega)
  unfold spec_MakeAnyText.f
  rw [e, Option.bind_some]
  obtain ⟨w, i, h, e, hw, h0, h1⟩ := spec_l12Any_ok b hb 0 h (by omega) (by omega) k (by omega)
  simp only [e, Option.bind_some]
  obtain ⟨v, i, h, e, v0, v1, _, h0, h1⟩ := spec_l01Below_ok b i h 3 hb h0 h1
  simp only [e, Option.bind_some]
  by_cases hv : v = 0
  · obtain ⟨u, i, h, e, hu, h0, h1⟩ := spec_l16Text_ok b hb i h h0 h1 k (by omega)
    rw [if_pos hv, e, Option.bind_some]
    exact ⟨u, rfl, hu⟩
  · rw [if_neg hv]
    exact ⟨w, rfl, hw⟩

theorem spec_MakeNum_ok (b : List Int) (hb : b.length ≤ 4611686018427387904) (n : Int) (hn : 0 < n) (k : Nat) (hk : b.length < k) : ∃ v, spec_MakeNum.f k b n = some v ∧ 0 ≤ v ∧ v < n := by
  obtain ⟨h, e⟩ := spec_l01New_ok b hb k (by omega)
  unfold spec_MakeNum.f
  rw [e, Option.bind_some]
  obtain ⟨v, i, h, e, v0, v1, _, h0, h1⟩ := spec_l01Below_ok b 0 (wrap64 (h + 777)) n hb (by omega) (by omega)
  simp only [e, Option.bind_some]
  exact ⟨v, rfl, v0, v1 hn⟩

theorem bytealg_LastIndexByteString_l0 (s : ByteArray) (c : Int) (hs : s.size ≤ 140737488351232) (d : Nat) : ∀ (k : Nat) (i : Int), -1 ≤ i → i < s.size → i < d → d < k →
    bytealg_LastIndexByteString.l0 k s c i = some (lastM c s (i + 1) - 1) := by
  induction d with
  | zero =>
    intro k i h0 h1 hd hk
    obtain ⟨k, rfl⟩ : ∃ m, k = m + 1 := ⟨k - 1, by omega⟩
    simp (disch := omega) only [bytealg_LastIndexByteString.l0, if_neg, lastM_neg]
    rfl
  | succ d ih =>
    intro k i h0 h1 hd hk
    obtain ⟨k, rfl⟩ : ∃ m, k = m + 1 := ⟨k - 1, by omega⟩
    by_cases hi : 0 ≤ i
    · by_cases hb : bt s i = c
      · have hb' : bt s (i + 1 - 1) = c := by rw [show i + 1 - 1 = i by omega]; exact hb
        rw [lastM_hit (by omega) hb']
        simp (disch := omega) only [bytealg_LastIndexByteString.l0, if_pos]
        congr 1; omega
      · have hb' : ¬ bt s (i + 1 - 1) = c := by rw [show i + 1 - 1 = i by omega]; exact hb
        rw [lastM_prev (by omega) hb']
        simp (disch := omega) only [bytealg_LastIndexByteString.l0, if_pos, if_neg, w64]
        rw [ih k (i - 1) (by omega) (by omega) (by omega) (by omega)]
        rw [show i + 1 - 1 = i - 1 + 1 by omega]
    · simp (disch := omega) only [bytealg_LastIndexByteString.l0, if_neg, lastM_neg]
      rfl
theorem bytealg_LastIndexByteString_ok (s : ByteArray) (c : Int) (hs : s.size ≤ 140737488351232) (k : Nat) (hk : s.size < k) :
    bytealg_LastIndexByteString.f k s c = some (lastM c s s.size - 1) := by
  unfold bytealg_LastIndexByteString.f
  rw [w64 (by omega) (by omega), bytealg_LastIndexByteString_l0 s c hs s.size k _ (by omega) (by omega) (by omega) hk]
  rw [show (s.size : Int) - 1 + 1 = s.size by omega]

theorem strings_LastIndexByte_ok (s : ByteArray) (c : Int) (hs : s.size ≤ 140737488351232) (k : Nat) (hk : s.size < k) :
    strings_LastIndexByte.f k s c = some (lastM c s s.size - 1) := by
  simp (disch := omega) only [strings_LastIndexByte.f, bytealg_LastIndexByteString_ok, Option.bind_some]

theorem impl_spot_ok (s : ByteArray) (p : Int) : impl_spot.f s p = some (spotM s p) := by
  unfold impl_spot.f; rw [mn_mx_spotM]

theorem impl_LineAt_ok (s : ByteArray) (p : Int) (hs : s.size ≤ 140737488351232) (k : Nat) (hk : s.size < k) : impl_LineAt.f k s p = some (lineM s p) := by
  have h0 := spotM_lo s p
  have h1 := spotM_hi s p
  have hz : (s.extract 0 (spotM s p).toNat).size = (spotM s p).toNat := by rw [size_ext _ _ _ (by omega)]; omega
  have hl := lastM_lo 10 (s.extract 0 (spotM s p).toNat) ((spotM s p).toNat : Int)
  have hm := lastM_hi (c := 10) (s := s.extract 0 (spotM s p).toNat) (p := ((spotM s p).toNat : Int)) (by omega)
  simp only [impl_LineAt.f, impl_spot_ok, Option.bind_some]
  rw [if_pos h0, if_pos h1, strings_LastIndexByte_ok _ _ (by omega) k (by omega), Option.bind_some, hz, w64 (by omega) (by omega)]
  unfold lineM
  rw [show ((spotM s p).toNat : Int) = spotM s p by omega] at *
  rw [show ∀ x : Int, x - 1 + 1 = x by intro x; omega]
  congr 1
  refine lastM_ext fun i a b => ?_
  rw [bt_ext (by omega) a (by omega)]
  congr 1; omega

theorem impl_EndAt_ok (s : ByteArray) (p : Int) (hs : s.size ≤ 140737488351232) : impl_EndAt.f s p = some (endM s p) := by
  have h0 := spotM_lo s p
  have h1 := spotM_hi s p
  simp only [impl_EndAt.f, impl_spot_ok, Option.bind_some]
  rw [if_pos h0, if_pos h1]
  simp only [strings_IndexByte.f, Option.bind_some]
  obtain ⟨r, hr⟩ : ∃ r, Lib.indexByte (s.extract (spotM s p).toNat s.size).data.toList (10 : Int).toNat.toUInt8 = r := ⟨_, rfl⟩
  obtain ⟨a, b, c⟩ := ix_ext h0 h1 hr
  rw [hr]
  unfold endM
  rw [← c]
  by_cases h : r < 0
  · rw [if_pos h, if_pos h]
  · rw [if_neg h, if_neg h, w64 (by omega) (by omega)]

theorem impl_byteAt_ok (s : ByteArray) (p : Int) : impl_byteAt.f s p = some (byteM s p) := by
  have h0 := spotM_lo s p
  have h1 := spotM_hi s p
  have h2 := bt_lo s (spotM s p)
  have h3 := bt_hi s (spotM s p)
  simp only [impl_byteAt.f, impl_spot_ok, Option.bind_some]
  unfold byteM
  by_cases h : spotM s p = (s.size : Int)
  · rw [if_pos h, if_pos h]
  · rw [if_neg h, if_neg h, if_pos h0, if_pos (by omega), w64 (by omega) (by omega)]

theorem impl_isWhite_ok (b : Int) : impl_isWhite.f b = some (whB b) := by
  unfold impl_isWhite.f
  by_cases h : b = 32
  · rw [if_pos h, whB_iff.mpr (.inl h)]
  · rw [if_neg h]
    by_cases h9 : b = 9
    · rw [h9]; rfl
    · rw [whB_not.mpr (by omega)]; simp [h9]

theorem impl_Gap_l0 (s : ByteArray) (hs : s.size ≤ 140737488351232) (d : Nat) : ∀ (k : Nat) (p : Int), 0 ≤ p → p ≤ s.size → (s.size : Int) - p ≤ d → s.size + 2 + 2 * d ≤ k →
    impl_Gap.l0 k s p = some (gp s p) := by
  induction d with
  | zero =>
    intro k p h0 h1 hd hk
    obtain ⟨k, rfl⟩ : ∃ m, k = m + 1 := ⟨k - 1, by omega⟩
    rw [impl_Gap.l0, if_neg (by omega), gp_end (by omega)]
  | succ d ih =>
    intro k p h0 h1 hd hk
    obtain ⟨k, rfl⟩ : ∃ m, k = m + 2 := ⟨k - 2, by omega⟩
    by_cases hp : p < s.size
    · have e1 : wrap64 (p + 1) = p + 1 := w64 (by omega) (by omega)
      have e2 : wrap64 (p - 1) = p - 1 := w64 (by omega) (by omega)
      have jt : ∀ b, impl_Gap.j1 (k + 1) s p b true = impl_Gap.l0 k s (p + 1) := fun b => by rw [impl_Gap.j1, if_pos rfl, e1]
      rw [impl_Gap.l0, if_pos hp]
      simp only [impl_byteAt_ok, impl_isWhite_ok, byteM_in h0 hp, Option.bind_some]
      have hb0 := bt_lo s p
      cases hw : whB (bt s p) with
      | true =>
        rw [if_pos rfl, jt, gp_step h0 hp (step_wh hw) (by omega)]
        exact ih k (p + 1) (by omega) (by omega) (by omega) (by omega)
      | false =>
        rw [if_neg (by decide)]
        by_cases h10 : bt s p = 10
        · rw [show (bt s p == 10) = true by simp [h10], jt, gp_step h0 hp (step_br h10) (by omega)]
          exact ih k (p + 1) (by omega) (by omega) (by omega) (by omega)
        · rw [show (bt s p == 10) = false by simp [h10], impl_Gap.j1, if_neg (by decide)]
          by_cases h35 : bt s p = 35
          · rw [if_pos h35]
            have g0 := endM_gt h0 hp h10
            have g1 := endM_le s p
            rw [impl_LineAt_ok s p hs k (by omega), Option.bind_some]
            have onRem : (lineM s p = p ∨ whB (byteM s (p - 1)) = true) → impl_Gap.l0 k s (endM s p) = some (gp s p) := fun h => by
              rw [gp_step h0 hp (step_rem h35 h) (by omega)]
              exact ih k _ (by omega) (by omega) (by omega) (by omega)
            by_cases hl : lineM s p = p
            · rw [if_pos hl, impl_EndAt_ok s p hs, Option.bind_some]
              exact onRem (.inl hl)
            · rw [if_neg hl, e2, impl_byteAt_ok, Option.bind_some, impl_isWhite_ok, Option.bind_some]
              cases hw1 : whB (byteM s (p - 1)) with
              | true => rw [if_pos rfl, impl_EndAt_ok s p hs, Option.bind_some]; exact onRem (.inr hw1)
              | false =>
                rw [if_neg (by decide), gp_stop hp (step_no h10 hw (by rw [hw1]; intro c; rcases c.2 with c | c; exact hl c; cases c))]
          · rw [if_neg h35, gp_stop hp (step_no h10 hw (fun c => h35 c.1))]
    · rw [impl_Gap.l0, if_neg hp, gp_end (by omega)]
theorem impl_Gap_ok (s : ByteArray) (p : Int) (hs : s.size ≤ 140737488351232) (k : Nat) (hk : 3 * s.size + 4 ≤ k) : impl_Gap.f k s p = some (gapM s p) := by
  have h0 := spotM_lo s p
  have h1 := spotM_hi s p
  simp only [impl_Gap.f, impl_spot_ok, Option.bind_some]
  exact impl_Gap_l0 s hs s.size k _ h0 h1 (by omega) (by omega)

theorem impl_White_l0 (s : ByteArray) (hs : s.size ≤ 140737488351232) (d : Nat) : ∀ (k : Nat) (i : Int), 0 ≤ i → i ≤ s.size → s.size - i ≤ d → d < k →
    impl_White.l0 k s i = some (upto noWh s i) := by
  induction d with
  | zero =>
    intro k i h0 h1 hd hk
    obtain ⟨k, rfl⟩ : ∃ m, k = m + 1 := ⟨k - 1, by omega⟩
    simp (disch := omega) only [impl_White.l0, impl_byteAt_ok, byteM_end, impl_isWhite_ok, Option.bind_some, upto_end]
    rfl
  | succ d ih =>
    intro k i h0 h1 hd hk
    obtain ⟨k, rfl⟩ : ∃ m, k = m + 1 := ⟨k - 1, by omega⟩
    by_cases hi : i < s.size
    · simp (disch := omega) only [impl_White.l0, impl_byteAt_ok, byteM_in, impl_isWhite_ok, Option.bind_some]
      by_cases hb : whB (bt s i) = true
      · rw [if_pos hb, upto_next hi (by simp [noWh, hb]), w64 (by omega) (by omega)]
        exact ih k (i + 1) (by omega) (by omega) (by omega) (by omega)
      · rw [if_neg hb, upto_hit hi (by simpa [noWh] using hb)]
    · simp (disch := omega) only [impl_White.l0, impl_byteAt_ok, byteM_end, impl_isWhite_ok, Option.bind_some, upto_end]
      rfl
theorem impl_White_ok (s : ByteArray) (p : Int) (hs : s.size ≤ 140737488351232) (k : Nat) (hk : s.size < k) : impl_White.f k s p = some (whiteM s p) := by
  have h0 := spotM_lo s p
  have h1 := spotM_hi s p
  simp only [impl_White.f, impl_spot_ok, Option.bind_some]
  exact impl_White_l0 s hs s.size k _ h0 h1 (by omega) hk

theorem impl_Col_ok (s : ByteArray) (p : Int) (hs : s.size ≤ 140737488351232) (k : Nat) (hk : s.size < k) : impl_Col.f k s p = some (spotM s p - lineM s p) := by
  have h0 := spotM_lo s p
  have h1 := spotM_hi s p
  have h2 := lineM_lo s p
  have h3 := lineM_hi s p
  simp (disch := omega) only [impl_Col.f, impl_spot_ok, impl_LineAt_ok, Option.bind_some, w64]

theorem impl_IndentAt_l0 (s : ByteArray) (hs : s.size ≤ 140737488351232) (a : Int) (ha : 0 ≤ a) (ha1 : a ≤ s.size) (d : Nat) : ∀ (k : Nat) (i : Int), 0 ≤ i → i ≤ s.size → s.size - i ≤ d → d < k →
    impl_IndentAt.l0 k s a i = some (upto noBl s i - a) := by
  induction d with
  | zero =>
    intro k i h0 h1 hd hk
    obtain ⟨k, rfl⟩ : ∃ m, k = m + 1 := ⟨k - 1, by omega⟩
    simp (disch := omega) only [impl_IndentAt.l0, impl_byteAt_ok, byteM_end, Option.bind_some, w64, if_neg, upto_end]
  | succ d ih =>
    intro k i h0 h1 hd hk
    obtain ⟨k, rfl⟩ : ∃ m, k = m + 1 := ⟨k - 1, by omega⟩
    by_cases hi : i < s.size
    · by_cases hb : bt s i = 32
      · rw [upto_next hi (noBl_not.mpr hb)]
        simp (disch := omega) only [impl_IndentAt.l0, impl_byteAt_ok, byteM_in, Option.bind_some, w64, if_pos]
        rw [ih k (i + 1) (by omega) (by omega) (by omega) (by omega)]
      · rw [upto_hit hi (noBl_iff.mpr hb)]
        simp (disch := omega) only [impl_IndentAt.l0, impl_byteAt_ok, byteM_in, Option.bind_some, w64, if_neg]
    · simp (disch := omega) only [impl_IndentAt.l0, impl_byteAt_ok, byteM_end, Option.bind_some, w64, if_neg, upto_end]
theorem impl_IndentAt_ok (s : ByteArray) (p : Int) (hs : s.size ≤ 140737488351232) (k : Nat) (hk : s.size < k) : impl_IndentAt.f k s p = some (indentM s p) := by
  have h0 := lineM_lo s p
  have h1 := lineM_size s p
  simp (disch := omega) only [impl_IndentAt.f, impl_LineAt_ok, Option.bind_some]
  rw [impl_IndentAt_l0 s hs _ h0 h1 s.size k _ h0 h1 (by omega) hk]
  rfl

theorem impl_isBreak_ok (b : Int) : impl_isBreak.f b = some (brB b) := by
  unfold impl_isBreak.f brB
  by_cases h : b = 10
  · simp [h]
  · rw [if_neg h]; simp [h]

theorem impl_Rest_ok (s : ByteArray) (p : Int) (hs : s.size ≤ 140737488351232) (k : Nat) (hk : s.size < k) : impl_Rest.f k s p = some (restM s p) := by
  have h0 := spotM_lo s p
  have h1 := spotM_hi s p
  simp (disch := omega) only [impl_Rest.f, impl_spot_ok, impl_White_ok, Option.bind_some, restM]
  generalize spotM s p = q at h0 h1 ⊢
  have w0 := whiteM_ge s q
  have w1 := whiteM_le s q
  rw [spotM_in h0 h1] at w0
  generalize whiteM s q = w at w0 w1 ⊢
  simp (disch := omega) only [impl_byteAt_ok, impl_isBreak_ok, impl_EndAt_ok, impl_LineAt_ok, Option.bind_some]
  cases hb : brB (byteM s w) with
  | true => rw [if_pos rfl, if_pos (show true = true ∨ (byteM s w = 35 ∧ (¬ w = q ∨ lineM s q = q)) from .inl rfl)]
  | false =>
    rw [if_neg (by decide)]

    by_cases c35 : byteM s w = 35
    · rw [if_pos c35]
      by_cases cq : w = q
      · rw [if_pos cq]
        by_cases cl : lineM s q = q
        · rw [if_pos cl, if_pos (show false = true ∨ (byteM s w = 35 ∧ (¬ w = q ∨ lineM s q = q)) from .inr ⟨c35, .inr cl⟩)]
        · rw [if_neg cl, if_neg (show ¬ (false = true ∨ (byteM s w = 35 ∧ (¬ w = q ∨ lineM s q = q))) from fun h => by
            rcases h with h | ⟨_, h | h⟩
            · cases h
            · exact h cq
            · exact cl h)]
      · rw [if_neg cq, if_pos (show false = true ∨ (byteM s w = 35 ∧ (¬ w = q ∨ lineM s q = q)) from .inr ⟨c35, .inl cq⟩)]
    · rw [if_neg c35, if_neg (show ¬ (false = true ∨ (byteM s w = 35 ∧ (¬ w = q ∨ lineM s q = q))) from fun h => by
        rcases h with h | ⟨h, _⟩
        · cases h
        · exact c35 h)]

theorem impl_Lone_ok (s : ByteArray) (p : Int) (hs : s.size ≤ 140737488351232) (k : Nat) (hk : s.size + 1 < k) : impl_Lone.f k s p = some (loneM s p) := by
  have h0 := lineM_lo s p
  have h1 := spotM_lo s (lineM s p)
  have h2 := whiteM_ge s (lineM s p)
  simp (disch := omega) only [impl_Lone.f, impl_LineAt_ok, impl_White_ok, impl_byteAt_ok, impl_isBreak_ok, Option.bind_some, loneM]

theorem lastN_no (c : Int) (s : ByteArray) (n : Nat) : ∀ p : Int, p = n → ∀ i : Int, lastM c s p ≤ i → i < p → ¬ bt s i = c := by
  induction n with
  | zero =>
    intro p hp i h0 h1 hb
    rw [lastM_neg (by omega)] at h0
    omega
  | succ n ih =>
    intro p hp i h0 h1 hb
    by_cases hc : bt s (p - 1) = c
    · rw [lastM_hit (by omega) hc] at h0
      omega
    · rw [lastM_prev (by omega) hc] at h0
      by_cases hi : i = p - 1
      · subst hi
        exact hc hb
      · exact ih (p - 1) (by omega) i h0 (by omega) hb
theorem gp_fix (s : ByteArray) (d : Nat) : ∀ p : Int, 0 ≤ p → p ≤ (s.size : Int) → (s.size : Int) - p ≤ d → gp s p < (s.size : Int) → gapStep s (gp s p) = gp s p := by
  induction d with
  | zero =>
    intro p h0 h1 hd hq
    rw [gp_end (by omega)] at hq
    omega
  | succ d ih =>
    intro p h0 h1 hd hq
    by_cases hp : p < (s.size : Int)
    · by_cases hs : gapStep s p = p
      · rw [gp_stop hp hs]
        exact hs
      · have hh := gapStep_hi h0 hp
        rw [gp_step h0 hp rfl hs] at hq ⊢
        exact ih (gapStep s p) (by omega) hh.2 (by omega) hq
    · rw [gp_end (by omega)] at hq
      omega
theorem gp_idem (s : ByteArray) (p : Int) (h0 : 0 ≤ p) (h1 : p ≤ (s.size : Int)) : gp s (gp s p) = gp s p := by
  have h2 := gp_le s ((s.size : Int) - p).toNat p h0 h1 (by omega)
  rcases Int.lt_or_le (gp s p) (s.size : Int) with hq | hq
  · exact gp_stop hq (gp_fix s ((s.size : Int) - p).toNat p h0 h1 (by omega) hq)
  · exact gp_end hq
theorem end_from {s : ByteArray} {p w : Int} (h0 : 0 ≤ p) (hpw : p ≤ w) (hw : w ≤ (s.size : Int)) (hn : ∀ i, p ≤ i → i < w → ¬ bt s i = 10) : upto isLf s w = upto isLf s p := by
  refine (upto_is (Int.le_trans hpw (upto_ge _ _ _)) (upto_le hw) (fun h => upto_hits h) (fun i hi hi' => ?_)).symm
  rcases Int.lt_or_le i w with h | h
  · exact isLf_not.mpr (hn i hi h)
  · exact upto_before h hi'
theorem FnLines : laws_FnLines.Pure := by
  intro b hb1 hb2 _
  by_cases hl : (b.length : Int) > 1048576
  · exact ⟨0, by simp only [laws_FnLines.f, if_pos hl]⟩
  · obtain ⟨K, hK⟩ : ∃ K : Nat, K = b.length + 1000000 := ⟨_, rfl⟩
    refine ⟨K, ?_⟩
    obtain ⟨s, es, hs⟩ := spec_MakeAnyText_ok b (by omega) K (by omega)
    obtain ⟨p, ep, h0, h1⟩ := spec_MakeNum_ok b (by omega) ((s.size : Int) + 1) (by omega) K (by omega)
    have hz : s.size ≤ 140737488351232 := by omega
    have hsp : spotM s p = p := spotM_in h0 (by omega)
    unfold laws_FnLines.f
    rw [if_neg hl, es, Option.bind_some, w64 (n := (s.size : Int) + 1) (by omega) (by omega), ep, Option.bind_some, impl_LineAt_ok s p hz K (by omega), Option.bind_some, impl_EndAt_ok s p hz, Option.bind_some, impl_Gap_ok s p hz K (by omega), Option.bind_some, impl_White_ok s p hz K (by omega), Option.bind_some]
    -- the places
    have a0 := lineM_lo s p
    have a1 : lineM s p ≤ p := by have := lineM_hi s p; rw [hsp] at this; exact this
    have e0 : p ≤ endM s p := by have := endM_ge s p; rw [hsp] at this; exact this
    have e1 := endM_le s p
    have w0 : p ≤ whiteM s p := by have := whiteM_ge s p; rw [hsp] at this; exact this
    have w1 := whiteM_le s p
    have hW : whiteM s p = upto noWh s p := by unfold whiteM; rw [hsp]
    have hE : endM s p = upto isLf s p := by unfold endM; rw [hsp]
    have hG : gapM s p = gp s p := by unfold gapM; rw [hsp]
    have q0 : whiteM s p ≤ gapM s p := by
      rw [hG, gp_white s ((s.size : Int) - p).toNat p h0 (by omega), ← hW]
      exact gp_ge s ((s.size : Int) - whiteM s p).toNat (whiteM s p) (by omega) (by omega)
    have q1 : gapM s p ≤ (s.size : Int) := by rw [hG]; exact gp_le s ((s.size : Int) - p).toNat p h0 (by omega) (by omega)
    have qq : gapM s (gapM s p) = gapM s p := by
      have hx : gapM s (gapM s p) = gp s (gapM s p) := by
        show gp s (spotM s (gapM s p)) = _
        rw [spotM_in (by omega) q1]
      rw [hx, hG]
      exact gp_idem s p h0 (by omega)
    have no10 : ∀ i, lineM s p ≤ i → i < p → ¬ bt s i = 10 := by
      intro i hi hi'
      unfold lineM at hi
      rw [hsp] at hi
      exact lastN_no 10 s p.toNat p (by omega) i hi hi'
    have hEa : upto isLf s p = upto isLf s (lineM s p) := end_from a0 a1 (by omega) no10
    have ind : indentM s p ≤ endM s p - lineM s p := by
      unfold indentM
      rcases Int.lt_or_le (endM s p) (upto noBl s (lineM s p)) with h | h
      · exfalso
        have hbl := upto_before (P := noBl) (by omega) h
        rw [noBl_not] at hbl
        have hle := upto_le (P := noBl) (s := s) (p := lineM s p) (by omega)
        have hlt : endM s p < (s.size : Int) := by omega
        have := upto_hits (P := isLf) (s := s) (p := p) (by rw [← hE]; exact hlt)
        rw [← hE, isLf_iff] at this
        omega
      · omega
    rw [if_neg (by omega), if_neg (by omega), impl_Col_ok s p hz K (by omega), Option.bind_some, hsp, w64 (n := p - lineM s p) (by omega) (by omega), if_pos rfl, if_neg (by omega), if_neg (by omega), impl_Gap_ok s (gapM s p) hz K (by omega), Option.bind_some, if_pos qq, impl_IndentAt_ok s p hz K (by omega), Option.bind_some, w64 (n := endM s p - lineM s p) (by omega) (by omega), show decide (indentM s p > endM s p - lineM s p) = false by simpa using ind]
    obtain ⟨k, hk⟩ : ∃ k, K = k + 1 := ⟨K - 1, by omega⟩
    rw [hk, laws_FnLines.j0, if_neg (by decide), impl_Rest_ok s p hz k (by omega), Option.bind_some, impl_Lone_ok s p hz k (by omega), impl_White_ok s (lineM s p) hz k (by omega)]
    have r0 := (restM_lo s p).1
    rw [hsp] at r0
    rw [if_pos r0]
    have hr : (restM s p).2 = true → (restM s p).1 = endM s p := by
      intro h
      unfold restM at h ⊢
      split at h
      · rename_i hc
        rw [if_pos hc]
        show endM s (whiteM s (spotM s p)) = endM s p
        rw [hsp, hE]
        unfold endM
        rw [spotM_in (by omega) w1]
        refine end_from h0 w0 w1 (fun i hi hi' => ?_)
        rw [hW] at hi'
        have := upto_before (P := noWh) hi hi'
        rw [noWh_not] at this
        omega
      · cases h
    have hlast : (if p < (s.size : Int) then (some true) else (some (gapM s p == (s.size : Int)))) = some true := by
      by_cases hp : p < (s.size : Int)
      · rw [if_pos hp]
      · rw [if_neg hp]
        have : gapM s p = (s.size : Int) := by rw [hG, gp_end (by omega)]; omega
        rw [this, beq_self_eq_true]
    have hlone : loneM s p = true → whiteM s (lineM s p) = endM s p := by
      intro h
      have g0 := whiteM_ge s (lineM s p)
      have g1 := whiteM_le s (lineM s p)
      have hWa : whiteM s (lineM s p) = upto noWh s (lineM s p) := by unfold whiteM; rw [spotM_in a0 (by omega)]
      rw [spotM_in a0 (by omega)] at g0
      unfold loneM at h
      rw [brB_iff] at h
      have hend : upto isLf s (lineM s p) = whiteM s (lineM s p) := by
        refine upto_is g0 g1 (fun hlt => ?_) (fun i hi hi' => ?_)
        · rw [byteM_in (by omega) hlt] at h
          have := bt_lo s (whiteM s (lineM s p))
          rw [isLf_iff]
          omega
        · rw [hWa] at hi'
          have := upto_before (P := noWh) hi hi'
          rw [noWh_not] at this
          rw [isLf_not]
          omega
      rw [hE, hEa, hend]
    have htail : ((if loneM s p = true then ((some (whiteM s (lineM s p))).bind fun t459 => (if t459 = endM s p then (if p < (s.size : Int) then (some true) else (some (gapM s p == (s.size : Int)))) else (some false))) else (if p < (s.size : Int) then (some true) else (some (gapM s p == (s.size : Int))))) : Option Bool) = some true := by
      by_cases h : loneM s p = true
      · rw [if_pos h, Option.bind_some, if_pos (hlone h), hlast]
      · rw [if_neg h, hlast]
    by_cases h2 : (restM s p).2 = true
    · rw [if_pos h2, if_pos (hr h2), Option.bind_some]
      exact htail
    · rw [if_neg h2, Option.bind_some]
      exact htail

end Go.Proofs.Ytmkfodlmddbdeaa.Pure
