/- The statement FnExactSourceOk, for every input. -/
import Derived.Test.YtbjkaapkmemojaaPFnExactSourceOkx0
import Derived.Test.YtbjkaapkmemojaaPFnExactSourceOkx1
import Derived.Test.YtbjkaapkmemojaaPFnExactSourceOkx2
import Derived.Test.YtbjkaapkmemojaaPFnExactSourceOkx3
import Derived.Test.YtbjkaapkmemojaaPFnExactSourceOkx4
import Derived.Test.YtbjkaapkmemojaaPFnExactSourceOkx5
import Derived.Test.YtbjkaapkmemojaaLst
import Derived.Test.YtbjkaapkmemojaaMine
import Derived.Test.YtbjkaapkmemojaaTxt
namespace Go.Proofs.Ytbjkaapkmemojaa.Pure
open Go.RowKit Go.Proofs.Ytbjkaapkmemojaa.PFnExactSourceOk Go.Proofs.YtbjkaapkmemojaaW.PrintWords Go.Proofs.YtbjkaapkmemojaaW.PrintLast Go.Proofs.YtbjkaapkmemojaaW.PrintMore Go.Proofs.Ytbjkaapkmemojaa.Mine

theorem laws_eqByteS_l0 (l : List Int) (hl : l.length ≤ 1048576) (d : Nat) : ∀ (k : Nat) (i : Int), 0 ≤ i → (l.length : Int) - i = d → d < k → laws_eqByteS.l0 k l l i = some true := by
  induction d with
  | zero =>
    intro k i h0 hd hk
    obtain ⟨k, rfl⟩ : ∃ m, k = m + 1 := ⟨k - 1, by omega⟩
    rw [laws_eqByteS.l0, if_neg (by omega)]
  | succ d ih =>
    intro k i h0 hd hk
    obtain ⟨k, rfl⟩ : ∃ m, k = m + 1 := ⟨k - 1, by omega⟩
    rw [laws_eqByteS.l0, if_pos (by omega), if_pos h0, if_pos (by omega), if_pos rfl, w64 (by omega) (by omega)]
    exact ih k (i + 1) (by omega) (by omega) (by omega)
theorem laws_eqByteS_ok (l : List Int) (hl : l.length ≤ 1048576) (k : Nat) (hk : l.length < k) : laws_eqByteS.f k l l = some true := by
  unfold laws_eqByteS.f
  rw [if_pos rfl]
  exact laws_eqByteS_l0 l hl l.length k 0 (by omega) (by omega) hk

theorem laws_eqPageS_l0 (l : List S58) (hl : l.length ≤ 1048576) (m : Nat) (hm : m ≤ 1048576) (hb : ∀ a ∈ l, a.f1.length ≤ m) (d : Nat) : ∀ (k : Nat) (i : Int), 0 ≤ i → (l.length : Int) - i = d → d + m + 1 < k → laws_eqPageS.l0 k l l i = some true := by
  induction d with
  | zero =>
    intro k i h0 hd hk
    obtain ⟨k, rfl⟩ : ∃ m, k = m + 1 := ⟨k - 1, by omega⟩
    rw [laws_eqPageS.l0, if_neg (by omega)]
  | succ d ih =>
    intro k i h0 hd hk
    obtain ⟨k, rfl⟩ : ∃ m, k = m + 1 := ⟨k - 1, by omega⟩
    have hi : i < (l.length : Int) := by omega
    have b1 : (rd_T58 l i).f1.length ≤ m := hb _ (List.mem_of_getElem? (getD_some z58 l i h0 hi))
    rw [laws_eqPageS.l0, if_pos (by omega), if_pos h0, if_pos (by omega)]
    unfold laws_eqPage.f
    rw [if_pos rfl, laws_eqByteS_ok _ (by omega) k (by omega), Option.bind_some, if_pos rfl, Option.bind_some, if_pos rfl, w64 (by omega) (by omega)]
    exact ih k (i + 1) (by omega) (by omega) (by omega)
theorem laws_eqPageS_ok (l : List S58) (hl : l.length ≤ 1048576) (m : Nat) (hm : m ≤ 1048576) (hb : ∀ a ∈ l, a.f1.length ≤ m) (k : Nat) (hk : l.length + m + 1 < k) : laws_eqPageS.f k l l = some true := by
  unfold laws_eqPageS.f
  rw [if_pos rfl]
  exact laws_eqPageS_l0 l hl m hm hb l.length k 0 (by omega) (by omega) hk

theorem pgAt_nn (num : Int) (l : List S58) : ∀ i : Int, 0 ≤ i → pgAt num l i = -1 ∨ 0 ≤ pgAt num l i := by
  induction l with
  | nil => intro i _; exact .inl rfl
  | cons x r ih =>
    intro i h
    rw [pgAt]
    split
    · exact .inr h
    · exact ih (i + 1) (by omega)
theorem impl_pageAt_ok (l : List S58) (h : l.length ≤ 1000000000000) (num : Int) (k : Nat) : impl_pageAt.f k l num = some (pgAt num l 0) := by
  unfold impl_pageAt.f
  rw [if_pos h]
def pgGood (size : Int) (l : List S58) (i : Nat) : Prop := 0 ≤ (rd_T58 l (i : Int)).f0 ∧ ((rd_T58 l (i : Int)).f1.length : Int) ≤ size ∧ pgAt (rd_T58 l (i : Int)).f0 (l.take i) 0 < 0
instance (size : Int) (l : List S58) (i : Nat) : Decidable (pgGood size l i) := by unfold pgGood; infer_instance
def pgAll (size : Int) (l : List S58) : Nat → Nat → Bool
  | 0, _ => true
  | d + 1, i => decide (pgGood size l i) && pgAll size l d (i + 1)
def srcM (size : Int) (l : List S58) (fe : Int) : Bool := pgAll size l l.length 0 && decide (1 ≤ size ∧ size ≤ 60000 ∧ l.length ≤ 6 ∧ 0 ≤ fe ∧ fe ≤ 4294967295)

theorem impl_within_ok (a b c : Int) : impl_within.f a b c = some (decide (b ≤ a ∧ a ≤ c)) := by
  unfold impl_within.f
  by_cases h : a ≥ b
  · rw [if_pos h]; simp only [Option.some.injEq, decide_eq_decide]; omega
  · rw [if_neg h]; simp only [Option.some.injEq]; symm; simp only [decide_eq_false_iff_not]; omega

theorem impl_SourceOk_l0 (size : Int) (l : List S58) (hl : l.length ≤ 1048576) (fe : Int) (d : Nat) : ∀ (k i : Nat), i + d = l.length → d + 1 ≤ k →
    impl_SourceOk.l0 k l (l.length : Int) (i : Int) size l fe = some (pgAll size l d i && decide (1 ≤ size ∧ size ≤ 60000 ∧ l.length ≤ 6 ∧ 0 ≤ fe ∧ fe ≤ 4294967295)) := by
  induction d with
  | zero =>
    intro k i hi hk
    obtain ⟨k, rfl⟩ : ∃ m, k = m + 1 := ⟨k - 1, by omega⟩
    rw [impl_SourceOk.l0, if_neg (by omega), pgAll, impl_within_ok, impl_within_ok, Option.bind_some, Option.bind_some, Bool.true_and]
    by_cases h1 : 1 ≤ size ∧ size ≤ 60000
    · rw [if_pos (decide_eq_true h1)]
      by_cases h2 : (l.length : Int) ≤ 6
      · rw [if_pos h2]; congr 1; rw [decide_eq_decide]; omega
      · rw [if_neg h2]; congr 1; symm; rw [decide_eq_false_iff_not]; omega
    · rw [if_neg (by simpa using h1)]; congr 1; symm; rw [decide_eq_false_iff_not]; omega
  | succ d ih =>
    intro k i hi hk
    obtain ⟨k, rfl⟩ : ∃ m, k = m + 1 := ⟨k - 1, by omega⟩
    have hg : pgGood size l i ↔ (0 ≤ (rd_T58 l (i : Int)).f0 ∧ ((rd_T58 l (i : Int)).f1.length : Int) ≤ size ∧ pgAt (rd_T58 l (i : Int)).f0 (l.take i) 0 < 0) := Iff.rfl
    rw [impl_SourceOk.l0, if_pos (by omega), if_pos (by omega), if_pos (by omega), w64 (by omega) (by omega), pgAll, show (i : Int) + 1 = ((i + 1 : Nat) : Int) by omega, ih k (i + 1) (by omega) (by omega), show ((i : Int)).toNat = i from rfl]
    generalize rd_T58 l (i : Int) = x at hg ⊢
    by_cases h1 : x.f0 < 0
    · rw [if_pos h1, decide_eq_false (p := pgGood size l i) (by rw [hg]; omega)]; rfl
    · rw [if_neg h1, if_pos (by omega), impl_pageAt_ok _ (by rw [List.length_take]; omega), Option.bind_some]
      by_cases h2 : pgAt x.f0 (l.take i) 0 ≥ 0
      · rw [if_pos h2, decide_eq_false (p := pgGood size l i) (by rw [hg]; omega)]; rfl
      · rw [if_neg h2]
        by_cases h3 : (x.f1.length : Int) > size
        · rw [if_pos h3, decide_eq_false (p := pgGood size l i) (by rw [hg]; omega)]; rfl
        · rw [if_neg h3, decide_eq_true (p := pgGood size l i) (by rw [hg]; omega), Bool.true_and]
theorem impl_SourceOk_ok (size : Int) (l : List S58) (hl : l.length ≤ 1048576) (fe : Int) (k : Nat) (hk : l.length + 1 ≤ k) : impl_SourceOk.f k size l fe = some (srcM size l fe) := by
  unfold impl_SourceOk.f
  exact impl_SourceOk_l0 size l hl fe l.length k 0 (by omega) hk

def totG : List S70 → Nat
  | [] => 0
  | x :: r => x.f1.length + totG r
theorem laws_szPageS_l0 (l : List S70) (hl : l.length ≤ 9223372036854775807) (hb : ∀ a ∈ l, a.f1.length ≤ 9223372036854775807) (d : Nat) : ∀ (k : Nat) (x i : Int), 0 ≤ i → (l.length : Int) - i = d → 0 ≤ x → x ≤ 1048576 → d < k →
    ∃ r, laws_szPageS.l0 k l x i = some r ∧ (r < 0 ∨ (totG (l.drop i.toNat) : Int) ≤ x) := by
  induction d with
  | zero =>
    intro k x i h0 hd hx hx1 hk
    obtain ⟨k, rfl⟩ : ∃ m, k = m + 1 := ⟨k - 1, by omega⟩
    refine ⟨x, by rw [laws_szPageS.l0, if_neg (by omega)], .inr ?_⟩
    rw [drop_end _ _ (by omega)]
    exact hx
  | succ d ih =>
    intro k x i h0 hd hx hx1 hk
    obtain ⟨k, rfl⟩ : ∃ m, k = m + 1 := ⟨k - 1, by omega⟩
    have hi : i < (l.length : Int) := by omega
    have b1 : (rd_T70 l i).f1.length ≤ 9223372036854775807 := hb _ (List.mem_of_getElem? (getD_some z70 l i h0 hi))
    rw [laws_szPageS.l0, if_pos hi, if_pos h0, w64 (n := i + 1) (by omega) (by omega)]
    unfold laws_szPage.f laws_szByteS.f
    rw [w64 (n := x - ((rd_T70 l i).f1.length : Int)) (by omega) (by omega)]
    by_cases hn : x - ((rd_T70 l i).f1.length : Int) < 0
    · rw [if_pos hn, Option.bind_some, if_pos (by omega), Option.bind_some, if_pos (by omega)]
      exact ⟨-1, rfl, .inl (by omega)⟩
    · rw [if_neg hn, Option.bind_some, if_neg hn, Option.bind_some, if_neg hn]
      obtain ⟨r, hr, hs⟩ := ih k (x - (rd_T70 l i).f1.length) (i + 1) (by omega) (by omega) (by omega) (by omega) (by omega)
      refine ⟨r, hr, hs.imp id fun h => ?_⟩
      rw [drop_at z70 l i h0 hi]
      show (((rd_T70 l i).f1.length + totG (l.drop (i + 1).toNat) : Nat) : Int) ≤ x
      omega
theorem laws_szPageS_ok (l : List S70) (hl : l.length ≤ 9223372036854775807) (hb : ∀ a ∈ l, a.f1.length ≤ 9223372036854775807) (k : Nat) (hk : l.length < k) :
    ∃ r, laws_szPageS.f k l 1048576 = some r ∧ (r < 0 ∨ l.length + totG l ≤ 1048576) := by
  unfold laws_szPageS.f
  rw [w64 (by omega) (by omega)]
  by_cases hn : (1048576 : Int) - (l.length : Int) < 0
  · rw [if_pos hn]
    exact ⟨-1, rfl, .inl (by omega)⟩
  · rw [if_neg hn]
    obtain ⟨r, hr, hs⟩ := laws_szPageS_l0 l hl hb l.length k (1048576 - (l.length : Int)) 0 (by omega) (by omega) (by omega) (by omega) hk
    refine ⟨r, hr, hs.imp id fun h => ?_⟩
    rw [show (0 : Int).toNat = 0 from rfl, List.drop_zero] at h
    omega
theorem mem_totG (l : List S70) : ∀ a ∈ l, a.f1.length ≤ totG l := by
  induction l with
  | nil => intro a h; cases h
  | cons x r ih =>
    intro a h
    show _ ≤ x.f1.length + totG r
    rcases List.mem_cons.mp h with rfl | h
    · omega
    · have := ih a h
      omega

theorem spec_SourceOk_l1 (size : Int) (l y : List S58) (hy : y.length ≤ 1048576) (fe num : Int) (dat : List Int) (i K : Nat) (hi : i ≤ 1048576) (R : Bool) (hn : ∀ k, K ≤ k → spec_SourceOk.l0 k l (l.length : Int) ((i + 1 : Nat) : Int) size l fe = some R) (d : Nat) : ∀ (k j : Nat), j + d = y.length → d + 1 + K ≤ k →
    spec_SourceOk.l1 k l (l.length : Int) (i : Int) y (y.length : Int) (j : Int) size l fe num dat = some (if 0 ≤ pgAt num (y.drop j) (j : Int) then false else R) := by
  induction d with
  | zero =>
    intro k j hj hk
    obtain ⟨k, rfl⟩ : ∃ m, k = m + 1 := ⟨k - 1, by omega⟩
    rw [spec_SourceOk.l1, if_neg (by omega), w64 (by omega) (by omega), show (i : Int) + 1 = ((i + 1 : Nat) : Int) by omega, hn k (by omega), List.drop_of_length_le (by omega), pgAt, if_neg (by omega)]
  | succ d ih =>
    intro k j hj hk
    obtain ⟨k, rfl⟩ : ∃ m, k = m + 1 := ⟨k - 1, by omega⟩
    rw [spec_SourceOk.l1, if_pos (by omega), if_pos (by omega), if_pos (by omega), w64 (by omega) (by omega), show (j : Int) + 1 = ((j + 1 : Nat) : Int) by omega, ih k (j + 1) (by omega) (by omega), pgAt_at num y j (by omega)]
    by_cases h : (rd_T58 y (j : Int)).f0 = num
    · rw [if_pos h, if_pos h, if_pos (by omega)]
    · rw [if_neg h, if_neg h]
theorem spec_SourceOk_l0 (size : Int) (l : List S58) (hl : l.length ≤ 1048576) (fe : Int) (d : Nat) : ∀ (k i : Nat), i + d = l.length → d * (l.length + 5) + 1 ≤ k →
    spec_SourceOk.l0 k l (l.length : Int) (i : Int) size l fe = some (pgAll size l d i) := by
  induction d with
  | zero =>
    intro k i hi hk
    obtain ⟨k, rfl⟩ : ∃ m, k = m + 1 := ⟨k - 1, by omega⟩
    rw [spec_SourceOk.l0, if_neg (by omega), pgAll]
  | succ d ih =>
    intro k i hi hk
    rw [Nat.succ_mul] at hk
    obtain ⟨k, rfl⟩ : ∃ m, k = m + 2 := ⟨k - 2, by omega⟩
    have hg : pgGood size l i ↔ (0 ≤ (rd_T58 l (i : Int)).f0 ∧ ((rd_T58 l (i : Int)).f1.length : Int) ≤ size ∧ pgAt (rd_T58 l (i : Int)).f0 (l.take i) 0 < 0) := Iff.rfl
    rw [spec_SourceOk.l0, if_pos (by omega), if_pos (by omega), if_pos (by omega), pgAll]
    generalize rd_T58 l (i : Int) = x at hg ⊢
    have ht : (l.take i).length = i := by rw [List.length_take]; omega
    have hj : spec_SourceOk.j2 (k + 1) (i : Int) l (l.length : Int) (i : Int) true size l fe x.f0 x.f1 = some false := by rw [spec_SourceOk.j2, if_pos rfl]
    by_cases h1 : x.f0 < 0
    · rw [if_pos h1, hj, decide_eq_false (p := pgGood size l i) (by rw [hg]; omega)]; rfl
    · rw [if_neg h1]
      by_cases h3 : (x.f1.length : Int) > size
      · rw [decide_eq_true h3, hj, decide_eq_false (p := pgGood size l i) (by rw [hg]; omega)]; rfl
      · rw [decide_eq_false h3, spec_SourceOk.j2, if_neg (by decide), if_pos (by omega), if_pos (by omega), Option.bind_some, show ((i : Int)).toNat = i from rfl]
        have := spec_SourceOk_l1 size l (l.take i) (by omega) fe x.f0 x.f1 i (d * (l.length + 5) + 1) (by omega) _ (fun k hk => ih k (i + 1) (by omega) hk) i k 0 (by omega) (by omega)
        rw [show ((0 : Nat) : Int) = 0 from rfl, List.drop_zero] at this
        rw [this]
        by_cases h2 : 0 ≤ pgAt x.f0 (l.take i) 0
        · rw [if_pos h2, decide_eq_false (p := pgGood size l i) (by rw [hg]; omega)]; rfl
        · rw [if_neg h2, decide_eq_true (p := pgGood size l i) (by rw [hg]; omega), Bool.true_and]
theorem spec_SourceOk_ok (size : Int) (l : List S58) (hl : l.length ≤ 1048576) (fe : Int) (k : Nat) (hk : l.length * (l.length + 5) + 2 ≤ k) : spec_SourceOk.f k size l fe = some (pgAll size l l.length 0 && decide (1 ≤ size ∧ size ≤ 60000 ∧ l.length ≤ 6 ∧ 0 ≤ fe ∧ fe ≤ 4294967295)) := by
  obtain ⟨k, rfl⟩ : ∃ m, k = m + 1 := ⟨k - 1, by omega⟩
  have t : spec_SourceOk.j0 (k + 1) true size l fe = some false := by rw [spec_SourceOk.j0, if_pos rfl]
  unfold spec_SourceOk.f
  rw [t]
  by_cases h1 : size < 1
  · rw [if_pos h1, decide_eq_false (by omega), Bool.and_false]
  · rw [if_neg h1]
    by_cases h2 : size > 60000
    · rw [if_pos h2, decide_eq_false (by omega), Bool.and_false]
    · rw [if_neg h2]
      by_cases h3 : (l.length : Int) > 6
      · rw [if_pos h3, decide_eq_false (by omega), Bool.and_false]
      · rw [if_neg h3]
        by_cases h4 : fe < 0
        · rw [if_pos h4, decide_eq_false (by omega), Bool.and_false]
        · rw [if_neg h4]
          by_cases h5 : fe > 4294967295
          · rw [decide_eq_true h5, t, decide_eq_false (by omega), Bool.and_false]
          · rw [decide_eq_false h5, spec_SourceOk.j0, if_neg (by decide), decide_eq_true (by omega), Bool.and_true]
            exact spec_SourceOk_l0 size l hl fe l.length k 0 (by omega) (by omega)

theorem laws_toByteS_l0 (l : List Int) (hl : l.length ≤ 1048576) (d : Nat) : ∀ (k : Nat) (i : Int), 0 ≤ i → (l.length : Int) - i = d → d < k →
    laws_toByteS.l0 k l (l.take i.toNat ++ List.replicate (l.length - i.toNat) 0) i = some l := by
  induction d with
  | zero =>
    intro k i h0 hd hk
    obtain ⟨k, rfl⟩ : ∃ m, k = m + 1 := ⟨k - 1, by omega⟩
    rw [laws_toByteS.l0, if_neg (by omega), copy_end 0 l i (by omega)]
  | succ d ih =>
    intro k i h0 hd hk
    obtain ⟨k, rfl⟩ : ∃ m, k = m + 1 := ⟨k - 1, by omega⟩
    have hi : i < (l.length : Int) := by omega
    rw [laws_toByteS.l0, if_pos hi, if_pos h0, copy_len 0 l i h0 (by omega), if_pos hi, copy_set 0 (rd l i) l i h0 hi (getD_some 0 l i h0 hi), w64 (by omega) (by omega)]
    exact ih k (i + 1) (by omega) (by omega) (by omega)
theorem laws_toByteS_ok (l : List Int) (hl : l.length ≤ 1048576) (k : Nat) (hk : l.length < k) : laws_toByteS.f k l = some l := by
  unfold laws_toByteS.f
  rw [if_pos (by omega), if_pos (by omega)]
  have := laws_toByteS_l0 l hl l.length k 0 (by omega) (by omega) hk
  exact this

def cvG (x : S70) : S58 := ⟨x.f0, x.f1⟩
theorem laws_toPageS_l0 (l : List S70) (hl : l.length ≤ 1048576) (m : Nat) (hm : m ≤ 1048576) (hb : ∀ a ∈ l, a.f1.length ≤ m) (z : S58) (d : Nat) : ∀ (k : Nat) (i : Int), 0 ≤ i → (l.length : Int) - i = d → d + m + 1 < k →
    laws_toPageS.l0 k l ((l.map cvG).take i.toNat ++ List.replicate ((l.map cvG).length - i.toNat) z) i = some (l.map cvG) := by
  have hlm : (l.map cvG).length = l.length := List.length_map _
  induction d with
  | zero =>
    intro k i h0 hd hk
    obtain ⟨k, rfl⟩ : ∃ m, k = m + 1 := ⟨k - 1, by omega⟩
    rw [laws_toPageS.l0, if_neg (by omega), copy_end z _ i (by omega)]
  | succ d ih =>
    intro k i h0 hd hk
    obtain ⟨k, rfl⟩ : ∃ m, k = m + 1 := ⟨k - 1, by omega⟩
    have hi : i < (l.length : Int) := by omega
    have hv : (l.map cvG)[i.toNat]? = some (⟨(rd_T70 l i).f0, (rd_T70 l i).f1⟩ : S58) := by
      rw [List.getElem?_map, getD_some z70 l i h0 hi]
      rfl
    have b1 : (rd_T70 l i).f1.length ≤ m := hb _ (List.mem_of_getElem? (getD_some z70 l i h0 hi))
    rw [laws_toPageS.l0, if_pos hi, if_pos h0]
    unfold laws_toPage.f
    simp only [laws_toByteS_ok (rd_T70 l i).f1 (by omega) k (by omega), Option.bind_some]
    rw [copy_len z _ i h0 (by omega), hlm, if_pos hi, ← hlm, copy_set z _ _ i h0 (by omega) hv, w64 (by omega) (by omega)]
    exact ih k (i + 1) (by omega) (by omega) (by omega)
theorem laws_toPageS_ok (l : List S70) (hl : l.length ≤ 1048576) (m : Nat) (hm : m ≤ 1048576) (hb : ∀ a ∈ l, a.f1.length ≤ m) (k : Nat) (hk : l.length + m + 1 < k) : laws_toPageS.f k l = some (l.map cvG) := by
  unfold laws_toPageS.f
  rw [if_pos (by omega), if_pos (by omega)]
  have := laws_toPageS_l0 l hl m hm hb z58 l.length k 0 (by omega) (by omega) hk
  rw [List.length_map] at this
  exact this

theorem FnExactSourceOk : ∀ (a0_0 : Int) (l0_1 : List (S70)) (a0_2 : Int), (Lit.int .i64 a0_0).wf = true → (l0_1.length ≤ 9223372036854775807 ∧ ∀ a ∈ l0_1, ((Lit.int .i64 a.f0).wf = true) ∧ a.f1.length ≤ 9223372036854775807 ∧ ∀ b ∈ a.f1, (Lit.int .u8 b).wf = true) → (Lit.int .i64 a0_2).wf = true → ∃ k, laws_FnExactSourceOk.f k a0_0 l0_1 a0_2 = some true := by
  intro size l fe _ hl0 _
  obtain ⟨hl, hb⟩ := hl0
  obtain ⟨k, hk⟩ : ∃ k : Nat, l.length * (l.length + 5) + l.length + 1048576 + 100 ≤ k := ⟨_, Nat.le_refl _⟩
  obtain ⟨r, hr, hs⟩ := laws_szPageS_ok l hl (fun a h => (hb a h).2.1) k (by omega)
  refine ⟨k, ?_⟩
  by_cases hn : r < 0
  · simp only [laws_FnExactSourceOk.f, laws_szSource.f, hr, Option.bind_some, if_pos hn]
    rfl
  · have hs' := hs.resolve_left hn
    have hm : (l.map cvG).length = l.length := List.length_map _
    have hb1 : ∀ a ∈ l, a.f1.length ≤ 1048576 := fun a h => by have := mem_totG l a h; omega
    have hb2 : ∀ a ∈ l.map cvG, a.f1.length ≤ 1048576 := fun a h => by
      obtain ⟨x, hx, rfl⟩ := List.mem_map.mp h
      exact hb1 x hx
    have e1 := laws_toPageS_ok l (by omega) 1048576 (by omega) hb1 k (by omega)
    have e2 := laws_eqPageS_ok (l.map cvG) (by omega) 1048576 (by omega) hb2 k (by omega)
    have e3 := spec_SourceOk_ok size (l.map cvG) (by omega) fe k (by rw [hm]; omega)
    have e4 := impl_SourceOk_ok size (l.map cvG) (by omega) fe k (by omega)
    simp only [laws_FnExactSourceOk.f, laws_szSource.f, hr, Option.bind_some, if_neg hn, laws_toSource.f, e1, e3, e4, srcM, bne_self_eq_false, Bool.false_eq_true, if_false, laws_eqSource.f, e2, if_true]

end Go.Proofs.Ytbjkaapkmemojaa.Pure
