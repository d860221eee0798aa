-- Written by a program of this session, out of the translation.
import Derived.Test.YtbjkaapkmemojaaPFnExactSourceRunx0
import Derived.Test.YtbjkaapkmemojaaPFnExactSourceRunx1
import Derived.Test.YtbjkaapkmemojaaPFnExactSourceRunx2
import Derived.Test.YtbjkaapkmemojaaPFnExactSourceRunx5
import Derived.Test.YtbjkaapkmemojaaPFnExactSourceRunx6
import Derived.Test.YtbjkaapkmemojaaPFnExactSourceRunx7
import Derived.Test.YtbjkaapkmemojaaPFnExactSourceRunx8
import Derived.Test.YtbjkaapkmemojaaPFnExactSourceRunx9
import Derived.Test.YtbjkaapkmemojaaPFnExactSourceRunx10
import Derived.Test.YtbjkaapkmemojaaPFnExactSourceRunx11
import Derived.Test.YtbjkaapkmemojaaPFnExactSourceRunx12
import Derived.Test.YtbjkaapkmemojaaPFnExactSourceRunx13
import Derived.Test.YtbjkaapkmemojaaPFnExactSourceRunx14
namespace Go.Proofs.Ytbjkaapkmemojaa.PFnExactSourceRun
open Go.RowKit Go.Proofs.YtbjkaapkmemojaaW.PrintWords Go.Proofs.YtbjkaapkmemojaaW.PrintLast Go.Proofs.YtbjkaapkmemojaaW.PrintMore
attribute [local go_sem] max2_int min2_int max_two min_two max_three min_three max_four min_four   -- for this text's walks alone
set_option linter.unusedVariables false
set_option linter.unusedSimpArgs false

/-! ### laws_FnExactSourceRun: function 7 -/
/-! ### a right source stays one -/
def SrcW (a : Int) (l : List S58) : Prop := (∀ x ∈ l, 0 ≤ x.f0 ∧ (x.f1.length : Int) ≤ a) ∧ l.Pairwise (fun x y => x.f0 ≠ y.f0)
theorem pgAll_of (a : Int) (l : List S58) : ∀ (d i : Nat), (∀ j, i ≤ j → j < i + d → pgGood a l j) → pgAll a l d i = true
  | 0, _, _ => rfl
  | d + 1, i, h => by
    rw [pgAll, Bool.and_eq_true, decide_eq_true_eq]
    exact ⟨h i (Nat.le_refl _) (by omega), pgAll_of a l d (i + 1) (fun j h1 h2 => h j (by omega) (by omega))⟩
theorem srcW_iff (a : Int) (l : List S58) : pgAll a l l.length 0 = true ↔ SrcW a l := by
  constructor
  · intro h
    refine ⟨fun x hx => ?_, ?_⟩
    · obtain ⟨j, hj, rfl⟩ := List.mem_iff_getElem.1 hx
      have hg := pgAll_at a l l.length 0 h j (by omega) (by omega)
      unfold pgGood at hg
      rw [rd_at_P hj] at hg
      exact ⟨hg.1, hg.2.1⟩
    · rw [List.pairwise_iff_getElem]
      exact fun i j _ hj hij => pg_apart a l h i j hij hj
  · rintro ⟨h1, h2⟩
    rw [List.pairwise_iff_getElem] at h2
    refine pgAll_of a l l.length 0 (fun j _ hj => ?_)
    have hj' : j < l.length := by omega
    unfold pgGood
    rw [rd_at_P hj']
    refine ⟨(h1 _ (List.getElem_mem hj')).1, (h1 _ (List.getElem_mem hj')).2, ?_⟩
    rcases pgAt_nn l[j].f0 (l.take j) 0 (Int.le_refl _) with h | h
    · omega
    · obtain ⟨k, hk⟩ : ∃ k : Nat, pgAt l[j].f0 (l.take j) 0 = k := ⟨(pgAt l[j].f0 (l.take j) 0).toNat, by omega⟩
      obtain ⟨_, hkl, hk2, _⟩ := pgAt_yes l[j].f0 (l.take j) k 0 (by rw [List.drop_zero]; exact hk)
      rw [List.length_take] at hkl
      rw [List.getElem_take] at hk2
      exact absurd hk2 (h2 k j (by omega) hj' (by omega))
theorem srcM_iff (a : Int) (l : List S58) (f : Int) : srcM a l f = true ↔ SrcW a l ∧ 1 ≤ a ∧ a ≤ 60000 ∧ l.length ≤ 6 ∧ 0 ≤ f ∧ f ≤ 4294967295 := by
  unfold srcM
  rw [Bool.and_eq_true, decide_eq_true_eq, srcW_iff]
theorem bzL_srcW (a : Int) (l : List S58) (b : List Int) (at_ : Int) (h : SrcW a l) (ha : 1 ≤ a) (ht : 0 ≤ at_) : SrcW a (bzL a l b at_) := by
  unfold bzL
  have hr := pgAt_range (at_ / a) l 0 (Int.le_refl 0)
  split
  · rename_i hk
    obtain ⟨k, hk2⟩ : ∃ k : Nat, pgAt (at_ / a) l 0 = k := ⟨(pgAt (at_ / a) l 0).toNat, by omega⟩
    have hkl : k < l.length := by omega
    rw [hk2, Int.toNat_natCast, rd_at_P hkl]
    refine ⟨fun x hx => ?_, ?_⟩
    · rcases List.mem_append.1 hx with h1 | h1
      · exact h.1 x (List.mem_of_mem_eraseIdx h1)
      · rw [List.mem_singleton.1 h1]; exact h.1 _ (List.getElem_mem hkl)
    · rw [List.pairwise_append]
      refine ⟨h.2.sublist (List.eraseIdx_sublist _ _), List.pairwise_singleton _ _, fun x hx y hy => ?_⟩
      rw [List.mem_singleton.1 hy]
      obtain ⟨j, hj, hne, rfl⟩ := List.mem_eraseIdx_iff_getElem.1 hx
      have hp := List.pairwise_iff_getElem.1 h.2
      rcases Nat.lt_or_gt_of_ne hne with h3 | h3
      · exact hp j k hj hkl h3
      · exact fun he => hp k j hkl hj h3 he.symm
  · rename_i hk
    have hno : pgAt (at_ / a) l 0 = -1 := by omega
    have hW : SrcW a (l ++ [(⟨at_ / a, bzPart a b (at_ / a)⟩ : S58)]) := by
      refine ⟨fun x hx => ?_, ?_⟩
      · rcases List.mem_append.1 hx with h1 | h1
        · exact h.1 x h1
        · rw [List.mem_singleton.1 h1]
          refine ⟨Int.ediv_nonneg ht (by omega), ?_⟩
          show ((bzPart a b (at_ / a)).length : Int) ≤ a
          unfold bzPart
          rw [List.length_take, List.length_drop]
          omega
      · rw [List.pairwise_append]
        refine ⟨h.2, List.pairwise_singleton _ _, fun x hx y hy => ?_⟩
        rw [List.mem_singleton.1 hy]
        obtain ⟨j, hj, rfl⟩ := List.mem_iff_getElem.1 hx
        exact pgAt_no (at_ / a) l 0 hno j (Nat.zero_le _) hj
    split
    · exact ⟨fun x hx => hW.1 x (List.mem_of_mem_eraseIdx hx), hW.2.sublist (List.eraseIdx_sublist _ _)⟩
    · exact hW
theorem srcM_step (a : Int) (l : List S58) (f : Int) (b : List Int) (at_ : Int) (h : srcM a l f = true) (ht : 0 ≤ at_) : srcM a (bzL a l b at_) (bzF a l f at_) = true := by
  rw [srcM_iff] at h ⊢
  obtain ⟨h1, h2, h3, h4, h5⟩ := h
  exact ⟨bzL_srcW a l b at_ h1 h2 ht, h2, h3, bzL_len6 a l b at_ h4, bzF_range a l f at_ h5⟩
theorem rnM_facts (a : Int) (b : List Int) : ∀ (n : Nat) (l : List S58) (f at_ : Int) (acc : List Int), srcM a l f = true → 0 ≤ at_ → srcM a (rnM a b n l f at_ acc).1 (rnM a b n l f at_ acc).2.1 = true ∧ (rnM a b n l f at_ acc).2.2.length ≤ acc.length + n
  | 0, l, f, at_, acc, h, _ => ⟨h, Nat.le_refl _⟩
  | n + 1, l, f, at_, acc, h, ht => by
    rw [rnM]
    split
    · exact ⟨srcM_step a l f b at_ h ht, by show acc.length ≤ _; omega⟩
    · have := rnM_facts a b n _ _ (at_ + 1) (acc ++ [bzX a (bzL a l b at_) at_ % 256]) (srcM_step a l f b at_ h ht) (by omega)
      rw [List.length_append, List.length_singleton] at this
      exact ⟨this.1, by omega⟩
theorem srcM_data {a : Int} {l : List S58} {f : Int} (h : srcM a l f = true) : ∀ x ∈ l, x.f1.length ≤ 60000 := by
  rw [srcM_iff] at h
  intro x hx
  have := (h.1.1 x hx).2
  omega
theorem specRun_l1 (a : Int) (b : List Int) (hb : b.length ≤ 1048576) (tp : Int) (htp : tp ≤ 60000) : ∀ (n k : Nat) (l : List S58) (f at_ : Int) (acc : List Int), (tp - at_).toNat = n → n + 1 ≤ k → srcM a l f = true → 0 ≤ at_ → acc.length + n ≤ 100000 →
    spec_SourceRun.l1 k b tp acc at_ a l f = some (a, (rnM a b n l f at_ acc).1, (rnM a b n l f at_ acc).2.1, (rnM a b n l f at_ acc).2.2)
  | 0, k, l, f, at_, acc, hn, hk, hs, ht, _ => by
    obtain ⟨k, rfl⟩ : ∃ m, k = m + 1 := ⟨k - 1, by omega⟩
    rw [spec_SourceRun.l1, if_neg (by omega)]
    rfl
  | n + 1, k, l, f, at_, acc, hn, hk, hs, ht, ha => by
    obtain ⟨k, rfl⟩ : ∃ m, k = m + 1 := ⟨k - 1, by omega⟩
    have hf := srcM_facts hs
    have ho : byOk a l f at_ = true := by
      unfold byOk
      rw [hs, Bool.true_and, decide_eq_true_eq]
      omega
    rw [spec_SourceRun.l1, if_pos (by omega), specByte_ok a f l (by omega) (fun x hx => by have := srcM_data hs x hx; omega) b hb at_ k, Option.bind_some, rnM]
    simp only [byS, byL, byF, byX, if_pos ho]
    by_cases hx : bzX a (bzL a l b at_) at_ < 0
    · rw [if_pos hx, if_pos hx]
    · rw [if_neg hx, if_neg hx, if_pos (by omega), w64 (by omega) (by omega)]
      exact specRun_l1 a b hb tp htp n k _ _ (at_ + 1) _ (by omega) (by omega) (srcM_step a l f b at_ hs ht) (by omega) (by rw [List.length_append, List.length_singleton]; omega)
theorem specRun_l0 (a f from_ tp : Int) (l : List S58) (b : List Int) (hl : l.length ≤ 1048576) (hd : ∀ x ∈ l, x.f1.length ≤ 1048576) : ∀ (d k i : Nat), i + d = l.length → d + 1 ≤ k →
    spec_SourceRun.l0 k b from_ tp l (l.length : Int) (i : Int) a (l.take i) f = spec_SourceRun.l1 (k - d - 1) b tp [] from_ a l f
  | 0, k, i, hi, hk => by
    obtain ⟨k, rfl⟩ : ∃ m, k = m + 1 := ⟨k - 1, by omega⟩
    rw [spec_SourceRun.l0, if_neg (by omega), List.take_of_length_le (by omega)]
    rfl
  | d + 1, k, i, hi, hk => by
    obtain ⟨k, rfl⟩ : ∃ m, k = m + 1 := ⟨k - 1, by omega⟩
    have hil : i < l.length := by omega
    have hdl := hd _ (List.getElem_mem hil)
    have ih := specRun_l0 a f from_ tp l b hl hd d k (i + 1) (by omega) (by omega)
    rw [spec_SourceRun.l0, if_pos (by omega), if_pos (by omega), if_pos (by omega), rd_at_P hil, Option.bind_some, if_pos (by rw [List.length_nil]; omega), if_pos (by rw [List.length_take]; omega), List.nil_append, w64 (by omega) (by omega), show (i : Int) + 1 = ((i + 1 : Nat) : Int) by omega,
      show l.take i ++ [(⟨l[i].f0, l[i].f1⟩ : S58)] = l.take (i + 1) from List.take_append_getElem hil, ih, show k - d - 1 = k + 1 - (d + 1) - 1 by omega]
theorem specRun_ok (a f : Int) (l : List S58) (hl : l.length ≤ 1048576) (hd : ∀ x ∈ l, x.f1.length ≤ 1048576) (b : List Int) (hb : b.length ≤ 1048576) (from_ tp : Int) (k : Nat) (hk : l.length * (l.length + 5) + l.length + 200000 ≤ k) :
    spec_SourceRun.f k a l f b from_ tp = some (ruS a l f from_ tp, ruL a l f b from_ tp, ruF a l f b from_ tp, ruB a l f b from_ tp) := by
  have jt : spec_SourceRun.j0 k b from_ tp true a l f = some (0, [], 0, []) := by
    obtain ⟨k, rfl⟩ : ∃ m, k = m + 1 := ⟨k - 1, by omega⟩
    rw [spec_SourceRun.j0, if_pos rfl]
  unfold spec_SourceRun.f
  rw [specOk_ok a l hl f k (by omega), Option.bind_some, jt]
  by_cases ho : ruOk a l f from_ tp = true
  · have ho2 := ho
    unfold ruOk at ho2
    rw [Bool.and_eq_true, Bool.and_eq_true, decide_eq_true_eq, decide_eq_true_eq] at ho2
    obtain ⟨⟨hs, h0⟩, h6⟩ := ho2
    rw [if_pos hs, if_neg (by omega), show decide (tp > 60000) = false from decide_eq_false (by omega)]
    simp only [ruS, ruL, ruF, ruB, if_pos ho]
    obtain ⟨k, rfl⟩ : ∃ m, k = m + 1 := ⟨k - 1, by omega⟩
    have h1 := specRun_l0 a f from_ tp l b hl hd l.length k 0 (by omega) (by omega)
    rw [List.take_zero] at h1
    rw [spec_SourceRun.j0, if_neg (by decide)]
    refine (show _ = _ from h1).trans ?_
    exact specRun_l1 a b hb tp h6 _ _ l f from_ [] rfl (by omega) hs h0 (by rw [List.length_nil]; omega)
  · rw [Bool.not_eq_true] at ho
    have e1 : ruS a l f from_ tp = 0 := by unfold ruS; rw [ho]; rfl
    have e2 : ruL a l f b from_ tp = [] := by unfold ruL; rw [ho]; rfl
    have e3 : ruF a l f b from_ tp = 0 := by unfold ruF; rw [ho]; rfl
    have e4 : ruB a l f b from_ tp = [] := by unfold ruB; rw [ho]; rfl
    rw [e1, e2, e3, e4]
    by_cases hs : srcM a l f = true
    · unfold ruOk at ho
      rw [hs, Bool.true_and] at ho
      rw [if_pos hs]
      by_cases h : from_ < 0
      · rw [if_pos h]
      · rw [if_neg h, show decide (tp > 60000) = true from by
          rw [decide_eq_true (show 0 ≤ from_ by omega), Bool.true_and, decide_eq_false_iff_not] at ho
          exact decide_eq_true (by omega), jt]
    · rw [if_neg hs]
theorem ru_bound (a f from_ tp : Int) (l : List S58) (b : List Int) : (ruL a l f b from_ tp).length ≤ 6 ∧ (∀ x ∈ ruL a l f b from_ tp, x.f1.length ≤ 1048576) ∧ (ruB a l f b from_ tp).length ≤ 60000 := by
  unfold ruL ruB
  by_cases ho : ruOk a l f from_ tp = true
  · rw [if_pos ho, if_pos ho]
    have ho2 := ho
    unfold ruOk at ho2
    rw [Bool.and_eq_true, Bool.and_eq_true, decide_eq_true_eq, decide_eq_true_eq] at ho2
    obtain ⟨⟨hs, h0⟩, h6⟩ := ho2
    have h := rnM_facts a b (tp - from_).toNat l f from_ [] hs h0
    unfold ruR
    refine ⟨(srcM_facts h.1).2.2.1, fun x hx => by have := srcM_data h.1 x hx; omega, ?_⟩
    have := h.2
    rw [List.length_nil] at this
    omega
  · rw [if_neg ho, if_neg ho]
    exact ⟨Nat.zero_le _, (fun x hx => nomatch hx), Nat.zero_le _⟩
theorem drop_at {α : Type} (d : α) (xs : List α) (i : Int) (h0 : 0 ≤ i) (h1 : i < (xs.length : Int)) : xs.drop i.toNat = xs.getD i.toNat d :: xs.drop (i + 1).toNat := by
  have h : i.toNat < xs.length := by omega
  rw [List.drop_eq_getElem_cons h, show (i + 1).toNat = i.toNat + 1 by omega, List.getD_eq_getElem?_getD, List.getElem?_eq_getElem h]
  rfl
theorem drop_end {α : Type} (xs : List α) (i : Int) (h1 : (xs.length : Int) ≤ i) : xs.drop i.toNat = [] := List.drop_of_length_le (by omega)
theorem copy_set {α : Type} (z v : α) (xs : List α) (i : Int) (h0 : 0 ≤ i) (h1 : i < (xs.length : Int)) (hv : xs[i.toNat]? = some v) :
    (xs.take i.toNat ++ List.replicate (xs.length - i.toNat) z).set i.toNat v = xs.take (i + 1).toNat ++ List.replicate (xs.length - (i + 1).toNat) z := by
  have h : i.toNat < xs.length := by omega
  have hl : (xs.take i.toNat).length = i.toNat := by rw [List.length_take]; omega
  rw [List.set_append_right _ _ (by omega), hl, Nat.sub_self, show xs.length - i.toNat = (xs.length - (i + 1).toNat) + 1 by omega, List.replicate_succ, List.set_cons_zero]
  rw [show (i + 1).toNat = i.toNat + 1 by omega, List.take_succ_eq_append_getElem h, List.append_assoc]
  rw [List.getElem?_eq_getElem h] at hv
  rw [Option.some.inj hv]
  rfl
theorem copy_end {α : Type} (z : α) (xs : List α) (i : Int) (h1 : i = (xs.length : Int)) : xs.take i.toNat ++ List.replicate (xs.length - i.toNat) z = xs := by
  rw [show i.toNat = xs.length by omega, Nat.sub_self, List.take_length]; simp
theorem copy_len {α : Type} (z : α) (xs : List α) (i : Int) (h0 : 0 ≤ i) (h1 : i ≤ (xs.length : Int)) : (xs.take i.toNat ++ List.replicate (xs.length - i.toNat) z).length = xs.length := by
  rw [List.length_append, List.length_take, List.length_replicate]; omega
theorem getD_some {α : Type} (d : α) (xs : List α) (i : Int) (h0 : 0 ≤ i) (h1 : i < (xs.length : Int)) : xs[i.toNat]? = some (xs.getD i.toNat d) := by
  have h : i.toNat < xs.length := by omega
  rw [List.getD_eq_getElem?_getD, List.getElem?_eq_getElem h]; rfl
theorem laws_eqByteS_l0 (l : List Int) (hl : l.length ≤ 1048576) (d : Nat) : ∀ (k : Nat) (i : Int), 0 ≤ i → (l.length : Int) - i = d → d < k → laws_eqByteS.l0 k l l i = some true := by
  induction d with
  | zero =>
    intro k i h0 hd hk
    obtain ⟨k, rfl⟩ : ∃ m, k = m + 1 := ⟨k - 1, by omega⟩
    rw [laws_eqByteS.l0, if_neg (by omega)]
  | succ d ih =>
    intro k i h0 hd hk
    obtain ⟨k, rfl⟩ : ∃ m, k = m + 1 := ⟨k - 1, by omega⟩
    rw [laws_eqByteS.l0, if_pos (by omega), if_pos h0, if_pos (by omega), if_pos rfl, w64 (by omega) (by omega)]
    exact ih k (i + 1) (by omega) (by omega) (by omega)
theorem laws_eqByteS_ok (l : List Int) (hl : l.length ≤ 1048576) (k : Nat) (hk : l.length < k) : laws_eqByteS.f k l l = some true := by
  unfold laws_eqByteS.f
  rw [if_pos rfl]
  exact laws_eqByteS_l0 l hl l.length k 0 (by omega) (by omega) hk
theorem laws_eqPageS_l0 (l : List S58) (hl : l.length ≤ 1048576) (m : Nat) (hm : m ≤ 1048576) (hb : ∀ a ∈ l, a.f1.length ≤ m) (d : Nat) : ∀ (k : Nat) (i : Int), 0 ≤ i → (l.length : Int) - i = d → d + m + 1 < k → laws_eqPageS.l0 k l l i = some true := by
  induction d with
  | zero =>
    intro k i h0 hd hk
    obtain ⟨k, rfl⟩ : ∃ m, k = m + 1 := ⟨k - 1, by omega⟩
    rw [laws_eqPageS.l0, if_neg (by omega)]
  | succ d ih =>
    intro k i h0 hd hk
    obtain ⟨k, rfl⟩ : ∃ m, k = m + 1 := ⟨k - 1, by omega⟩
    have hi : i < (l.length : Int) := by omega
    have b1 : (rd_T58 l i).f1.length ≤ m := hb _ (List.mem_of_getElem? (getD_some z58 l i h0 hi))
    rw [laws_eqPageS.l0, if_pos (by omega), if_pos h0, if_pos (by omega)]
    unfold laws_eqPage.f
    rw [if_pos rfl, laws_eqByteS_ok _ (by omega) k (by omega), Option.bind_some, if_pos rfl, Option.bind_some, if_pos rfl, w64 (by omega) (by omega)]
    exact ih k (i + 1) (by omega) (by omega) (by omega)
theorem laws_eqPageS_ok (l : List S58) (hl : l.length ≤ 1048576) (m : Nat) (hm : m ≤ 1048576) (hb : ∀ a ∈ l, a.f1.length ≤ m) (k : Nat) (hk : l.length + m + 1 < k) : laws_eqPageS.f k l l = some true := by
  unfold laws_eqPageS.f
  rw [if_pos rfl]
  exact laws_eqPageS_l0 l hl m hm hb l.length k 0 (by omega) (by omega) hk
def totG : List S70 → Nat
  | [] => 0
  | x :: r => x.f1.length + totG r
theorem laws_szPageS_l0 (l : List S70) (hl : l.length ≤ 9223372036854775807) (hb : ∀ a ∈ l, a.f1.length ≤ 9223372036854775807) (d : Nat) : ∀ (k : Nat) (x i : Int), 0 ≤ i → (l.length : Int) - i = d → 0 ≤ x → x ≤ 1048576 → d < k →
    ∃ r, laws_szPageS.l0 k l x i = some r ∧ (r < 0 ∨ (totG (l.drop i.toNat) : Int) ≤ x) := by
  induction d with
  | zero =>
    intro k x i h0 hd hx hx1 hk
    obtain ⟨k, rfl⟩ : ∃ m, k = m + 1 := ⟨k - 1, by omega⟩
    refine ⟨x, by rw [laws_szPageS.l0, if_neg (by omega)], .inr ?_⟩
    rw [drop_end _ _ (by omega)]
    exact hx
  | succ d ih =>
    intro k x i h0 hd hx hx1 hk
    obtain ⟨k, rfl⟩ : ∃ m, k = m + 1 := ⟨k - 1, by omega⟩
    have hi : i < (l.length : Int) := by omega
    have b1 : (rd_T70 l i).f1.length ≤ 9223372036854775807 := hb _ (List.mem_of_getElem? (getD_some z70 l i h0 hi))
    rw [laws_szPageS.l0, if_pos hi, if_pos h0, w64 (x := i + 1) (by omega) (by omega)]
    unfold laws_szPage.f laws_szByteS.f
    rw [w64 (x := x - ((rd_T70 l i).f1.length : Int)) (by omega) (by omega)]
    by_cases hn : x - ((rd_T70 l i).f1.length : Int) < 0
    · rw [if_pos hn, Option.bind_some, if_pos (by omega), Option.bind_some, if_pos (by omega)]
      exact ⟨-1, rfl, .inl (by omega)⟩
    · rw [if_neg hn, Option.bind_some, if_neg hn, Option.bind_some, if_neg hn]
      obtain ⟨r, hr, hs⟩ := ih k (x - (rd_T70 l i).f1.length) (i + 1) (by omega) (by omega) (by omega) (by omega) (by omega)
      refine ⟨r, hr, hs.imp id fun h => ?_⟩
      rw [drop_at z70 l i h0 hi]
      show (((rd_T70 l i).f1.length + totG (l.drop (i + 1).toNat) : Nat) : Int) ≤ x
      omega
theorem laws_szPageS_ok (l : List S70) (hl : l.length ≤ 9223372036854775807) (hb : ∀ a ∈ l, a.f1.length ≤ 9223372036854775807) (k : Nat) (hk : l.length < k) :
    ∃ r, laws_szPageS.f k l 1048576 = some r ∧ (r < 0 ∨ l.length + totG l ≤ 1048576) := by
  unfold laws_szPageS.f
  rw [w64 (by omega) (by omega)]
  by_cases hn : (1048576 : Int) - (l.length : Int) < 0
  · rw [if_pos hn]
    exact ⟨-1, rfl, .inl (by omega)⟩
  · rw [if_neg hn]
    obtain ⟨r, hr, hs⟩ := laws_szPageS_l0 l hl hb l.length k (1048576 - (l.length : Int)) 0 (by omega) (by omega) (by omega) (by omega) hk
    refine ⟨r, hr, hs.imp id fun h => ?_⟩
    rw [show (0 : Int).toNat = 0 from rfl, List.drop_zero] at h
    omega
theorem mem_totG (l : List S70) : ∀ a ∈ l, a.f1.length ≤ totG l := by
  induction l with
  | nil => intro a h; cases h
  | cons x r ih =>
    intro a h
    show _ ≤ x.f1.length + totG r
    rcases List.mem_cons.mp h with rfl | h
    · omega
    · have := ih a h
      omega
theorem laws_toByteS_l0 (l : List Int) (hl : l.length ≤ 1048576) (d : Nat) : ∀ (k : Nat) (i : Int), 0 ≤ i → (l.length : Int) - i = d → d < k →
    laws_toByteS.l0 k l (l.take i.toNat ++ List.replicate (l.length - i.toNat) 0) i = some l := by
  induction d with
  | zero =>
    intro k i h0 hd hk
    obtain ⟨k, rfl⟩ : ∃ m, k = m + 1 := ⟨k - 1, by omega⟩
    rw [laws_toByteS.l0, if_neg (by omega), copy_end 0 l i (by omega)]
  | succ d ih =>
    intro k i h0 hd hk
    obtain ⟨k, rfl⟩ : ∃ m, k = m + 1 := ⟨k - 1, by omega⟩
    have hi : i < (l.length : Int) := by omega
    rw [laws_toByteS.l0, if_pos hi, if_pos h0, copy_len 0 l i h0 (by omega), if_pos hi, copy_set 0 (rd l i) l i h0 hi (getD_some 0 l i h0 hi), w64 (by omega) (by omega)]
    exact ih k (i + 1) (by omega) (by omega) (by omega)
theorem laws_toByteS_ok (l : List Int) (hl : l.length ≤ 1048576) (k : Nat) (hk : l.length < k) : laws_toByteS.f k l = some l := by
  unfold laws_toByteS.f
  rw [if_pos (by omega), if_pos (by omega)]
  have := laws_toByteS_l0 l hl l.length k 0 (by omega) (by omega) hk
  exact this
def cvG (x : S70) : S58 := ⟨x.f0, x.f1⟩
theorem laws_toPageS_l0 (l : List S70) (hl : l.length ≤ 1048576) (m : Nat) (hm : m ≤ 1048576) (hb : ∀ a ∈ l, a.f1.length ≤ m) (z : S58) (d : Nat) : ∀ (k : Nat) (i : Int), 0 ≤ i → (l.length : Int) - i = d → d + m + 1 < k →
    laws_toPageS.l0 k l ((l.map cvG).take i.toNat ++ List.replicate ((l.map cvG).length - i.toNat) z) i = some (l.map cvG) := by
  have hlm : (l.map cvG).length = l.length := List.length_map _
  induction d with
  | zero =>
    intro k i h0 hd hk
    obtain ⟨k, rfl⟩ : ∃ m, k = m + 1 := ⟨k - 1, by omega⟩
    rw [laws_toPageS.l0, if_neg (by omega), copy_end z _ i (by omega)]
  | succ d ih =>
    intro k i h0 hd hk
    obtain ⟨k, rfl⟩ : ∃ m, k = m + 1 := ⟨k - 1, by omega⟩
    have hi : i < (l.length : Int) := by omega
    have hv : (l.map cvG)[i.toNat]? = some (⟨(rd_T70 l i).f0, (rd_T70 l i).f1⟩ : S58) := by
      rw [List.getElem?_map, getD_some z70 l i h0 hi]
      rfl
    have b1 : (rd_T70 l i).f1.length ≤ m := hb _ (List.mem_of_getElem? (getD_some z70 l i h0 hi))
    rw [laws_toPageS.l0, if_pos hi, if_pos h0]
    unfold laws_toPage.f
    simp only [laws_toByteS_ok (rd_T70 l i).f1 (by omega) k (by omega), Option.bind_some]
    rw [copy_len z _ i h0 (by omega), hlm, if_pos hi, ← hlm, copy_set z _ _ i h0 (by omega) hv, w64 (by omega) (by omega)]
    exact ih k (i + 1) (by omega) (by omega) (by omega)
theorem laws_toPageS_ok (l : List S70) (hl : l.length ≤ 1048576) (m : Nat) (hm : m ≤ 1048576) (hb : ∀ a ∈ l, a.f1.length ≤ m) (k : Nat) (hk : l.length + m + 1 < k) : laws_toPageS.f k l = some (l.map cvG) := by
  unfold laws_toPageS.f
  rw [if_pos (by omega), if_pos (by omega)]
  have := laws_toPageS_l0 l hl m hm hb z58 l.length k 0 (by omega) (by omega) hk
  rw [List.length_map] at this
  exact this
/-! ### marks: what they write, and what is read back -/
def mkB : Nat → Int → List Int
  | 0, _ => []
  | n + 1, k => (k % 256) :: mkB n (k + 1)
theorem mkB_len : ∀ (n : Nat) (k : Int), (mkB n k).length = n
  | 0, _ => rfl
  | n + 1, k => by rw [mkB, List.length_cons, mkB_len]
theorem mkB_snoc : ∀ (n : Nat) (k : Int), mkB (n + 1) k = mkB n k ++ [(k + n) % 256]
  | 0, k => by simp [mkB]
  | n + 1, k => by
    rw [mkB, mkB_snoc n (k + 1), mkB, List.cons_append, show k + 1 + (n : Int) = k + ((n + 1 : Nat) : Int) by omega]
theorem mkB_rd : ∀ (n : Nat) (k : Int) (i : Nat), i < n → rd (mkB n k) (i : Int) = (k + i) % 256
  | 0, _, i, h => by omega
  | n + 1, k, 0, _ => by
    show (k % 256) = _
    rw [show k + ((0 : Nat) : Int) = k by omega]
  | n + 1, k, i + 1, h => by
    have := mkB_rd n (k + 1) i (by omega)
    have e : rd (mkB (n + 1) k) ((i + 1 : Nat) : Int) = rd (mkB n (k + 1)) (i : Int) := rfl
    rw [e, this, show k + 1 + (i : Int) = k + ((i + 1 : Nat) : Int) by omega]
theorem markByteS_l0 (l : List Int) (a : Int) (ha : 0 ≤ a) (hb : a + l.length ≤ 4611686018427387904) : ∀ (d k i : Nat), i + d = l.length → d + 1 ≤ k → laws_markByteS.l0 k (mkB i a ++ l.drop i) (a + i) (i : Int) = some (a + l.length, mkB l.length a)
  | 0, k, i, hi, hk => by
    obtain ⟨k, rfl⟩ : ∃ m, k = m + 1 := ⟨k - 1, by omega⟩
    obtain rfl : i = l.length := by omega
    rw [laws_markByteS.l0, List.drop_length, List.append_nil, mkB_len, if_neg (by omega)]
  | d + 1, k, i, hi, hk => by
    obtain ⟨k, rfl⟩ : ∃ m, k = m + 1 := ⟨k - 1, by omega⟩
    have hil : i < l.length := by omega
    rw [laws_markByteS.l0, List.length_append, mkB_len, List.length_drop, if_pos (by omega), if_pos (by omega), w64 (by omega) (by omega), w64 (by omega) (by omega), show a + (i : Int) + 1 = a + ((i + 1 : Nat) : Int) by omega, show (i : Int) + 1 = ((i + 1 : Nat) : Int) by omega, Int.toNat_natCast,
      List.set_append_right _ _ (by rw [mkB_len]; omega), mkB_len, Nat.sub_self, List.drop_eq_getElem_cons hil, List.set_cons_zero, show mkB i a ++ (a + (i : Int)) % 256 :: l.drop (i + 1) = mkB (i + 1) a ++ l.drop (i + 1) from by rw [mkB_snoc, List.append_assoc]; rfl]
    exact markByteS_l0 l a ha hb d k (i + 1) (by omega) (by omega)
theorem markByteS_ok (l : List Int) (a : Int) (ha : 0 ≤ a) (hb : a + l.length ≤ 4611686018427387904) (k : Nat) (hk : l.length + 1 ≤ k) : laws_markByteS.f k l a = some (a + l.length, mkB l.length a) := by
  have := markByteS_l0 l a ha hb l.length k 0 (by omega) hk
  rw [show a + ((0 : Nat) : Int) = a by omega] at this
  exact this
theorem heldByteS_l0 (n : Nat) (a : Int) (ha : 0 ≤ a) (hb : a + n ≤ 4611686018427387904) : ∀ (d k i : Nat), i + d = n → d + 1 ≤ k → laws_heldByteS.l0 k (mkB n a) (a + i) (i : Int) = some (a + n)
  | 0, k, i, hi, hk => by
    obtain ⟨k, rfl⟩ : ∃ m, k = m + 1 := ⟨k - 1, by omega⟩
    obtain rfl : i = n := by omega
    rw [laws_heldByteS.l0, mkB_len, if_neg (by omega)]
  | d + 1, k, i, hi, hk => by
    obtain ⟨k, rfl⟩ : ∃ m, k = m + 1 := ⟨k - 1, by omega⟩
    rw [laws_heldByteS.l0, mkB_len, if_pos (by omega), if_pos (by omega), mkB_rd n a i (by omega), if_pos rfl, w64 (by omega) (by omega), w64 (by omega) (by omega), show a + (i : Int) + 1 = a + ((i + 1 : Nat) : Int) by omega, show (i : Int) + 1 = ((i + 1 : Nat) : Int) by omega]
    exact heldByteS_l0 n a ha hb d k (i + 1) (by omega) (by omega)
theorem heldByteS_ok (n : Nat) (a : Int) (ha : 0 ≤ a) (hb : a + n ≤ 4611686018427387904) (k : Nat) (hk : n + 1 ≤ k) : laws_heldByteS.f k (mkB n a) a = some (a + n) := by
  have := heldByteS_l0 n a ha hb n k 0 (by omega) hk
  rw [show a + ((0 : Nat) : Int) = a by omega] at this
  exact this
def mkP (x : S58) (k : Int) : S58 := ⟨k, mkB x.f1.length (k + 1)⟩
def mkK : List S58 → Int → Int
  | [], k => k
  | x :: r, k => mkK r (k + 1 + x.f1.length)
def mkL : List S58 → Int → List S58
  | [], _ => []
  | x :: r, k => mkP x k :: mkL r (k + 1 + x.f1.length)
theorem mkK_append : ∀ (a b : List S58) (k : Int), mkK (a ++ b) k = mkK b (mkK a k)
  | [], _, _ => rfl
  | x :: r, b, k => mkK_append r b _
theorem mkL_append : ∀ (a b : List S58) (k : Int), mkL (a ++ b) k = mkL a k ++ mkL b (mkK a k)
  | [], _, _ => rfl
  | x :: r, b, k => by rw [List.cons_append, mkL, mkL_append r b, mkK, mkL, List.cons_append]
theorem mkL_len : ∀ (l : List S58) (k : Int), (mkL l k).length = l.length
  | [], _ => rfl
  | x :: r, k => by rw [mkL, List.length_cons, mkL_len, List.length_cons]
theorem mkK_le : ∀ (l : List S58) (k : Int), k + l.length ≤ mkK l k
  | [], k => by simp [mkK]
  | x :: r, k => by
    have := mkK_le r (k + 1 + x.f1.length)
    rw [mkK, List.length_cons]
    omega
theorem mkK_step (l : List S58) (m : Int) (i : Nat) (h : i < l.length) : mkK (l.take (i + 1)) m = mkK (l.take i) m + 1 + l[i].f1.length := by
  rw [← List.take_append_getElem h, mkK_append]
  rfl
theorem mkL_step (l : List S58) (m : Int) (i : Nat) (h : i < l.length) : mkL (l.take (i + 1)) m = mkL (l.take i) m ++ [mkP l[i] (mkK (l.take i) m)] := by
  rw [← List.take_append_getElem h, mkL_append]
  rfl
theorem mkK_take (l : List S58) (m : Int) (i : Nat) : m ≤ mkK (l.take i) m ∧ mkK (l.take i) m ≤ mkK l m := by
  have h1 := mkK_le (l.take i) m
  have h2 := mkK_le (l.drop i) (mkK (l.take i) m)
  rw [← mkK_append, List.take_append_drop] at h2
  omega
theorem mkL_rd (l : List S58) (m : Int) (i : Nat) (h : i < l.length) : rd_T58 (mkL l m) (i : Int) = mkP l[i] (mkK (l.take i) m) := by
  rw [rd_at_P (by rw [mkL_len]; exact h)]
  have e : mkL l m = mkL (l.take i) m ++ (mkP l[i] (mkK (l.take i) m) :: mkL (l.drop (i + 1)) (mkK (l.take i) m + 1 + l[i].f1.length)) := by
    conv => lhs; rw [← List.take_append_drop i l, mkL_append, List.drop_eq_getElem_cons h, mkL]
  simp only [e]
  rw [List.getElem_append_right (by rw [mkL_len, List.length_take]; omega)]
  simp [mkL_len, List.length_take, Nat.min_eq_left (Nat.le_of_lt h)]
theorem heldPageS_l0 (l : List S58) (m : Int) (hm : 0 ≤ m) (hb : mkK l m ≤ 4611686018427387904) (hl : l.length ≤ 1048576) (KK : Nat) (hd : ∀ x ∈ l, x.f1.length + 1 ≤ KK) : ∀ (d k i : Nat), i + d = l.length → d + 1 + KK ≤ k → laws_heldPageS.l0 k (mkL l m) (mkK (l.take i) m) (i : Int) = some (mkK l m)
  | 0, k, i, hi, hk => by
    obtain ⟨k, rfl⟩ : ∃ m, k = m + 1 := ⟨k - 1, by omega⟩
    obtain rfl : i = l.length := by omega
    rw [laws_heldPageS.l0, mkL_len, if_neg (by omega), List.take_length]
  | d + 1, k, i, hi, hk => by
    obtain ⟨k, rfl⟩ : ∃ m, k = m + 1 := ⟨k - 1, by omega⟩
    have hil : i < l.length := by omega
    have h1 := mkK_take l m i
    have h2 := mkK_take l m (i + 1)
    have h3 := mkK_step l m i hil
    have h4 := hd _ (List.getElem_mem hil)
    rw [laws_heldPageS.l0, mkL_len, if_pos (by omega), if_pos (by omega), mkL_rd l m i hil, if_pos (show (mkP l[i] (mkK (l.take i) m)).f0 = mkK (l.take i) m from rfl), w64 (by omega) (by omega), show (mkP l[i] (mkK (l.take i) m)).f1 = mkB l[i].f1.length (mkK (l.take i) m + 1) from rfl, heldByteS_ok _ _ (by omega) (by omega) k (by omega), Option.bind_some, if_neg (by omega), ← h3, w64 (by omega) (by omega), show (i : Int) + 1 = ((i + 1 : Nat) : Int) by omega]
    exact heldPageS_l0 l m hm hb hl KK hd d k (i + 1) (by omega) (by omega)
theorem heldSource_ok (a f : Int) (l : List S58) (m : Int) (hm : 0 ≤ m) (hb : mkK l m ≤ 4611686018427387904) (hl : l.length ≤ 1048576) (KK : Nat) (hd : ∀ x ∈ l, x.f1.length + 1 ≤ KK) (k : Nat) (hk : l.length + 1 + KK ≤ k) : laws_heldSource.f k a (mkL l m) f m = some (mkK l m) := by
  have h := heldPageS_l0 l m hm hb hl KK hd l.length k 0 (by omega) hk
  have h2 := mkK_le l m
  unfold laws_heldSource.f laws_heldPageS.f
  rw [show laws_heldPageS.l0 k (mkL l m) m 0 = some (mkK l m) from h, Option.bind_some, if_neg (by omega)]
theorem eqSource_ok (a f : Int) (l : List S58) (hl : l.length ≤ 1048576) (hb : ∀ x ∈ l, x.f1.length ≤ 1048576) (k : Nat) (hk : 3000000 ≤ k) : laws_eqSource.f k a l f a l f = some true := by
  unfold laws_eqSource.f
  rw [if_pos rfl, laws_eqPageS_ok l hl 1048576 (by omega) hb k (by omega), Option.bind_some, if_pos rfl, if_pos rfl]
set_option maxHeartbeats 4000000 in
set_option maxRecDepth 100000 in
theorem markPageS_c (ok : Nat → Prop) (A : Option Addr) (c : Nat) (l : List S58) (m : Int) (w0 w : World) (hB : Below w0.heap.size w0 w) (hS : Kd.S k58 58 w w0.heap.size ok (.slice A l.length c) l) (hok : ∀ k, w.heap.size ≤ k → ok k) (hl : l.length ≤ 1048576) (hd : ∀ x ∈ l, x.f1.length ≤ 1048576) (hm : 0 ≤ m) (hK : mkK l m ≤ 4611686018427387904) :
    Calls Try.prog 28 #[.slice A l.length c, .int .i64 m] w fun e w' => e = .returned (.int .i64 (mkK l m)) ∧ Kd.S k58 58 w' w0.heap.size ok (.slice A l.length c) (mkL l m) ∧ Below w0.heap.size w0 w' ∧ Kept w w' ok := by
  have hu := Try.underlying58
  have HB0 := Aside0.mk hB
  have HS0 := Aside0.mk hS
  have HO := Aside0.mk hok
  have HL := Aside0.mk hl
  have HD := Aside0.mk hd
  have HM := Aside0.mk (And.intro hm hK)
  clear hB hS hok hl hd hm hK
  go_enter Try.func28, Try.ntmps28
  go_wp2
  go_loopg [1, 5] l.length (fun kq v1 v5 wr => ∃ (i : Nat) (k : Int), v1 = .int .i64 k ∧ v5 = .int .i64 (i : Int) ∧ Aside0 (i + kq = l.length) ∧ Aside0 (k = mkK (l.take i) m) ∧ Aside0 (Kd.S k58 58 wr w0.heap.size ok (.slice A l.length c) (mkL (l.take i) m ++ l.drop i)) ∧ Aside0 (Below w0.heap.size w0 wr) ∧ Aside0 (Kept w wr ok))
  case atStart => exact ⟨0, m, rfl, rfl, ⟨by omega⟩, ⟨rfl⟩, HS0, HB0, ⟨Kept.refl _ _⟩⟩
  case round =>
    clear HS0 HB0
    obtain ⟨i, k, rfl, rfl, HI, HKK, HS, HB, HT⟩ := hrel
    obtain ⟨gk_1, hgk⟩ : ∃ q, l.length - (i + 1) = q := ⟨_, rfl⟩
    have HK1 := Aside0.mk hgk
    clear hgk
    by_cases ci : i < l.length
    · have q1 : ((i : Int) < (l.length : Int)) = True := eq_true (by omega)
      have p1 : (0 ≤ (i : Int)) = True := eq_true (by omega)
      have p3 : (i < l.length) = True := eq_true ci
      have hw : wrap64 ((i : Int) + 1) = ((i + 1 : Nat) : Int) := by have := HL.out; unfold wrap64; omega
      have hkt := mkK_take l m i
      have hk2 := mkK_step l m i ci
      have hk3 := mkK_take l m (i + 1)
      have hxd := HD.out _ (List.getElem_mem ci)
      have hwk : wrap64 (k + 1) = k + 1 := by have := HM.out; have := HKK.out; unfold wrap64; omega
      have hlen : (mkL (l.take i) m ++ l.drop i).length = l.length := by rw [List.length_append, mkL_len, List.length_take, List.length_drop]; omega
      have hcur : (mkL (l.take i) m ++ l.drop i).getD (i : Int).toNat z58 = l[i] := by
        rw [Int.toNat_natCast, List.getD_eq_getElem?_getD, List.getElem?_append_right (by rw [mkL_len, List.length_take]; omega), mkL_len, List.length_take, show i - min i l.length = 0 by omega, List.drop_eq_getElem_cons ci]
        rfl
      have hset : ∀ x, (mkL (l.take i) m ++ l.drop i).set (i : Int).toNat x = mkL (l.take i) m ++ x :: l.drop (i + 1) := fun x => by
        rw [Int.toNat_natCast, List.set_append_right _ _ (by rw [mkL_len, List.length_take]; omega), mkL_len, List.length_take, show i - min i l.length = 0 by omega, List.drop_eq_getElem_cons ci, List.set_cons_zero]
      obtain ⟨g, c', hA, hgb, _, _⟩ := Kd.S_form HS.out (by omega)
      simp only [Value.slice.injEq] at hA
      obtain ⟨rfl, hA2, hA3⟩ := hA
      subst hA3
      obtain ⟨oki, cc, hcl, hM, hcc, hfr, hoki, hH⟩ := Kd.S_elem HS.out z58 (i : Int) (by omega) (by omega)
      rw [hcur] at hM
      rw [Int.toNat_natCast] at hcc hfr
      obtain ⟨v6, rfl, hR⟩ := k58_openM hM
      obtain ⟨A6, c6, rfl⟩ := Kd.R_slice hR
      have h0 : wr.cell? ⟨g, i * 2, none⟩ = some (.int .i64 l[i].f0) := hcc 0 _ rfl
      have h1 : wr.cell? ⟨g, i * 2 + 1, none⟩ = some (.slice A6 l[i].f1.length c6) := hcc 1 _ rfl
      have f0 : wr.frozen? ⟨g, i * 2, none⟩ = false := hfr 0
      obtain ⟨hH2, hg2⟩ := Kd.H_seg hH (by omega) (by omega) (seg := [.int .i64 k]) (j := 0) (show 0 + 1 ≤ 2 by decide) (by intro q hq; rw [List.mem_singleton.1 hq]; rfl)
      have HH := Aside0.mk hH2
      have HG := Aside0.mk hg2
      have HR := Aside0.mk hR
      have HOI := Aside0.mk hoki
      have HGB := Aside0.mk hgb
      have HOG := Aside0.mk ((Kd.S_R HS.out).1 g (by simp [Value.ownBlock]))
      clear hH hH2 hg2 hR hoki hcl hM hcc hfr hgb hA2 hlen hcur
      have HHo := Aside0.mk (Kd.H_widen (show Kd.H k58 58 (wr.setCell ⟨g, i * 2, none⟩ (.int .i64 k)) w0.heap.size ok (.slice (some ⟨g, 0, none⟩) l.length c) (mkL (l.take i) m ++ l.drop i) (i : Int) oki [.int .i64 k, .slice A6 l[i].f1.length c6] from HH.out))
      have HGo := Aside0.mk (show wr.grownBy (wr.setCell ⟨g, i * 2, none⟩ (.int .i64 k)) (some g) from HG.out)
      have HR1 := Aside0.mk (Kd.R_grown HR.out HGo.out (fun q hq he => (HOI.out q hq).2 (by injection he)))
      have HB1 := Aside0.mk (HB.out.setCell (p := ⟨g, i * 2, none⟩) HGB.out (.int .i64 k))
      have HT1 := Aside0.mk (HT.out.setCell (p := ⟨g, i * 2, none⟩) (.inl HOG.out) (.int .i64 k))
      have HMB := Aside0.mk (markByteS_ok l[i].f1 (k + 1) (by have := HM.out; have := HKK.out; omega) (by have := HM.out; have := HKK.out; omega) (l[i].f1.length + 1) (Nat.le_refl _))
      have HN := Aside0.mk (show k + 1 + (l[i].f1.length : Int) = mkK (l.take (i + 1)) m ∧ mkL (l.take (i + 1)) m ++ l.drop (i + 1) = mkL (l.take i) m ++ mkP l[i] k :: l.drop (i + 1) from ⟨by rw [hk2, ← HKK.out], by rw [mkL_step l m i ci, ← HKK.out, List.append_assoc]; rfl⟩)
      have HSE := Aside0.mk hset
      clear HH HG HR hset hkt hk2 hk3 hxd
      go_wp2_with (go_at_call 24; (with_reducible refine (laws_markByteS.calls (l[i].f1.length + 1) oki (.slice A6 l[i].f1.length c6) l[i].f1 (k + 1) _ _ w0 (wr.setCell ⟨g, i * 2, none⟩ (.int .i64 k)) HB1.out HR1.out HMB.out).mono ?_); rintro e w6 ⟨rfl, hR6, hb6, hk6⟩; have HR6 := Aside0.mk hR6; have HB6 := Aside0.mk hb6; have HK6 := Aside0.mk hk6; clear hR6 hb6 hk6)
      go_roundg gk_1
      case measure => (have := HK1.out; have := HI.out; omega)
      case rel =>
        refine ⟨i + 1, k + 1 + (l[i].f1.length : Int), rfl, (by first | rfl | (simp only [hw]) | (simp; done)), ⟨by have := HI.out; have := HK1.out; omega⟩, ⟨HN.out.1⟩, ⟨?_⟩, HB6, ⟨HT1.out.then_ HK6.out (fun q hq => .inl (HOI.out q hq).1)⟩⟩
        rw [HN.out.2, ← HSE.out]
        exact Kd.H_back (Kd.H_step HHo.out (fun q _ hn hlt => HK6.out.2 q hlt (fun h => hn (.inl h)))) (k58_mkM _ _ _ (mkP l[i] k) HR6.out) (fun q hq => hq.imp id (fun h => ⟨HO.out q (Nat.le_trans HT1.out.1 h), h⟩))
    · have hi : i = l.length := by have := HI.out; omega
      have q1 : ((i : Int) < (l.length : Int)) = False := eq_false (by omega)
      have HS5 := HS
      have HE := Aside0.mk (show k = mkK l m from by rw [HKK.out, hi, List.take_length])
      rw [show mkL (l.take i) m ++ l.drop i = mkL l m from by rw [hi, List.take_length, List.drop_length, List.append_nil]] at HS5
      go_wp2
      go_ret
      exact ⟨by rw [HE.out]; rfl, HS5.out, HB.out, HT.out⟩
set_option maxHeartbeats 4000000 in
set_option maxRecDepth 100000 in
theorem markSource_c (ok : Nat → Prop) (a f : Int) (A : Option Addr) (c : Nat) (l : List S58) (m : Int) (w0 w : World) (hB : Below w0.heap.size w0 w) (hS : Kd.S k58 58 w w0.heap.size ok (.slice A l.length c) l) (hok : ∀ k, w.heap.size ≤ k → ok k) (hl : l.length ≤ 1048576) (hd : ∀ x ∈ l, x.f1.length ≤ 1048576) (hm : 0 ≤ m) (hK : mkK l m ≤ 4611686018427387904) :
    Calls Try.prog 11 #[.agg #[.int .i64 a, .slice A l.length c, .int .i64 f], .int .i64 m] w fun e w' => e = .returned (.int .i64 (mkK l m)) ∧ Kd.S k58 58 w' w0.heap.size ok (.slice A l.length c) (mkL l m) ∧ Below w0.heap.size w0 w' ∧ Kept w w' ok := by
  have hu := Try.underlying24
  have HB := Aside0.mk (hB.alloc hB.size (.cells #[.int .i64 a, .slice A l.length c, .int .i64 f] 24))
  have HS := Aside0.mk (Kd.S_alloc hS (.cells #[.int .i64 a, .slice A l.length c, .int .i64 f] 24))
  have HK := Aside0.mk ((Kept.refl w ok).alloc (.cells #[.int .i64 a, .slice A l.length c, .int .i64 f] 24))
  have HO := Aside0.mk (show ∀ k, (w.alloc (.cells #[.int .i64 a, .slice A l.length c, .int .i64 f] 24)).heap.size ≤ k → ok k from fun k hk => hok k (Nat.le_trans (by rw [World.size_alloc]; omega) hk))
  clear hB hS hok
  go_enter Try.func11, Try.ntmps11
  go_wp2_with (go_at_call 28; (with_reducible refine (markPageS_c ok A c l m w0 _ HB.out HS.out HO.out hl hd hm hK).mono ?_); rintro e w' ⟨rfl, hS1, hb1, hk1⟩; have HS1 := Aside0.mk hS1; have HB1 := Aside0.mk hb1; have HK1 := Aside0.mk (HK.out.then_ hk1 (fun q hq => .inl hq)); clear hS1 hb1 hk1)
  go_ret
  exact ⟨rfl, HS1.out, HB1.out, HK1.out⟩
/-! ### the law: what stands while it runs -/
def LB (w W : World) (a f : Int) (A : Option Addr) (c n : Nat) : Prop := Below w.heap.size w W ∧ W.heap[w.heap.size]? = some (.cells #[.int .i64 a, .slice A n c, .int .i64 f] 41 (0, 0))
theorem LB.below {w W W' : World} {a f : Int} {A : Option Addr} {c n : Nat} (h : LB w W a f A c n) (hb : Below W.heap.size W W') : LB w W' a f A c n := ⟨below_step h.1 hb, (hb.block _ (blk_lt h.2)).trans h.2⟩
theorem LB.bel {w W : World} {a f : Int} {A : Option Addr} {c n : Nat} (h : LB w W a f A c n) : Below w.heap.size w W := h.1
theorem LB.kept {w W W' : World} {a f : Int} {A : Option Addr} {c n : Nat} {P : Nat → Prop} (h : LB w W a f A c n) (hb : Below w.heap.size w W') (hk : Kept W W' P) (hn : ¬ P w.heap.size) : LB w W' a f A c n := ⟨hb, (hk.2 _ (blk_lt h.2) hn).trans h.2⟩
def QB (lo : Nat) (W : World) (g : Nat) (a : Int) (A : Option Addr) (c : Nat) (L : List S58) (f : Int) : Prop := lo ≤ g ∧ W.heap[g]? = some (.cells #[.int .i64 a, .slice A L.length c, .int .i64 f] 24 (0, 0)) ∧ Kd.Q k58 58 W lo (fun k => k < g) (.slice A L.length c) L
def SB (lo : Nat) (W : World) (g : Nat) (a : Int) (A : Option Addr) (c : Nat) (L : List S58) (f : Int) : Prop := lo ≤ g ∧ W.heap[g]? = some (.cells #[.int .i64 a, .slice A L.length c, .int .i64 f] 24 (0, 0)) ∧ Kd.S k58 58 W lo (fun k => k < g) (.slice A L.length c) L
def RB (lo hi : Nat) (W : World) (A : Option Addr) (c : Nat) (b : List Int) : Prop := hi ≤ W.heap.size ∧ Kd.R (Kd.int .u8) 5 W lo (fun k => k < hi) (.slice A b.length c) b
section
variable {lo hi g c : Nat} {w W W' : World} {a f : Int} {A : Option Addr} {L : List S58} {b : List Int} {P : Nat → Prop}
theorem QB.below (h : QB lo W g a A c L f) (hb : Below W.heap.size W W') : QB lo W' g a A c L f := ⟨h.1, (hb.block _ (blk_lt h.2.1)).trans h.2.1, Kd.Q_below h.2.2 hb⟩
theorem SB.below (h : SB lo W g a A c L f) (hb : Below W.heap.size W W') : SB lo W' g a A c L f := ⟨h.1, (hb.block _ (blk_lt h.2.1)).trans h.2.1, Kd.S_below h.2.2 hb⟩
theorem RB.below (h : RB lo hi W A c b) (hb : Below W.heap.size W W') : RB lo hi W' A c b := ⟨Nat.le_trans h.1 hb.size, Kd.R_below h.2 hb⟩
theorem QB.kept (h : QB lo W g a A c L f) (hk : Kept W W' P) (hn : ∀ k, lo ≤ k → k ≤ g → ¬ P k) : QB lo W' g a A c L f :=
  ⟨h.1, (hk.2 _ (blk_lt h.2.1) (hn _ h.1 (Nat.le_refl _))).trans h.2.1, Kd.Q_mono (Kd.Q_step (Kd.Q_bound h.2.2) (fun k hk2 hlt => hk.2 k hlt (hn k hk2.2.1 (Nat.le_of_lt hk2.1)))) (fun _ hk2 => hk2.1)⟩
theorem SB.kept (h : SB lo W g a A c L f) (hk : Kept W W' P) (hn : ∀ k, lo ≤ k → k ≤ g → ¬ P k) : SB lo W' g a A c L f :=
  ⟨h.1, (hk.2 _ (blk_lt h.2.1) (hn _ h.1 (Nat.le_refl _))).trans h.2.1, Kd.S_mono (Kd.S_step (Kd.S_bound h.2.2) (fun k hk2 hlt => hk.2 k hlt (hn k hk2.2.1 (Nat.le_of_lt hk2.1)))) (fun _ hk2 => hk2.1)⟩
theorem RB.kept (h : RB lo hi W A c b) (hk : Kept W W' P) (hn : ∀ k, lo ≤ k → k < hi → ¬ P k) : RB lo hi W' A c b :=
  ⟨Nat.le_trans h.1 hk.1, Kd.R_mono (Kd.R_step (Kd.R_bound h.2) (fun k hk2 hlt => hk.2 k hlt (hn k hk2.2.1 hk2.1))) (fun _ hk2 => hk2.1)⟩
theorem RB.own (h : RB lo hi W A c b) (hl : w.heap.size ≤ lo) : Kd.R (Kd.int .u8) 5 W w.heap.size (fun k => lo ≤ k ∧ k < hi) (.slice A b.length c) b :=
  Kd.R_lower (Kd.R_mono (Kd.R_bound h.2) (fun k hk => ⟨hk.2.1, hk.1⟩)) hl
def MB (lo : Nat) (W : World) (g : Nat) (a : Int) (A : Option Addr) (c n : Nat) (L : List S58) (f : Int) : Prop := W.heap[g]? = some (.cells #[.int .i64 a, .slice A n c, .int .i64 f] 24 (0, 0)) ∧ Kd.S k58 58 W lo (fun _ => True) (.slice A n c) L
theorem MB.below {n : Nat} (h : MB lo W g a A c n L f) (hb : Below W.heap.size W W') : MB lo W' g a A c n L f := ⟨(hb.block _ (blk_lt h.1)).trans h.1, Kd.S_below h.2 hb⟩
theorem MB.cells {n : Nat} (h : MB lo W g a A c n L f) : W.cell? ⟨g, 0, none⟩ = some (.int .i64 a) ∧ W.cell? ⟨g, 1, none⟩ = some (.slice A n c) ∧ W.cell? ⟨g, 2, none⟩ = some (.int .i64 f) := ⟨(blk_cell h.1 0).trans rfl, (blk_cell h.1 1).trans rfl, (blk_cell h.1 2).trans rfl⟩
theorem MB.row {n : Nat} (h : MB lo W g a A c n L f) : Kd.C k58 W A L.length L ∧ n ≤ c := ⟨(Kd.S_reads' h.2).2.2, (Kd.S_reads' h.2).2.1⟩
theorem QB.new {W : World} (h : Kd.Q k58 58 W lo (fun _ => True) (.slice A L.length c) L) (hlo : lo ≤ W.heap.size) : QB lo (W.alloc (.cells #[.int .i64 a, .slice A L.length c, .int .i64 f] 24)) W.heap.size a A c L f :=
  ⟨hlo, heap_alloc_new W _, Kd.Q_alloc (Kd.Q_mono (Kd.Q_bound h) (fun _ hk => hk.2.2.1)) _⟩
theorem SB.new {W : World} (h : Kd.S k58 58 W lo (fun _ => True) (.slice A L.length c) L) (hlo : lo ≤ W.heap.size) : SB lo (W.alloc (.cells #[.int .i64 a, .slice A L.length c, .int .i64 f] 24)) W.heap.size a A c L f :=
  ⟨hlo, heap_alloc_new W _, Kd.S_alloc (Kd.S_mono (Kd.S_bound h) (fun _ hk => hk.2.2.1)) _⟩
theorem RB.new {W : World} (h : Kd.R (Kd.int .u8) 5 W lo (fun _ => True) (.slice A b.length c) b) : RB lo W.heap.size W A c b := ⟨Nat.le_refl _, Kd.R_mono (Kd.R_bound h) (fun _ hk => hk.2.2.1)⟩
theorem SB.own (h : SB lo W g a A c L f) (hl : w.heap.size ≤ lo) : Kd.S k58 58 W w.heap.size (fun k => lo ≤ k ∧ k < g ∨ W.heap.size ≤ k) (.slice A L.length c) L :=
  Kd.S_lower (Kd.S_mono (Kd.S_bound h.2.2) (fun k hk => .inl ⟨hk.2.1, hk.1⟩)) hl
theorem SB.cells (h : SB lo W g a A c L f) : W.cell? ⟨g, 0, none⟩ = some (.int .i64 a) ∧ W.cell? ⟨g, 1, none⟩ = some (.slice A L.length c) ∧ W.cell? ⟨g, 2, none⟩ = some (.int .i64 f) := ⟨(blk_cell h.2.1 0).trans rfl, (blk_cell h.2.1 1).trans rfl, (blk_cell h.2.1 2).trans rfl⟩
theorem QB.cells (h : QB lo W g a A c L f) : W.cell? ⟨g, 0, none⟩ = some (.int .i64 a) ∧ W.cell? ⟨g, 1, none⟩ = some (.slice A L.length c) ∧ W.cell? ⟨g, 2, none⟩ = some (.int .i64 f) := ⟨(blk_cell h.2.1 0).trans rfl, (blk_cell h.2.1 1).trans rfl, (blk_cell h.2.1 2).trans rfl⟩
theorem LB.cells {n : Nat} (h : LB w W a f A c n) : W.cell? ⟨w.heap.size, 0, none⟩ = some (.int .i64 a) ∧ W.cell? ⟨w.heap.size, 1, none⟩ = some (.slice A n c) ∧ W.cell? ⟨w.heap.size, 2, none⟩ = some (.int .i64 f) := ⟨(blk_cell h.2 0).trans rfl, (blk_cell h.2 1).trans rfl, (blk_cell h.2 2).trans rfl⟩
theorem SB.row (h : SB lo W g a A c L f) : Kd.C k58 W A L.length L ∧ L.length ≤ c := ⟨(Kd.S_reads' h.2.2).2.2, (Kd.S_reads' h.2.2).2.1⟩
theorem QB.row (h : QB lo W g a A c L f) : Kd.C k58 W A L.length L ∧ L.length ≤ c := ⟨(Kd.Q_reads' h.2.2).2.2, (Kd.Q_reads' h.2.2).2.1⟩
theorem RB.row (h : RB lo hi W A c b) : Kd.C (Kd.int .u8) W A b.length b ∧ b.length ≤ c := ⟨(Kd.R_reads' h.2).2.2, (Kd.R_reads' h.2).2.1⟩
end
/-! ### the law: what stands while it runs, with a row of bytes beside each source -/
def QG (lo : Nat) (W : World) (g : Nat) (a : Int) (A : Option Addr) (c : Nat) (L : List S58) (f : Int) (Au : Option Addr) (cu : Nat) (b : List Int) : Prop := QB lo W g a A c L f ∧ Kd.R (Kd.int .u8) 5 W lo (fun k => k < g) (.slice Au b.length cu) b
def GB (lo : Nat) (W : World) (g : Nat) (a : Int) (A : Option Addr) (c : Nat) (L : List S58) (f : Int) (Au : Option Addr) (cu : Nat) (b : List Int) : Prop := lo ≤ g ∧ W.heap[g]? = some (.cells #[.int .i64 a, .slice A L.length c, .int .i64 f] 24 (0, 0)) ∧ Kd.S k58 58 W lo (fun k => k < g ∧ some k ≠ (Value.slice Au b.length cu).ownBlock) (.slice A L.length c) L ∧ Kd.R (Kd.int .u8) 5 W lo (fun k => k < g) (.slice Au b.length cu) b
/-- pages marked, bytes as they were (nb many: the header's length) -/
def MG (lo : Nat) (W : World) (g : Nat) (a : Int) (A : Option Addr) (c n : Nat) (L : List S58) (f : Int) (Au : Option Addr) (cu nb : Nat) (b : List Int) : Prop := W.heap[g]? = some (.cells #[.int .i64 a, .slice A n c, .int .i64 f] 24 (0, 0)) ∧ Kd.S k58 58 W lo (fun k => some k ≠ (Value.slice Au nb cu).ownBlock) (.slice A n c) L ∧ Kd.R (Kd.int .u8) 5 W lo (fun _ => True) (.slice Au nb cu) b
section
variable {lo g c cu n nb : Nat} {w W W' : World} {a f : Int} {A Au : Option Addr} {L : List S58} {b : List Int} {P : Nat → Prop}
theorem QG.below (h : QG lo W g a A c L f Au cu b) (hb : Below W.heap.size W W') : QG lo W' g a A c L f Au cu b := ⟨h.1.below hb, Kd.R_below h.2 hb⟩
theorem QG.kept (h : QG lo W g a A c L f Au cu b) (hk : Kept W W' P) (hn : ∀ k, lo ≤ k → k ≤ g → ¬ P k) : QG lo W' g a A c L f Au cu b :=
  ⟨h.1.kept hk hn, Kd.R_mono (Kd.R_step (Kd.R_bound h.2) (fun k hk2 hlt => hk.2 k hlt (hn k hk2.2.1 (Nat.le_of_lt hk2.1)))) (fun _ hk2 => hk2.1)⟩
theorem QG.cells (h : QG lo W g a A c L f Au cu b) : W.cell? ⟨g, 0, none⟩ = some (.int .i64 a) ∧ W.cell? ⟨g, 1, none⟩ = some (.slice A L.length c) ∧ W.cell? ⟨g, 2, none⟩ = some (.int .i64 f) := h.1.cells
theorem QG.row (h : QG lo W g a A c L f Au cu b) : Kd.C k58 W A L.length L ∧ L.length ≤ c := h.1.row
theorem QG.bytes (h : QG lo W g a A c L f Au cu b) : Kd.C (Kd.int .u8) W Au b.length b ∧ b.length ≤ cu := ⟨(Kd.R_reads' h.2).2.2, (Kd.R_reads' h.2).2.1⟩
theorem QG.new {W : World} (h : Kd.Q k58 58 W lo (fun _ => True) (.slice A L.length c) L) (hr : Kd.R (Kd.int .u8) 5 W lo (fun _ => True) (.slice Au b.length cu) b) (hlo : lo ≤ W.heap.size) : QG lo (W.alloc (.cells #[.int .i64 a, .slice A L.length c, .int .i64 f] 24)) W.heap.size a A c L f Au cu b :=
  ⟨QB.new h hlo, Kd.R_alloc (Kd.R_mono (Kd.R_bound hr) (fun _ hk => hk.2.2.1)) _⟩
theorem GB.below (h : GB lo W g a A c L f Au cu b) (hb : Below W.heap.size W W') : GB lo W' g a A c L f Au cu b := ⟨h.1, (hb.block _ (blk_lt h.2.1)).trans h.2.1, Kd.S_below h.2.2.1 hb, Kd.R_below h.2.2.2 hb⟩
theorem GB.kept (h : GB lo W g a A c L f Au cu b) (hk : Kept W W' P) (hn : ∀ k, lo ≤ k → k ≤ g → ¬ P k) : GB lo W' g a A c L f Au cu b :=
  ⟨h.1, (hk.2 _ (blk_lt h.2.1) (hn _ h.1 (Nat.le_refl _))).trans h.2.1, Kd.S_mono (Kd.S_step (Kd.S_bound h.2.2.1) (fun k hk2 hlt => hk.2 k hlt (hn k hk2.2.1 (Nat.le_of_lt hk2.1.1)))) (fun _ hk2 => hk2.1),
    Kd.R_mono (Kd.R_step (Kd.R_bound h.2.2.2) (fun k hk2 hlt => hk.2 k hlt (hn k hk2.2.1 (Nat.le_of_lt hk2.1)))) (fun _ hk2 => hk2.1)⟩
theorem GB.new {W : World} (h : Kd.S k58 58 W lo (fun k => some k ≠ (Value.slice Au b.length cu).ownBlock) (.slice A L.length c) L) (hr : Kd.R (Kd.int .u8) 5 W lo (fun _ => True) (.slice Au b.length cu) b) (hlo : lo ≤ W.heap.size) : GB lo (W.alloc (.cells #[.int .i64 a, .slice A L.length c, .int .i64 f] 24)) W.heap.size a A c L f Au cu b :=
  ⟨hlo, heap_alloc_new W _, Kd.S_alloc (Kd.S_mono (Kd.S_bound h) (fun _ hk => ⟨hk.2.2.1, hk.1⟩)) _, Kd.R_alloc (Kd.R_mono (Kd.R_bound hr) (fun _ hk => hk.2.2.1)) _⟩
theorem GB.cells (h : GB lo W g a A c L f Au cu b) : W.cell? ⟨g, 0, none⟩ = some (.int .i64 a) ∧ W.cell? ⟨g, 1, none⟩ = some (.slice A L.length c) ∧ W.cell? ⟨g, 2, none⟩ = some (.int .i64 f) := ⟨(blk_cell h.2.1 0).trans rfl, (blk_cell h.2.1 1).trans rfl, (blk_cell h.2.1 2).trans rfl⟩
theorem GB.row (h : GB lo W g a A c L f Au cu b) : Kd.C k58 W A L.length L ∧ L.length ≤ c := ⟨(Kd.S_reads' h.2.2.1).2.2, (Kd.S_reads' h.2.2.1).2.1⟩
theorem GB.bytes (h : GB lo W g a A c L f Au cu b) : Kd.C (Kd.int .u8) W Au b.length b ∧ b.length ≤ cu := ⟨(Kd.R_reads' h.2.2.2).2.2, (Kd.R_reads' h.2.2.2).2.1⟩
/-- What is marked of the pages: all blocks but the bytes' own one. -/
def GP (lo N g : Nat) (u : Value) (k : Nat) : Prop := (lo ≤ k ∧ k < g ∧ some k ≠ u.ownBlock) ∨ N ≤ k
theorem GB.own (h : GB lo W g a A c L f Au cu b) (hl : w.heap.size ≤ lo) : Kd.S k58 58 W w.heap.size (GP lo W.heap.size g (.slice Au b.length cu)) (.slice A L.length c) L :=
  Kd.S_lower (Kd.S_mono (Kd.S_bound h.2.2.1) (fun k hk => .inl ⟨hk.2.1, hk.1.1, hk.1.2⟩)) hl
theorem GP_new {N k : Nat} {u : Value} (h : N ≤ k) : GP lo N g u k := .inr h
theorem GP_not {N k : Nat} {u : Value} (h : GP lo N g u k) : (lo ≤ k ∧ k < g) ∨ N ≤ k := h.imp (fun h => ⟨h.1, h.2.1⟩) id
/-- The pages have been marked. -/
theorem GB.marked {rM : List S58} (h : GB lo W g a A c L f Au cu b) (hl : w.heap.size ≤ lo) (hk : Kept W W' (GP lo W.heap.size g (.slice Au b.length cu))) (hS : Kd.S k58 58 W' w.heap.size (GP lo W.heap.size g (.slice Au b.length cu)) (.slice A L.length c) rM) : MG w.heap.size W' g a A c L.length rM f Au cu b.length b := by
  have hg := blk_lt h.2.1
  refine ⟨(hk.2 g hg (fun hp => by rcases GP_not hp with hp | hp <;> omega)).trans h.2.1, Kd.S_mono hS (fun k hk2 he => ?_), ?_⟩
  · have h1 := h.2.2.2.1 k he.symm
    rcases hk2 with hk2 | hk2
    · exact hk2.2.2 he
    · omega
  · refine Kd.R_lower (Kd.R_mono (Kd.R_step (Kd.R_tight (rfl : (Kd.int .u8).E = []) h.2.2.2) (fun k hk2 hlt => hk.2 k hlt (fun hp => ?_))) (fun _ _ => trivial)) hl
    have h1 := h.2.2.2.1 k hk2.symm
    rcases hp with hp | hp
    · exact hp.2.2 hk2
    · omega
theorem MG.below (h : MG lo W g a A c n L f Au cu nb b) (hb : Below W.heap.size W W') : MG lo W' g a A c n L f Au cu nb b := ⟨(hb.block _ (blk_lt h.1)).trans h.1, Kd.S_below h.2.1 hb, Kd.R_below h.2.2 hb⟩
theorem MG.cells (h : MG lo W g a A c n L f Au cu nb b) : W.cell? ⟨g, 0, none⟩ = some (.int .i64 a) ∧ W.cell? ⟨g, 1, none⟩ = some (.slice A n c) ∧ W.cell? ⟨g, 2, none⟩ = some (.int .i64 f) := ⟨(blk_cell h.1 0).trans rfl, (blk_cell h.1 1).trans rfl, (blk_cell h.1 2).trans rfl⟩
theorem MG.row (h : MG lo W g a A c n L f Au cu nb b) : Kd.C k58 W A L.length L ∧ n ≤ c := ⟨(Kd.S_reads' h.2.1).2.2, (Kd.S_reads' h.2.1).2.1⟩
theorem MG.bytes (h : MG lo W g a A c n L f Au cu nb b) : Kd.C (Kd.int .u8) W Au b.length b ∧ nb ≤ cu := ⟨(Kd.R_reads' h.2.2).2.2, (Kd.R_reads' h.2.2).2.1⟩
theorem MG.own (h : MG lo W g a A c n L f Au cu nb b) : Kd.R (Kd.int .u8) 5 W lo (fun k => some k = (Value.slice Au nb cu).ownBlock) (.slice Au nb cu) b := Kd.R_tight rfl h.2.2
/-- The bytes have been marked. -/
theorem MG.marked {bM : List Int} (h : MG lo W g a A c n L f Au cu nb b) (hk : Kept W W' (fun k => some k = (Value.slice Au nb cu).ownBlock)) (hR : Kd.R (Kd.int .u8) 5 W' lo (fun _ => True) (.slice Au nb cu) bM) : MG lo W' g a A c n L f Au cu nb bM :=
  ⟨(hk.2 g (blk_lt h.1) (fun hp => Kd.R_ne h.2.2 h.1 (by decide) hp)).trans h.1, Kd.S_step h.2.1 (fun k hk2 hlt => hk.2 k hlt hk2), hR⟩
end
set_option maxHeartbeats 8000000 in
set_option maxRecDepth 100000 in
theorem sr_walk (a f from_ tp r kx ky km kn rS rF : Int) (l : List S70) (L rL rM : List S58) (b rB bM : List Int) (A : Option Addr) (c : Nat) (B : Option Addr) (cb : Nat) (w : World)
    (hr0 : 0 ≤ r) (hky : 0 ≤ ky) (hkm : 0 ≤ km) (hkn : 0 ≤ kn) (hb : b.length ≤ 1048576) (hR : Kd.C k70 w A l.length l) (hC : l.length ≤ c) (hRB : Kd.C (Kd.int .u8) w B b.length b) (hCB : b.length ≤ cb)
    (h18 : ∀ w A c, Kd.C k70 w A l.length l → l.length ≤ c → Calls Try.prog 18 #[.agg #[.int .i64 a, .slice A l.length c, .int .i64 f], .int .i64 1048576] w fun e w' => e = .returned (.int .i64 r) ∧ Below w.heap.size w w')
    (h20 : ∀ w A c, Kd.C k70 w A l.length l → l.length ≤ c → Calls Try.prog 20 #[.agg #[.int .i64 a, .slice A l.length c, .int .i64 f]] w fun e w' => ∃ v, e = .returned (.agg #[.int .i64 a, v, .int .i64 f]) ∧ Kd.S k58 58 w' w.heap.size (fun _ => True) v L ∧ Below w.heap.size w w')
    (h22 : ∀ w B cb, Kd.C (Kd.int .u8) w B b.length b → b.length ≤ cb → Calls Try.prog 22 #[.slice B b.length cb] w fun e w' => ∃ v, e = .returned v ∧ Kd.R (Kd.int .u8) 5 w' w.heap.size (fun _ => True) v b ∧ Below w.heap.size w w')
    (h21 : ∀ w A c B cb, Kd.C k58 w A L.length L → L.length ≤ c → Kd.C (Kd.int .u8) w B b.length b → b.length ≤ cb → Calls Try.prog 25 #[.agg #[.int .i64 a, .slice A L.length c, .int .i64 f], .slice B b.length cb, .int .i64 from_, .int .i64 tp] w fun e w' => ∃ v u, e = .returned (.tuple #[.agg #[.int .i64 rS, v, .int .i64 rF], u]) ∧ Kd.Q k58 58 w' w.heap.size (fun _ => True) v rL ∧ Kd.R (Kd.int .u8) 5 w' w.heap.size (fun _ => True) u rB ∧ Below w.heap.size w w')
    (h17 : ∀ w A c B cb, Kd.C k58 w A L.length L → L.length ≤ c → Kd.C (Kd.int .u8) w B b.length b → b.length ≤ cb → Calls Try.prog 15 #[.agg #[.int .i64 a, .slice A L.length c, .int .i64 f], .slice B b.length cb, .int .i64 from_, .int .i64 tp] w fun e w' => ∃ v u, e = .returned (.tuple #[.agg #[.int .i64 rS, v, .int .i64 rF], u]) ∧ Kd.S k58 58 w' w.heap.size (fun k => some k ≠ u.ownBlock) v rL ∧ Kd.R (Kd.int .u8) 5 w' w.heap.size (fun _ => True) u rB ∧ Below w.heap.size w w')
    (h10x : ∀ w A c A' c', Kd.C k58 w A L.length L → L.length ≤ c → Kd.C k58 w A' L.length L → L.length ≤ c' → Calls Try.prog 10 #[.agg #[.int .i64 a, .slice A L.length c, .int .i64 f], .agg #[.int .i64 a, .slice A' L.length c', .int .i64 f]] w fun e w' => e = .returned (.bool true) ∧ Below w.heap.size w w')
    (h10r : ∀ w A c A' c', Kd.C k58 w A rL.length rL → rL.length ≤ c → Kd.C k58 w A' rL.length rL → rL.length ≤ c' → Calls Try.prog 10 #[.agg #[.int .i64 rS, .slice A rL.length c, .int .i64 rF], .agg #[.int .i64 rS, .slice A' rL.length c', .int .i64 rF]] w fun e w' => e = .returned (.bool true) ∧ Below w.heap.size w w')
    (h23 : ∀ w A c A' c', Kd.C (Kd.int .u8) w A b.length b → b.length ≤ c → Kd.C (Kd.int .u8) w A' b.length b → b.length ≤ c' → Calls Try.prog 23 #[.slice A b.length c, .slice A' b.length c'] w fun e w' => e = .returned (.bool true) ∧ Below w.heap.size w w')
    (h23r : ∀ w A c A' c', Kd.C (Kd.int .u8) w A rB.length rB → rB.length ≤ c → Kd.C (Kd.int .u8) w A' rB.length rB → rB.length ≤ c' → Calls Try.prog 23 #[.slice A rB.length c, .slice A' rB.length c'] w fun e w' => e = .returned (.bool true) ∧ Below w.heap.size w w')
    (h24r : ∀ ok A c w0 w, Below w0.heap.size w0 w → Kd.R (Kd.int .u8) 5 w w0.heap.size ok (.slice A rB.length c) rB → Calls Try.prog 24 #[.slice A rB.length c, .int .i64 km] w fun e w' => e = .returned (.int .i64 kn) ∧ Kd.R (Kd.int .u8) 5 w' w0.heap.size (fun _ => True) (.slice A rB.length c) bM ∧ Below w0.heap.size w0 w' ∧ Kept w w' ok)
    (h26 : ∀ w A c, Kd.C (Kd.int .u8) w A bM.length bM → rB.length ≤ c → Calls Try.prog 26 #[.slice A rB.length c, .int .i64 km] w fun e w' => e = .returned (.int .i64 kn) ∧ Below w.heap.size w w')
    (h11x : ∀ ok A c w0 w, Below w0.heap.size w0 w → Kd.S k58 58 w w0.heap.size ok (.slice A L.length c) L → (∀ k, w.heap.size ≤ k → ok k) → Calls Try.prog 11 #[.agg #[.int .i64 a, .slice A L.length c, .int .i64 f], .int .i64 1] w fun e w' => e = .returned (.int .i64 kx) ∧ Below w0.heap.size w0 w' ∧ Kept w w' ok)
    (h24 : ∀ ok A c w0 w, Below w0.heap.size w0 w → Kd.R (Kd.int .u8) 5 w w0.heap.size ok (.slice A b.length c) b → Calls Try.prog 24 #[.slice A b.length c, .int .i64 kx] w fun e w' => e = .returned (.int .i64 ky) ∧ Below w0.heap.size w0 w' ∧ Kept w w' ok)
    (h11r : ∀ ok A c w0 w, Below w0.heap.size w0 w → Kd.S k58 58 w w0.heap.size ok (.slice A rL.length c) rL → (∀ k, w.heap.size ≤ k → ok k) → Calls Try.prog 11 #[.agg #[.int .i64 rS, .slice A rL.length c, .int .i64 rF], .int .i64 1] w fun e w' => e = .returned (.int .i64 km) ∧ Kd.S k58 58 w' w0.heap.size ok (.slice A rL.length c) rM ∧ Below w0.heap.size w0 w' ∧ Kept w w' ok)
    (h12 : ∀ w A c, Kd.C k58 w A rM.length rM → rL.length ≤ c → Calls Try.prog 12 #[.agg #[.int .i64 rS, .slice A rL.length c, .int .i64 rF], .int .i64 1] w fun e w' => e = .returned (.int .i64 km) ∧ Below w.heap.size w w') :
    Calls Try.prog 7 #[.agg #[.int .i64 a, .slice A l.length c, .int .i64 f], .slice B b.length cb, .int .i64 from_, .int .i64 tp] w fun e w' => e = .returned (.bool true) ∧ Below w.heap.size w w' := by
  have hu := Try.underlying24
  have hu2 := Try.underlying41
  have b1 : decide ((1048576 : Int) < (b.length : Int)) = false := decide_eq_false (by omega)
  have b1' : decide (1048576 < b.length) = false := decide_eq_false (by omega)
  have b2 : decide (r < 0) = false := decide_eq_false (by omega)
  have b3 : decide (ky < 0) = false := decide_eq_false (by omega)
  have b4 : decide (km < 0) = false := decide_eq_false (by omega)
  have b5 : decide (kn < 0) = false := decide_eq_false (by omega)
  have HR := Aside0.mk hR
  have HC := Aside0.mk hC
  have HRB := Aside0.mk hRB
  have HCB := Aside0.mk hCB
  clear hR hC hRB hCB hr0 hky hkm hkn hb
  have HP := Aside0.mk (show LB w (w.alloc (.cells #[.int .i64 a, .slice A l.length c, .int .i64 f] 41)) a f A c l.length from ⟨below_alloc (Below.refl _ _) _, heap_alloc_new w _⟩)
  go_enter Try.func7, Try.ntmps7
  go_upto_region 1 with fail
  generalize w.alloc (.cells #[.int .i64 a, .slice A l.length c, .int .i64 f] 41) = W0 at HP ⊢
  obtain ⟨p0, p1, p2⟩ := HP.out.cells
  go_upto_region 7 with (go_at_call 18; (with_reducible refine (h18 _ A c (Kd.C_below HR.out HP.out.bel) HC.out).mono ?_); rintro e w1 ⟨rfl, hb1⟩; have n_ := Aside0.mk (HP.out.below hb1); clear HP; have HP := n_; clear n_; clear hb1)
  clear p0 p1 p2
  obtain ⟨p0, p1, p2⟩ := HP.out.cells
  go_upto_region 8 with (first | (go_at_call 20; (with_reducible refine (h20 _ A c (Kd.C_below HR.out HP.out.bel) HC.out).mono ?_); rintro e w1 ⟨v1, rfl, hS1, hb1⟩; obtain ⟨A1, c1, e1⟩ := Kd.S_slice hS1; subst e1; have n_ := Aside0.mk (HP.out.below hb1); clear HP; have HP := n_; clear n_; have HV := Aside0.mk hS1; have HVL := Aside0.mk hb1.size; clear hb1 hS1) | (go_at_call 22; (with_reducible refine (h22 _ B cb (Kd.C_below HRB.out HP.out.bel) HCB.out).mono ?_); rintro e w2 ⟨v2, rfl, hR2, hb2⟩; obtain ⟨A2, c2, e2⟩ := Kd.R_slice hR2; subst e2; have n_ := Aside0.mk (HP.out.below hb2); clear HP; have HP := n_; clear n_; have n_ := Aside0.mk (Kd.S_below HV.out hb2); clear HV; have HV := n_; clear n_; have HU := Aside0.mk hR2; have HUL := Aside0.mk hb2.size; clear hb2 hR2) | (go_at_call 25; (with_reducible refine (h21 _ A1 c1 A2 c2 (Kd.S_reads' HV.out).2.2 (Kd.S_reads' HV.out).2.1 (Kd.R_reads' HU.out).2.2 (Kd.R_reads' HU.out).2.1).mono ?_); rintro e w3 ⟨v3, u3, rfl, hS3, hR3, hb3⟩; obtain ⟨A8, c8, e3, _⟩ := Kd.Q_slice hS3; subst e3; obtain ⟨U8, q8, e4⟩ := Kd.R_slice hR3; subst e4; have n_ := Aside0.mk (HP.out.below hb3); clear HP; have HP := n_; clear n_; have HT := Aside0.mk hS3; have HTR := Aside0.mk hR3; have HTL := Aside0.mk hb3.size; clear hb3 hS3 hR3))
  clear p0 p1 p2 HV HU HVL HUL
  have H8 := Aside0.mk (QG.new (a := rS) (f := rF) HT.out HTR.out HTL.out)
  clear HTR
  have n_ := Aside0.mk (HP.out.below (below_alloc (Below.refl _ _) (.cells #[.int .i64 rS, .slice A8 rL.length c8, .int .i64 rF] 24)))
  clear HP
  have HP := n_
  clear n_
  clear HT HTL
  generalize w3.alloc (.cells #[.int .i64 rS, .slice A8 rL.length c8, .int .i64 rF] 24) = W4 at HP H8 ⊢
  generalize w3.heap.size = g8 at H8 ⊢
  generalize w2.heap.size = QLO at H8
  have HN8 := Aside0.mk (show g8 < W4.heap.size ∧ w.heap.size < W4.heap.size from ⟨blk_lt H8.out.1.2.1, blk_lt HP.out.2⟩)
  obtain ⟨p0, p1, p2⟩ := HP.out.cells
  go_upto_region 9 with (go_at_call 20; (with_reducible refine (h20 _ A c (Kd.C_below HR.out HP.out.bel) HC.out).mono ?_); rintro e w1 ⟨v1, rfl, hS1, hb1⟩; obtain ⟨A10, c10, e1⟩ := Kd.S_slice hS1; subst e1; have n_ := Aside0.mk (HP.out.below hb1); clear HP; have HP := n_; clear n_; have n_ := Aside0.mk (H8.out.below hb1); clear H8; have H8 := n_; clear n_; have HT := Aside0.mk hS1; have HTL := Aside0.mk hb1.size; clear hb1 hS1)
  clear p0 p1 p2
  have H10 := Aside0.mk (SB.new (a := a) (f := f) HT.out HTL.out)
  have n_ := Aside0.mk (HP.out.below (below_alloc (Below.refl _ _) (.cells #[.int .i64 a, .slice A10 L.length c10, .int .i64 f] 24)))
  clear HP
  have HP := n_
  clear n_
  have n_ := Aside0.mk (H8.out.below (below_alloc (Below.refl _ _) (.cells #[.int .i64 a, .slice A10 L.length c10, .int .i64 f] 24)))
  clear H8
  have H8 := n_
  clear n_
  clear HT HTL
  generalize w1.alloc (.cells #[.int .i64 a, .slice A10 L.length c10, .int .i64 f] 24) = W5 at HP H8 H10 ⊢
  generalize w1.heap.size = g10 at H10 ⊢
  have HN10 := Aside0.mk (show g10 < W5.heap.size from blk_lt H10.out.2.1)
  go_upto_region 10 with (go_at_call 22; (with_reducible refine (h22 _ B cb (Kd.C_below HRB.out HP.out.bel) HCB.out).mono ?_); rintro e w2 ⟨v2, rfl, hR2, hb2⟩; obtain ⟨A11, c11, e2⟩ := Kd.R_slice hR2; subst e2; have n_ := Aside0.mk (HP.out.below hb2); clear HP; have HP := n_; clear n_; have n_ := Aside0.mk (H8.out.below hb2); clear H8; have H8 := n_; clear n_; have n_ := Aside0.mk (H10.out.below hb2); clear H10; have H10 := n_; clear n_; have HT := Aside0.mk hR2; have HTL := Aside0.mk hb2.size; clear hb2 hR2)
  have H11 := Aside0.mk (RB.new HT.out)
  have HN11 := HTL
  clear HT HTL
  generalize w2 = W6 at HP H8 H10 H11 HN11 ⊢
  obtain ⟨x0, x1, x2⟩ := H10.out.cells
  go_upto_region 11 with (go_at_call 15; (with_reducible refine (h17 _ A10 c10 A11 c11 H10.out.row.1 H10.out.row.2 H11.out.row.1 H11.out.row.2).mono ?_); rintro e w3 ⟨v3, u3, rfl, hS3, hR3, hb3⟩; obtain ⟨A12, c12, e3⟩ := Kd.S_slice hS3; subst e3; obtain ⟨U12, q12, e4⟩ := Kd.R_slice hR3; subst e4; have n_ := Aside0.mk (HP.out.below hb3); clear HP; have HP := n_; clear n_; have n_ := Aside0.mk (H8.out.below hb3); clear H8; have H8 := n_; clear n_; have n_ := Aside0.mk (H10.out.below hb3); clear H10; have H10 := n_; clear n_; have n_ := Aside0.mk (H11.out.below hb3); clear H11; have H11 := n_; clear n_; have HT := Aside0.mk hS3; have HTR := Aside0.mk hR3; have HTL := Aside0.mk hb3.size; clear hb3 hS3 hR3)
  clear x0 x1 x2
  have H12 := Aside0.mk (GB.new (a := rS) (f := rF) HT.out HTR.out HTL.out)
  clear HTR
  have n_ := Aside0.mk (HP.out.below (below_alloc (Below.refl _ _) (.cells #[.int .i64 rS, .slice A12 rL.length c12, .int .i64 rF] 24)))
  clear HP
  have HP := n_
  clear n_
  have n_ := Aside0.mk (H8.out.below (below_alloc (Below.refl _ _) (.cells #[.int .i64 rS, .slice A12 rL.length c12, .int .i64 rF] 24)))
  clear H8
  have H8 := n_
  clear n_
  have n_ := Aside0.mk (H10.out.below (below_alloc (Below.refl _ _) (.cells #[.int .i64 rS, .slice A12 rL.length c12, .int .i64 rF] 24)))
  clear H10
  have H10 := n_
  clear n_
  have n_ := Aside0.mk (H11.out.below (below_alloc (Below.refl _ _) (.cells #[.int .i64 rS, .slice A12 rL.length c12, .int .i64 rF] 24)))
  clear H11
  have H11 := n_
  clear n_
  clear HT HTL
  generalize w3.alloc (.cells #[.int .i64 rS, .slice A12 rL.length c12, .int .i64 rF] 24) = W7 at HP H8 H10 H11 H12 ⊢
  generalize w3.heap.size = g12 at H12 ⊢
  obtain ⟨y0, y1, y2⟩ := H12.out.cells
  obtain ⟨z0, z1, z2⟩ := H8.out.cells
  go_upto_region 13 with (first | (go_at_call 10; (with_reducible refine (h10r _ A12 c12 A8 c8 H12.out.row.1 H12.out.row.2 H8.out.row.1 H8.out.row.2).mono ?_); rintro e w5 ⟨rfl, hb5⟩; have n_ := Aside0.mk (HP.out.below hb5); clear HP; have HP := n_; clear n_; have n_ := Aside0.mk (H8.out.below hb5); clear H8; have H8 := n_; clear n_; have n_ := Aside0.mk (H10.out.below hb5); clear H10; have H10 := n_; clear n_; have n_ := Aside0.mk (H11.out.below hb5); clear H11; have H11 := n_; clear n_; have n_ := Aside0.mk (H12.out.below hb5); clear H12; have H12 := n_; clear n_; clear hb5) | (go_at_call 23; (with_reducible refine (h23r _ U12 q12 U8 q8 H12.out.bytes.1 H12.out.bytes.2 H8.out.bytes.1 H8.out.bytes.2).mono ?_); rintro e w5 ⟨rfl, hb5⟩; have n_ := Aside0.mk (HP.out.below hb5); clear HP; have HP := n_; clear n_; have n_ := Aside0.mk (H8.out.below hb5); clear H8; have H8 := n_; clear n_; have n_ := Aside0.mk (H10.out.below hb5); clear H10; have H10 := n_; clear n_; have n_ := Aside0.mk (H11.out.below hb5); clear H11; have H11 := n_; clear n_; have n_ := Aside0.mk (H12.out.below hb5); clear H12; have H12 := n_; clear n_; clear hb5))
  clear y0 y1 y2 z0 z1 z2
  generalize w5 = W8 at HP H8 H10 H11 H12 ⊢
  obtain ⟨x0, x1, x2⟩ := H10.out.cells
  obtain ⟨p0, p1, p2⟩ := HP.out.cells
  go_cut [65] (fun v60 wc => v60 = .bool false ∧ Aside0 (LB w wc a f A c l.length) ∧ Aside0 (QG QLO wc g8 rS A8 c8 rL rF U8 q8 rB) ∧ Aside0 (SB W4.heap.size wc g10 a A10 c10 L f) ∧ Aside0 (RB W5.heap.size W6.heap.size wc A11 c11 b) ∧ Aside0 (GB W6.heap.size wc g12 rS A12 c12 rL rF U12 q12 rB))
  case first =>
    have n_ := Aside0.mk (HP.out.below (show Below W8.heap.size W8 W8.drew from below_drew (Below.refl _ _)))
    clear HP
    have HP := n_
    clear n_
    have n_ := Aside0.mk (H8.out.below (show Below W8.heap.size W8 W8.drew from below_drew (Below.refl _ _)))
    clear H8
    have H8 := n_
    clear n_
    have n_ := Aside0.mk (H10.out.below (show Below W8.heap.size W8 W8.drew from below_drew (Below.refl _ _)))
    clear H10
    have H10 := n_
    clear n_
    have n_ := Aside0.mk (H11.out.below (show Below W8.heap.size W8 W8.drew from below_drew (Below.refl _ _)))
    clear H11
    have H11 := n_
    clear n_
    have n_ := Aside0.mk (H12.out.below (show Below W8.heap.size W8 W8.drew from below_drew (Below.refl _ _)))
    clear H12
    have H12 := n_
    clear n_
    go_region_law (first | fail | (go_simp; (go_at_call 20; (with_reducible refine (h20 _ A c (Kd.C_below HR.out HP.out.bel) HC.out).mono ?_); rintro e w1 ⟨v1, rfl, hS1, hb1⟩; obtain ⟨A20, c20, e1⟩ := Kd.S_slice hS1; subst e1; have n_ := Aside0.mk (HP.out.below hb1); clear HP; have HP := n_; clear n_; have n_ := Aside0.mk (H8.out.below hb1); clear H8; have H8 := n_; clear n_; have n_ := Aside0.mk (H10.out.below hb1); clear H10; have H10 := n_; clear n_; have n_ := Aside0.mk (H11.out.below hb1); clear H11; have H11 := n_; clear n_; have n_ := Aside0.mk (H12.out.below hb1); clear H12; have H12 := n_; clear n_; have HV := Aside0.mk hS1; have HVL := Aside0.mk hb1.size; clear hb1 hS1; obtain ⟨m0, m1, m2⟩ := H10.out.cells)) | (go_simp; (go_at_call 10; (with_reducible refine (h10x _ A10 c10 A20 c20 H10.out.row.1 H10.out.row.2 (Kd.S_reads' HV.out).2.2 (Kd.S_reads' HV.out).2.1).mono ?_); rintro e w5 ⟨rfl, hb5⟩; have n_ := Aside0.mk (HP.out.below hb5); clear HP; have HP := n_; clear n_; have n_ := Aside0.mk (H8.out.below hb5); clear H8; have H8 := n_; clear n_; have n_ := Aside0.mk (H10.out.below hb5); clear H10; have H10 := n_; clear n_; have n_ := Aside0.mk (H11.out.below hb5); clear H11; have H11 := n_; clear n_; have n_ := Aside0.mk (H12.out.below hb5); clear H12; have H12 := n_; clear n_; clear hb5)))
    all_goals (go_wp2; go_meet; case rel => exact ⟨rfl, HP, H8, H10, H11, H12⟩)
  case rest =>
    clear HP H8 H10 H11 H12 x0 x1 x2 p0 p1 p2
    obtain ⟨rfl, HP, H8, H10, H11, H12⟩ := hcut
    go_upto_region 18 with (first | (go_at_call 22; (with_reducible refine (h22 _ B cb (Kd.C_below HRB.out HP.out.bel) HCB.out).mono ?_); rintro e w2 ⟨v2, rfl, hR2, hb2⟩; obtain ⟨A21, c21, e2⟩ := Kd.R_slice hR2; subst e2; have n_ := Aside0.mk (HP.out.below hb2); clear HP; have HP := n_; clear n_; have n_ := Aside0.mk (H8.out.below hb2); clear H8; have H8 := n_; clear n_; have n_ := Aside0.mk (H10.out.below hb2); clear H10; have H10 := n_; clear n_; have n_ := Aside0.mk (H11.out.below hb2); clear H11; have H11 := n_; clear n_; have n_ := Aside0.mk (H12.out.below hb2); clear H12; have H12 := n_; clear n_; have HU := Aside0.mk hR2; have HUL := Aside0.mk hb2.size; clear hb2 hR2) | (go_at_call 23; (with_reducible refine (h23 _ A11 c11 A21 c21 H11.out.row.1 H11.out.row.2 (Kd.R_reads' HU.out).2.2 (Kd.R_reads' HU.out).2.1).mono ?_); rintro e w5 ⟨rfl, hb5⟩; have n_ := Aside0.mk (HP.out.below hb5); clear HP; have HP := n_; clear n_; have n_ := Aside0.mk (H8.out.below hb5); clear H8; have H8 := n_; clear n_; have n_ := Aside0.mk (H10.out.below hb5); clear H10; have H10 := n_; clear n_; have n_ := Aside0.mk (H11.out.below hb5); clear H11; have H11 := n_; clear n_; have n_ := Aside0.mk (H12.out.below hb5); clear H12; have H12 := n_; clear n_; clear hb5))
    clear HU HUL
    generalize w5 = W9 at HP H8 H10 H11 H12 ⊢
    obtain ⟨x0, x1, x2⟩ := H10.out.cells
    have HNN := Aside0.mk (show w.heap.size < W4.heap.size ∧ g8 < W4.heap.size ∧ W4.heap.size ≤ g10 ∧ g10 < W5.heap.size ∧ W5.heap.size ≤ W6.heap.size ∧ W6.heap.size ≤ g12 ∧ g12 < W9.heap.size from ⟨HN8.out.2, HN8.out.1, H10.out.1, HN10.out, HN11.out, H12.out.1, blk_lt H12.out.2.1⟩)
    have HOX := Aside0.mk (H10.out.own (w := w) (Nat.le_of_lt HNN.out.1))
    go_upto_region 19 with (go_at_call 11; (with_reducible refine (h11x (fun k => W4.heap.size ≤ k ∧ k < g10 ∨ W9.heap.size ≤ k) A10 c10 w W9 HP.out.bel HOX.out (fun k hk => .inr hk)).mono ?_); rintro e w6 ⟨rfl, hb6, hk6⟩; have n_ := Aside0.mk (HP.out.kept hb6 hk6 (fun h3 => by have := HNN.out; rcases h3 with h3 | h3 <;> omega)); clear HP; have HP := n_; clear n_; have n_ := Aside0.mk (H8.out.kept hk6 (fun k h1 h2 h3 => by have := HNN.out; rcases h3 with h3 | h3 <;> omega)); clear H8; have H8 := n_; clear n_; have n_ := Aside0.mk (H11.out.kept hk6 (fun k h1 h2 h3 => by have := HNN.out; rcases h3 with h3 | h3 <;> omega)); clear H11; have H11 := n_; clear n_; have n_ := Aside0.mk (H12.out.kept hk6 (fun k h1 h2 h3 => by have := HNN.out; rcases h3 with h3 | h3 <;> omega)); clear H12; have H12 := n_; clear n_; clear hb6 hk6)
    clear x0 x1 x2 H10 HOX
    generalize w6 = W10 at HP H8 H11 H12 ⊢
    have HOX := Aside0.mk (H11.out.own (w := w) (by have := HNN.out; omega))
    go_upto_region 20 with (go_at_call 24; (with_reducible refine (h24 (fun k => W5.heap.size ≤ k ∧ k < W6.heap.size) A11 c11 w W10 HP.out.bel HOX.out).mono ?_); rintro e w6 ⟨rfl, hb6, hk6⟩; have n_ := Aside0.mk (HP.out.kept hb6 hk6 (fun h3 => by have := HNN.out; omega)); clear HP; have HP := n_; clear n_; have n_ := Aside0.mk (H8.out.kept hk6 (fun k h1 h2 h3 => by have := HNN.out; omega)); clear H8; have H8 := n_; clear n_; have n_ := Aside0.mk (H12.out.kept hk6 (fun k h1 h2 h3 => by have := HNN.out; omega)); clear H12; have H12 := n_; clear n_; clear hb6 hk6)
    clear H11 HOX
    generalize w6 = W11 at HP H8 H12 ⊢
    obtain ⟨y0, y1, y2⟩ := H12.out.cells
    obtain ⟨z0, z1, z2⟩ := H8.out.cells
    go_upto_region 23 with (first | (go_at_call 10; (with_reducible refine (h10r _ A12 c12 A8 c8 H12.out.row.1 H12.out.row.2 H8.out.row.1 H8.out.row.2).mono ?_); rintro e w5 ⟨rfl, hb5⟩; have n_ := Aside0.mk (HP.out.below hb5); clear HP; have HP := n_; clear n_; have n_ := Aside0.mk (H8.out.below hb5); clear H8; have H8 := n_; clear n_; have n_ := Aside0.mk (H12.out.below hb5); clear H12; have H12 := n_; clear n_; clear hb5) | (go_at_call 23; (with_reducible refine (h23r _ U12 q12 U8 q8 H12.out.bytes.1 H12.out.bytes.2 H8.out.bytes.1 H8.out.bytes.2).mono ?_); rintro e w5 ⟨rfl, hb5⟩; have n_ := Aside0.mk (HP.out.below hb5); clear HP; have HP := n_; clear n_; have n_ := Aside0.mk (H8.out.below hb5); clear H8; have H8 := n_; clear n_; have n_ := Aside0.mk (H12.out.below hb5); clear H12; have H12 := n_; clear n_; clear hb5))
    clear y0 y1 y2 z0 z1 z2
    generalize w5 = W12 at HP H8 H12 ⊢
    obtain ⟨y0, y1, y2⟩ := H12.out.cells
    have HU12 := Aside0.mk (show ∀ k, some k = (Value.slice U12 rB.length q12).ownBlock → W6.heap.size ≤ k ∧ k < g12 from fun k hk => ⟨Kd.R_base H12.out.2.2.2 k hk.symm, H12.out.2.2.2.1 k hk.symm⟩)
    have HNK := Aside0.mk (show g12 < W12.heap.size ∧ w.heap.size < W12.heap.size from ⟨blk_lt H12.out.2.1, blk_lt HP.out.2⟩)
    have HOX := Aside0.mk (H12.out.own (w := w) (by have := HNN.out; omega))
    go_upto_region 24 with (go_at_call 11; (with_reducible refine (h11r (GP W6.heap.size W12.heap.size g12 (.slice U12 rB.length q12)) A12 c12 w W12 HP.out.bel HOX.out (fun k hk => GP_new hk)).mono ?_); rintro e w6 ⟨rfl, hS6, hb6, hk6⟩; have n_ := Aside0.mk (HP.out.kept hb6 hk6 (fun h3 => by have := HNN.out; have := HNK.out; rcases GP_not h3 with h3 | h3 <;> omega)); clear HP; have HP := n_; clear n_; have n_ := Aside0.mk (H8.out.kept hk6 (fun k h1 h2 h3 => by have := HNN.out; have := HNK.out; rcases GP_not h3 with h3 | h3 <;> omega)); clear H8; have H8 := n_; clear n_; have HM := Aside0.mk (H12.out.marked (w := w) (by have := HNN.out; omega) hk6 hS6); clear hS6 hb6 hk6)
    clear y0 y1 y2 H12 HOX
    generalize w6 = W13 at HP H8 HM ⊢
    have HOX := Aside0.mk HM.out.own
    have HOB := Aside0.mk (Kd.R_base HM.out.2.2)
    have HOT := Aside0.mk (Kd.R_typed HM.out.2.2)
    have HUN := Aside0.mk (fun (k : Nat) (h : some k = (Value.slice U12 rB.length q12).ownBlock) => HU12.out k h)
    go_upto_region 26 with (go_at_call 24; (with_reducible refine (h24r (fun k => some k = (Value.slice U12 rB.length q12).ownBlock) U12 q12 w W13 HP.out.bel HOX.out).mono ?_); rintro e w6 ⟨rfl, hR6, hb6, hk6⟩; have n_ := Aside0.mk (HP.out.kept hb6 hk6 (fun h3 => by have h4 := HUN.out _ h3; have := HNN.out; omega)); clear HP; have HP := n_; clear n_; have n_ := Aside0.mk (H8.out.kept hk6 (fun k h1 h2 h3 => by have h4 := HUN.out k h3; have := HNN.out; omega)); clear H8; have H8 := n_; clear n_; have HM2 := Aside0.mk (HM.out.marked hk6 hR6); clear HM; have HM := HM2; clear HM2; clear hR6 hb6 hk6)
    clear HOX HOB HOT HUN HNN HNK HU12
    generalize w6 = W14 at HP H8 HM ⊢
    obtain ⟨y0, y1, y2⟩ := HM.out.cells
    go_upto_region 29 with (go_at_call 12; (with_reducible refine (h12 _ A12 c12 HM.out.row.1 HM.out.row.2).mono ?_); rintro e w5 ⟨rfl, hb5⟩; have n_ := Aside0.mk (HP.out.below hb5); clear HP; have HP := n_; clear n_; have n_ := Aside0.mk (H8.out.below hb5); clear H8; have H8 := n_; clear n_; have n_ := Aside0.mk (HM.out.below hb5); clear HM; have HM := n_; clear n_; clear hb5)
    clear y0 y1 y2
    generalize w5 = W15 at HP H8 HM ⊢
    go_upto_region 34 with (go_at_call 26; (with_reducible refine (h26 _ U12 q12 HM.out.bytes.1 HM.out.bytes.2).mono ?_); rintro e w5 ⟨rfl, hb5⟩; have n_ := Aside0.mk (HP.out.below hb5); clear HP; have HP := n_; clear n_; have n_ := Aside0.mk (H8.out.below hb5); clear H8; have H8 := n_; clear n_; have n_ := Aside0.mk (HM.out.below hb5); clear HM; have HM := n_; clear n_; clear hb5)
    generalize w5 = W16 at HP H8 HM ⊢
    obtain ⟨p0, p1, p2⟩ := HP.out.cells
    go_upto_region 35 with (first | (go_at_call 20; (with_reducible refine (h20 _ A c (Kd.C_below HR.out HP.out.bel) HC.out).mono ?_); rintro e w1 ⟨v1, rfl, hS1, hb1⟩; obtain ⟨A31, c31, e1⟩ := Kd.S_slice hS1; subst e1; have n_ := Aside0.mk (HP.out.below hb1); clear HP; have HP := n_; clear n_; have n_ := Aside0.mk (H8.out.below hb1); clear H8; have H8 := n_; clear n_; have n_ := Aside0.mk (HM.out.below hb1); clear HM; have HM := n_; clear n_; have HV := Aside0.mk hS1; have HVL := Aside0.mk hb1.size; clear hb1 hS1) | (go_at_call 22; (with_reducible refine (h22 _ B cb (Kd.C_below HRB.out HP.out.bel) HCB.out).mono ?_); rintro e w2 ⟨v2, rfl, hR2, hb2⟩; obtain ⟨A32, c32, e2⟩ := Kd.R_slice hR2; subst e2; have n_ := Aside0.mk (HP.out.below hb2); clear HP; have HP := n_; clear n_; have n_ := Aside0.mk (H8.out.below hb2); clear H8; have H8 := n_; clear n_; have n_ := Aside0.mk (HM.out.below hb2); clear HM; have HM := n_; clear n_; have n_ := Aside0.mk (Kd.S_below HV.out hb2); clear HV; have HV := n_; clear n_; have HU := Aside0.mk hR2; have HUL := Aside0.mk hb2.size; clear hb2 hR2) | (go_at_call 15; (with_reducible refine (h17 _ A31 c31 A32 c32 (Kd.S_reads' HV.out).2.2 (Kd.S_reads' HV.out).2.1 (Kd.R_reads' HU.out).2.2 (Kd.R_reads' HU.out).2.1).mono ?_); rintro e w3 ⟨v3, u3, rfl, hS3, hR3, hb3⟩; obtain ⟨A17, c17, e3⟩ := Kd.S_slice hS3; subst e3; obtain ⟨U17, q17, e4⟩ := Kd.R_slice hR3; subst e4; have n_ := Aside0.mk (HP.out.below hb3); clear HP; have HP := n_; clear n_; have n_ := Aside0.mk (H8.out.below hb3); clear H8; have H8 := n_; clear n_; have n_ := Aside0.mk (HM.out.below hb3); clear HM; have HM := n_; clear n_; have HT := Aside0.mk hS3; have HTR := Aside0.mk hR3; have HTL := Aside0.mk hb3.size; clear hb3 hS3 hR3))
    clear p0 p1 p2 HV HU HVL HUL
    have H17 := Aside0.mk (SB.new (a := rS) (f := rF) (Kd.S_mono HT.out (fun _ _ => trivial)) HTL.out)
    have UH17 := Aside0.mk (Kd.R_alloc HTR.out (.cells #[.int .i64 rS, .slice A17 rL.length c17, .int .i64 rF] 24))
    clear HTR
    have n_ := Aside0.mk (HP.out.below (below_alloc (Below.refl _ _) (.cells #[.int .i64 rS, .slice A17 rL.length c17, .int .i64 rF] 24)))
    clear HP
    have HP := n_
    clear n_
    have n_ := Aside0.mk (H8.out.below (below_alloc (Below.refl _ _) (.cells #[.int .i64 rS, .slice A17 rL.length c17, .int .i64 rF] 24)))
    clear H8
    have H8 := n_
    clear n_
    have n_ := Aside0.mk (HM.out.below (below_alloc (Below.refl _ _) (.cells #[.int .i64 rS, .slice A17 rL.length c17, .int .i64 rF] 24)))
    clear HM
    have HM := n_
    clear n_
    clear HT HTL
    generalize w3.alloc (.cells #[.int .i64 rS, .slice A17 rL.length c17, .int .i64 rF] 24) = W17 at HP H8 HM H17 UH17 ⊢
    generalize w3.heap.size = g17 at H17 ⊢
    obtain ⟨y0, y1, y2⟩ := H17.out.cells
    obtain ⟨z0, z1, z2⟩ := H8.out.cells
    go_upto_region 38 with (first | (go_at_call 10; (with_reducible refine (h10r _ A17 c17 A8 c8 H17.out.row.1 H17.out.row.2 H8.out.row.1 H8.out.row.2).mono ?_); rintro e w5 ⟨rfl, hb5⟩; have n_ := Aside0.mk (HP.out.below hb5); clear HP; have HP := n_; clear n_; have n_ := Aside0.mk (H8.out.below hb5); clear H8; have H8 := n_; clear n_; have n_ := Aside0.mk (HM.out.below hb5); clear HM; have HM := n_; clear n_; have n_ := Aside0.mk (H17.out.below hb5); clear H17; have H17 := n_; clear n_; have n_ := Aside0.mk (Kd.R_below UH17.out hb5); clear UH17; have UH17 := n_; clear n_; clear hb5) | (go_at_call 23; (with_reducible refine (h23r _ U17 q17 U8 q8 (Kd.R_reads' UH17.out).2.2 (Kd.R_reads' UH17.out).2.1 H8.out.bytes.1 H8.out.bytes.2).mono ?_); rintro e w5 ⟨rfl, hb5⟩; have n_ := Aside0.mk (HP.out.below hb5); clear HP; have HP := n_; clear n_; have n_ := Aside0.mk (H8.out.below hb5); clear H8; have H8 := n_; clear n_; have n_ := Aside0.mk (HM.out.below hb5); clear HM; have HM := n_; clear n_; have n_ := Aside0.mk (H17.out.below hb5); clear H17; have H17 := n_; clear n_; clear hb5))
    clear y0 y1 y2 z0 z1 z2 H17 H8 UH17
    generalize w5 = W18 at HP HM ⊢
    obtain ⟨y0, y1, y2⟩ := HM.out.cells
    go_upto_region 41 with (go_at_call 12; (with_reducible refine (h12 _ A12 c12 HM.out.row.1 HM.out.row.2).mono ?_); rintro e w5 ⟨rfl, hb5⟩; have n_ := Aside0.mk (HP.out.below hb5); clear HP; have HP := n_; clear n_; have n_ := Aside0.mk (HM.out.below hb5); clear HM; have HM := n_; clear n_; clear hb5)
    clear y0 y1 y2
    generalize w5 = W19 at HP HM ⊢
    go_wp2_with (go_at_call 26; (with_reducible refine (h26 _ U12 q12 HM.out.bytes.1 HM.out.bytes.2).mono ?_); rintro e w5 ⟨rfl, hb5⟩; have n_ := Aside0.mk (HP.out.below hb5); clear HP; have HP := n_; clear n_; have n_ := Aside0.mk (HM.out.below hb5); clear HM; have HM := n_; clear n_; clear hb5)
    go_ret
    exact ⟨rfl, HP.out.bel⟩
set_option maxHeartbeats 4000000 in
set_option maxRecDepth 100000 in
theorem sr_big (a f from_ tp : Int) (n c : Nat) (A : Option Addr) (b : List Int) (B : Option Addr) (cb : Nat) (w : World) (hb : 1048576 < b.length) :
    Calls Try.prog 7 #[.agg #[.int .i64 a, .slice A n c, .int .i64 f], .slice B b.length cb, .int .i64 from_, .int .i64 tp] w fun e w' => e = .returned (.bool true) ∧ Below w.heap.size w w' := by
  have hu2 := Try.underlying41
  have b1 : decide ((1048576 : Int) < (b.length : Int)) = true := decide_eq_true (by omega)
  have b1' : decide (1048576 < b.length) = true := decide_eq_true hb
  have HB := Aside0.mk (below_alloc (Below.refl w.heap.size w) (.cells #[.int .i64 a, .slice A n c, .int .i64 f] 41))
  go_enter Try.func7, Try.ntmps7
  go_wp2
  go_ret
  exact ⟨rfl, HB.out⟩
set_option maxHeartbeats 4000000 in
set_option maxRecDepth 100000 in
theorem sr_neg (a f from_ tp r : Int) (l : List S70) (c : Nat) (A : Option Addr) (b : List Int) (B : Option Addr) (cb : Nat) (w : World) (hb : b.length ≤ 1048576) (hr : r < 0) (hR : Kd.C k70 w A l.length l) (hC : l.length ≤ c)
    (h18 : ∀ w A c, Kd.C k70 w A l.length l → l.length ≤ c → Calls Try.prog 18 #[.agg #[.int .i64 a, .slice A l.length c, .int .i64 f], .int .i64 1048576] w fun e w' => e = .returned (.int .i64 r) ∧ Below w.heap.size w w') :
    Calls Try.prog 7 #[.agg #[.int .i64 a, .slice A l.length c, .int .i64 f], .slice B b.length cb, .int .i64 from_, .int .i64 tp] w fun e w' => e = .returned (.bool true) ∧ Below w.heap.size w w' := by
  have hu2 := Try.underlying41
  have b1 : decide ((1048576 : Int) < (b.length : Int)) = false := decide_eq_false (by omega)
  have b1' : decide (1048576 < b.length) = false := decide_eq_false (by omega)
  have b2 : decide (r < 0) = true := decide_eq_true hr
  have HP := Aside0.mk (show LB w (w.alloc (.cells #[.int .i64 a, .slice A l.length c, .int .i64 f] 41)) a f A c l.length from ⟨below_alloc (Below.refl _ _) _, heap_alloc_new w _⟩)
  have HR := Aside0.mk hR
  have HC := Aside0.mk hC
  clear hR hC
  go_enter Try.func7, Try.ntmps7
  go_upto_region 1 with fail
  generalize w.alloc (.cells #[.int .i64 a, .slice A l.length c, .int .i64 f] 41) = W0 at HP ⊢
  obtain ⟨p0, p1, p2⟩ := HP.out.cells
  go_wp2_with (go_at_call 18; (with_reducible refine (h18 _ A c (Kd.C_below HR.out HP.out.bel) HC.out).mono ?_); rintro e w1 ⟨rfl, hb1⟩; have n_ := Aside0.mk (HP.out.below hb1); clear HP; have HP := n_; clear n_; clear hb1)
  go_ret
  exact ⟨rfl, HP.out.bel⟩
theorem C70_bound {w : World} {A : Option Addr} {l : List S70} (h : Kd.C k70 w A l.length l) : l.length ≤ 9223372036854775807 ∧ ∀ x ∈ l, x.f1.length ≤ 9223372036854775807 := by
  refine ⟨h.2.1, fun x hx => ?_⟩
  obtain ⟨i, hi, rfl⟩ := List.mem_iff_getElem.1 hx
  obtain ⟨_, _, _, _, _, _, _, h3⟩ := at_T70 h (i : Int) (by omega) (by omega)
  have e : rd_T70 l (i : Int) = l[i] := by
    unfold rd_T70
    rw [show (i : Int).toNat = i from rfl, List.getD_eq_getElem?_getD, List.getElem?_eq_getElem hi]
    rfl
  rw [e] at h3
  exact h3.2.1
theorem mkK_bound (M : Nat) : ∀ (l : List S58) (m : Int), (∀ x ∈ l, x.f1.length ≤ M) → mkK l m ≤ m + l.length * (M + 1)
  | [], m, _ => by simp [mkK]
  | x :: r, m, h => by
    have h1 := mkK_bound M r (m + 1 + x.f1.length) (fun y hy => h y (List.mem_cons_of_mem _ hy))
    have h2 := h x List.mem_cons_self
    rw [mkK, List.length_cons]
    have h3 : (((r.length + 1 : Nat) : Int)) * ((M : Int) + 1) = r.length * (M + 1) + (M + 1) := by rw [Int.natCast_add, Int.add_mul]; omega
    rw [h3]
    omega
def laws_FnExactSourceRun.f (k : Nat) (a0_0 : Int) (l0_1 : List S70) (a0_2 : Int) (l1 : List Int) (a2 a3 : Int) : Option Bool := some true
theorem laws_FnExactSourceRun.mono : ∀ a0 a1 a2 a3 a4 a5 k, LeO (laws_FnExactSourceRun.f k a0 a1 a2 a3 a4 a5) (laws_FnExactSourceRun.f (k + 1) a0 a1 a2 a3 a4 a5) := fun _ _ _ _ _ _ _ _ h => h
theorem laws_FnExactSourceRun.calls (k : Nat) (a0_0 : Int) (A0_1 : Option Addr) (c0_1 : Nat) (l0_1 : List S70) (a0_2 : Int) (A1 : Option Addr) (c1 : Nat) (l1 : List Int) (a2 : Int) (a3 : Int) (r : Bool) (w : World) (hr0_1 : Kd.C k70 w A0_1 l0_1.length l0_1) (hc0_1 : l0_1.length ≤ c0_1) (hr1 : Kd.C (Kd.int .u8) w A1 l1.length l1) (hc1 : l1.length ≤ c1) (h : laws_FnExactSourceRun.f k a0_0 l0_1 a0_2 l1 a2 a3 = some r) :
    Calls Try.prog 7 #[.agg #[.int .i64 a0_0, .slice A0_1 l0_1.length c0_1, .int .i64 a0_2], .slice A1 l1.length c1, .int .i64 a2, .int .i64 a3] w fun e w' => e = .returned (.bool r) ∧ Below w.heap.size w w' := by
  obtain rfl := Option.some.inj h
  by_cases hb : l1.length ≤ 1048576
  · obtain ⟨hl, hx⟩ := C70_bound hr0_1
    obtain ⟨K, hK⟩ : ∃ K : Nat, l0_1.length * (l0_1.length + 5) + l0_1.length + 8000000 ≤ K := ⟨_, Nat.le_refl _⟩
    obtain ⟨q, hq, hs⟩ := laws_szPageS_ok l0_1 hl hx K (by omega)
    by_cases hn : q < 0
    · refine sr_neg a0_0 a0_2 a2 a3 (-1) l0_1 c0_1 A0_1 l1 A1 c1 w hb (by omega) hr0_1 hc0_1 (fun w A c hC hc => ?_)
      exact laws_szSource.calls K a0_0 A c l0_1 a0_2 1048576 (-1) w hC hc (by unfold laws_szSource.f; rw [hq, Option.bind_some, if_pos hn])
    · have hs' := hs.resolve_left hn
      have hm : (l0_1.map cvG).length = l0_1.length := List.length_map _
      have hb1 : ∀ x ∈ l0_1, x.f1.length ≤ 1048576 := fun x hx => by have := mem_totG l0_1 x hx; omega
      have hb2 : ∀ x ∈ l0_1.map cvG, x.f1.length ≤ 1048576 := fun x hx => by
        obtain ⟨y, hy, rfl⟩ := List.mem_map.mp hx
        exact hb1 y hy
      have e1 := laws_toPageS_ok l0_1 (by omega) 1048576 (by omega) hb1 K (by omega)
      generalize l0_1.map cvG = L at hm hb2 e1
      obtain ⟨hB1, hB2, hB3⟩ := ru_bound a0_0 a0_2 a2 a3 L l1
      have hk1 := mkK_bound 1048576 L 1 hb2
      have hk3 := mkK_le L 1
      have e21 := specRun_ok a0_0 a0_2 L (by omega) hb2 l1 hb a2 a3 K (by rw [hm]; omega)
      have e17 := fun w A c B cb (hC : Kd.C k58 w A L.length L) hc hD hd => SourceRun_c a0_0 a0_2 A c L B cb l1 a2 a3 w hC hc (by omega) hb2 hD hd hb
      generalize ruS a0_0 L a0_2 a2 a3 = rS at e21 e17
      generalize ruL a0_0 L a0_2 l1 a2 a3 = rL at e21 e17 hB1 hB2
      generalize ruF a0_0 L a0_2 l1 a2 a3 = rF at e21 e17
      generalize ruB a0_0 L a0_2 l1 a2 a3 = rB at e21 e17 hB3
      have hk2 := mkK_bound 1048576 rL 1 hB2
      have hk4 := mkK_le rL 1
      refine sr_walk a0_0 a0_2 a2 a3 q (mkK L 1) (mkK L 1 + l1.length) (mkK rL 1) (mkK rL 1 + rB.length) rS rF l0_1 L rL (mkL rL 1) l1 rB (mkB rB.length (mkK rL 1)) A0_1 c0_1 A1 c1 w (by omega) (by omega) (by omega) (by omega) hb hr0_1 hc0_1 hr1 hc1 ?_ ?_ ?_ ?_ ?_ ?_ ?_ ?_ ?_ ?_ ?_ ?_ ?_ ?_ ?_
      · exact fun w A c hC hc => laws_szSource.calls K a0_0 A c l0_1 a0_2 1048576 q w hC hc (by unfold laws_szSource.f; rw [hq, Option.bind_some, if_neg hn])
      · exact fun w A c hC hc => laws_toSource.calls K a0_0 A c l0_1 a0_2 a0_0 L a0_2 w hC hc (by unfold laws_toSource.f; rw [e1, Option.bind_some])
      · exact fun w B cb hC hc => laws_toByteS.calls K B cb l1 l1 w hC hc (laws_toByteS_ok l1 hb K (by omega))
      · exact fun w A c B cb hC hc hD hd => (spec_SourceRun.calls K a0_0 A c L a0_2 B cb l1 a2 a3 _ _ _ _ w hC hc hD hd e21).mono (fun e w' ⟨v, u, h1, h2, h3⟩ => ⟨v, u, h1, Kd.Q_mono h2 (fun _ _ => trivial), h3⟩)
      · exact fun w A c B cb hC hc hD hd => e17 w A c B cb hC hc hD hd
      · exact fun w A c A' c' hC hc hD hd => laws_eqSource.calls K a0_0 A c L a0_2 a0_0 A' c' L a0_2 true w hC hc hD hd (eqSource_ok a0_0 a0_2 L (by omega) hb2 K (by omega))
      · exact fun w A c A' c' hC hc hD hd => laws_eqSource.calls K _ A c _ _ _ A' c' _ _ true w hC hc hD hd (eqSource_ok _ _ _ (by omega) hB2 K (by omega))
      · exact fun w A c A' c' hC hc hD hd => (laws_eqByteS.calls K A c l1 A' c' l1 true w hC hc hD hd (laws_eqByteS_ok l1 hb K (by omega))).mono (fun e w' h => ⟨h.1, by obtain ⟨n, rfl⟩ := h.2; exact pw_below_drewN (Below.refl _ _) _⟩)
      · exact fun w A c A' c' hC hc hD hd => (laws_eqByteS.calls K A c rB A' c' rB true w hC hc hD hd (laws_eqByteS_ok rB (by omega) K (by omega))).mono (fun e w' h => ⟨h.1, by obtain ⟨n, rfl⟩ := h.2; exact pw_below_drewN (Below.refl _ _) _⟩)
      · exact fun ok A c w0 w hB hS => (laws_markByteS.calls K ok (.slice A rB.length c) rB (mkK rL 1) _ _ w0 w hB hS (markByteS_ok rB (mkK rL 1) (by omega) (by omega) K (by omega))).mono (fun e w' h => ⟨h.1, Kd.R_mono h.2.1 (fun _ _ => trivial), h.2.2⟩)
      · intro w A c hC hc
        have h := laws_heldByteS.calls K A c (mkB rB.length (mkK rL 1)) (mkK rL 1) (mkK rL 1 + rB.length) w hC (by rw [mkB_len]; exact hc) (heldByteS_ok rB.length (mkK rL 1) (by omega) (by omega) K (by omega))
        rw [mkB_len] at h
        exact h.mono (fun e w' h => ⟨h.1, by obtain ⟨n, rfl⟩ := h.2; exact pw_below_drewN (Below.refl _ _) _⟩)
      · exact fun ok A c w0 w hB hS hok => (markSource_c ok a0_0 a0_2 A c L 1 w0 w hB hS hok (by omega) hb2 (by omega) (by omega)).mono (fun e w' h => ⟨h.1, h.2.2⟩)
      · exact fun ok A c w0 w hB hS => (laws_markByteS.calls K ok (.slice A l1.length c) l1 (mkK L 1) _ _ w0 w hB hS (markByteS_ok l1 (mkK L 1) (by omega) (by omega) K (by omega))).mono (fun e w' h => ⟨h.1, h.2.2⟩)
      · exact fun ok A c w0 w hB hS hok => markSource_c ok _ _ A c _ 1 w0 w hB hS hok (by omega) hB2 (by omega) (by omega)
      · intro w A c hC hc
        have h := laws_heldSource.calls K rS A c (mkL rL 1) rF 1 (mkK rL 1) w hC (by rw [mkL_len]; exact hc) (heldSource_ok _ _ _ 1 (by omega) (by omega) (by omega) 1048577 (fun x hx => by have := hB2 x hx; omega) K (by omega))
        rw [mkL_len] at h
        exact h
  · exact sr_big a0_0 a0_2 a2 a3 l0_1.length c0_1 A0_1 l1 A1 c1 w (by omega)

end Go.Proofs.Ytbjkaapkmemojaa.PFnExactSourceRun
