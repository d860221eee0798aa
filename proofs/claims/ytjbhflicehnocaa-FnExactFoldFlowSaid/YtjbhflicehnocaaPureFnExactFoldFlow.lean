/- The statement FnExactFoldFlow, for every input. -/
import Derived.Test.YtjbhflicehnocaaPFnExactFoldFlowx0
import Derived.Test.YtjbhflicehnocaaPFnExactFoldFlowx1
import Derived.Test.YtjbhflicehnocaaPFnExactFoldFlowx2
import Derived.Test.YtjbhflicehnocaaPFnExactFoldFlowx3
import Derived.Test.YtjbhflicehnocaaLst
import Derived.Test.YtjbhflicehnocaaMine
import Derived.Test.YtjbhflicehnocaaTxt
namespace Go.Proofs.Ytjbhflicehnocaa.Pure
open Go.RowKit Go.Proofs.Ytjbhflicehnocaa.PFnExactFoldFlow Go.Proofs.YtjbhflicehnocaaW.PrintWords Go.Proofs.YtjbhflicehnocaaW.PrintLast Go.Proofs.YtjbhflicehnocaaW.PrintMore Go.Proofs.Ytjbhflicehnocaa.Mine

def pr119 (x : S119) : ByteArray × Bool := (x.f0, x.f1)
def tot118 : List S118 → Nat
  | [] => 0
  | x :: r => x.f0.size + tot118 r
theorem laws_szPieceS_l0 (l : List S118) (hl : l.length ≤ 9223372036854775807) (hb : ∀ a ∈ l, (a.f0.size ≤ 9223372036854775807) ∧ True) (d : Nat) : ∀ (k : Nat) (x i : Int), 0 ≤ i → (l.length : Int) - i = d → 0 ≤ x → x ≤ 1048576 → d < k →
    ∃ r, laws_szPieceS.l0 k l x i = some r ∧ (r < 0 ∨ (tot118 (l.drop i.toNat) : Int) ≤ x) := by
  induction d with
  | zero =>
    intro k x i h0 hd hx hx1 hk
    obtain ⟨k, rfl⟩ : ∃ m, k = m + 1 := ⟨k - 1, by omega⟩
    refine ⟨x, by rw [laws_szPieceS.l0, if_neg (by omega)], .inr ?_⟩
    rw [drop_end _ _ (by omega)]
    exact hx
  | succ d ih =>
    intro k x i h0 hd hx hx1 hk
    obtain ⟨k, rfl⟩ : ∃ m, k = m + 1 := ⟨k - 1, by omega⟩
    have hi : i < (l.length : Int) := by omega
    have hm : (rd_T118 l i).f0.size ≤ 9223372036854775807 := by
      have := getD_some z118 l i h0 hi
      exact (hb _ (List.mem_of_getElem? this)).1
    have e : wrap64 (x - ((rd_T118 l i).f0.size : Int)) = x - (rd_T118 l i).f0.size := w64 (by omega) (by omega)
    rw [laws_szPieceS.l0, if_pos hi, if_pos h0]
    unfold laws_szPiece.f
    rw [e, w64 (n := i + 1) (by omega) (by omega)]
    by_cases hn : x - ((rd_T118 l i).f0.size : Int) < 0
    · rw [if_pos hn, Option.bind_some, if_pos (by omega)]
      exact ⟨-1, rfl, .inl (by omega)⟩
    · rw [if_neg hn, Option.bind_some, if_neg hn]
      obtain ⟨r, hr, hs⟩ := ih k (x - (rd_T118 l i).f0.size) (i + 1) (by omega) (by omega) (by omega) (by omega) (by omega)
      refine ⟨r, hr, hs.imp id fun h => ?_⟩
      rw [drop_at z118 l i h0 hi]
      show (((rd_T118 l i).f0.size + tot118 (l.drop (i + 1).toNat) : Nat) : Int) ≤ x
      omega
theorem laws_szPieceS_ok (l : List S118) (hl : l.length ≤ 9223372036854775807) (hb : ∀ a ∈ l, (a.f0.size ≤ 9223372036854775807) ∧ True) (k : Nat) (hk : l.length < k) :
    ∃ r, laws_szPieceS.f k l 1048576 = some r ∧ (r < 0 ∨ l.length + tot118 l ≤ 1048576) := by
  unfold laws_szPieceS.f
  rw [w64 (by omega) (by omega)]
  by_cases hn : (1048576 : Int) - (l.length : Int) < 0
  · rw [if_pos hn]
    exact ⟨-1, rfl, .inl (by omega)⟩
  · rw [if_neg hn]
    obtain ⟨r, hr, hs⟩ := laws_szPieceS_l0 l hl hb l.length k (1048576 - (l.length : Int)) 0 (by omega) (by omega) (by omega) (by omega) hk
    refine ⟨r, hr, hs.imp id fun h => ?_⟩
    rw [show (0 : Int).toNat = 0 from rfl, List.drop_zero] at h
    omega

theorem spec_FoldFlow_l1 (l l2 : List S119) (t : ByteArray) (g : Bool) (i len : Int) (n : Nat) : ∀ (k : Nat) (out : ByteArray), (out.size : Int) + n + t.size ≤ 70368744177664 →
    spec_FoldFlow.l1 (k + n + 1) l out (n : Int) l2 len i t g = spec_FoldFlow.l0 k l (out ++ nl n ++ t) 0 g l2 len (wrap64 (i + 1)) := by
  induction n with
  | zero =>
    intro k out hb
    rw [show k + 0 + 1 = k + 1 by omega, spec_FoldFlow.l1, if_neg (by omega), if_pos (by omega), nl_zero, app_nil]
    rfl
  | succ n ih =>
    intro k out hb
    have hz : (⟨#[10]⟩ : ByteArray).size = 1 := rfl
    rw [show k + (n + 1) + 1 = (k + n + 1) + 1 by omega, spec_FoldFlow.l1, if_pos (by omega), if_pos (by omega), show (((n + 1 : Nat) : Int) - 1) = (n : Int) by omega, w64 (by omega) (by omega), ih k _ (by rw [size_app, hz]; omega)]
    rw [show (⟨#[10]⟩ : ByteArray) = nl 1 from rfl, app_assoc out (nl 1) (nl n), nl_add, show 1 + n = n + 1 by omega]
theorem spec_FoldFlow_l0 (l : List S119) (hl : l.length ≤ 4194304) (d : Nat) : ∀ (k : Nat) (out : ByteArray) (glue : Bool) (many i : Int), 1 ≤ i → (l.length : Int) - i = d → 0 ≤ many → 10 * (d : Int) + many + 10 ≤ k →
    (out.size : Int) + many + totP ((l.drop i.toNat).map pr119) + 2 * d ≤ 70368744177664 →
    spec_FoldFlow.l0 k l out many glue l (l.length : Int) i = some (ffN out glue many.toNat ((l.drop i.toNat).map pr119)) := by
  induction d with
  | zero =>
    intro k out glue many i h0 hd hm hk hb
    obtain ⟨k, rfl⟩ : ∃ m, k = m + 1 := ⟨k - 1, by omega⟩
    rw [spec_FoldFlow.l0, if_neg (by omega), drop_end _ _ (by omega)]
    rfl
  | succ d ih =>
    intro k out glue many i h0 hd hm hk hb
    obtain ⟨k, rfl⟩ : ∃ m, k = m + 5 := ⟨k - 5, by omega⟩
    have hi : i < (l.length : Int) := by omega
    have hdr : l.drop i.toNat = rd_T119 l i :: l.drop (i + 1).toNat := drop_at z119 l i (by omega) hi
    have hlast : ((l.drop (i + 1).toNat).map pr119 = []) ↔ ¬ i < (l.length : Int) - 1 := by
      rw [List.map_eq_nil_iff, List.drop_eq_nil_iff]; omega
    rw [hdr, List.map_cons] at hb ⊢
    have ei : wrap64 (i + 1) = i + 1 := w64 (by omega) (by omega)
    have el : wrap64 ((l.length : Int) - 1) = (l.length : Int) - 1 := w64 (by omega) (by omega)
    rw [spec_FoldFlow.l0, if_pos hi, if_pos (by omega), if_pos hi, if_pos (by omega), el]
    generalize rd_T119 l i = x at hb ⊢
    have hpx : pr119 x = (x.f0, x.f1) := rfl
    rw [hpx] at hb ⊢
    simp only [totP] at hb
    simp only [ffN]
    have fin : ∀ (m : Nat) (o : ByteArray) (k' : Nat), m ≤ many.toNat → o.size + m ≤ out.size + many.toNat + 1 → 10 * (d : Int) + m + 11 ≤ k' →
        spec_FoldFlow.l1 k' l o (m : Int) l (l.length : Int) i x.f0 x.f1 = some (ffN (o ++ nl m ++ x.f0) x.f1 0 ((l.drop (i + 1).toNat).map pr119)) := fun m o k' hm1 hs hk' => by
      obtain ⟨k'', rfl⟩ : ∃ q, k' = q + m + 1 := ⟨k' - m - 1, by omega⟩
      rw [spec_FoldFlow_l1 l l _ _ i _ m k'' o (by omega), ei]
      exact ih k'' _ x.f1 0 (i + 1) (by omega) (by omega) (by omega) (by omega) (by rw [size_app, size_app, nl_size]; omega)
    have jf : spec_FoldFlow.j1 (k + 4) l out many glue i l (l.length : Int) i false x.f0 x.f1 = some (ffN (out ++ ffSep glue many.toNat ++ x.f0) x.f1 0 ((l.drop (i + 1).toNat).map pr119)) := by
      rw [spec_FoldFlow.j1, if_neg (by decide), if_pos (by omega)]
      unfold ffSep
      by_cases hz : many = 0
      · rw [if_pos hz, if_neg (show ¬ many.toNat > 0 by omega)]
        cases glue with
        | true =>
          rw [show (!true) = false from rfl, spec_FoldFlow.j2, if_neg (by decide), spec_FoldFlow.j3, if_pos rfl, app_nil]
          have := fin 0 out (k + 1) (by omega) (by omega) (by omega)
          rw [nl_zero, app_nil] at this
          rw [hz]
          exact this
        | false =>
          rw [show (!false) = true from rfl, spec_FoldFlow.j2, if_pos rfl, if_pos (by omega), spec_FoldFlow.j3, if_neg (show ¬ (false = true) by decide)]
          have := fin 0 (out ++ (⟨#[32]⟩ : ByteArray)) (k + 1) (by omega) (by rw [size_app]; show out.size + 1 + 0 ≤ _; omega) (by omega)
          rw [nl_zero, app_nil] at this
          rw [hz]
          exact this
      · rw [if_neg hz, spec_FoldFlow.j2, if_neg (by decide), spec_FoldFlow.j3, if_pos (show many.toNat > 0 by omega)]
        have := fin many.toNat out (k + 1) (by omega) (by omega) (by omega)
        rw [show (many.toNat : Int) = many by omega] at this
        exact this
    by_cases hL : i < (l.length : Int) - 1
    · rw [if_pos hL]
      by_cases hx : x.f0.size = 0
      · rw [if_pos (tl_nil.mpr hx)]
        cases hg : x.f1 with
        | true =>
          rw [show (!true) = false from rfl, if_neg (show ¬ (x.f0.size = 0 ∧ true = false ∧ ¬ (l.drop (i + 1).toNat).map pr119 = []) by simp)]
          rw [hg] at jf
          exact jf
        | false =>
          rw [show (!false) = true from rfl, spec_FoldFlow.j1, if_pos rfl, if_pos (show x.f0.size = 0 ∧ false = false ∧ ¬ (l.drop (i + 1).toNat).map pr119 = [] from ⟨hx, rfl, fun c => (hlast.mp c) hL⟩), ei, w64 (n := many + 1) (by omega) (by omega)]
          have := ih (k + 3) out glue (many + 1) (i + 1) (by omega) (by omega) (by omega) (by omega) (by omega)
          rw [show (many + 1).toNat = many.toNat + 1 by omega] at this
          exact this
      · rw [if_neg (fun c => hx (tl_nil.mp c)), if_neg (show ¬ (x.f0.size = 0 ∧ x.f1 = false ∧ ¬ (l.drop (i + 1).toNat).map pr119 = []) from fun c => hx c.1)]
        exact jf
    · rw [if_neg hL, if_neg (show ¬ (x.f0.size = 0 ∧ x.f1 = false ∧ ¬ (l.drop (i + 1).toNat).map pr119 = []) from fun c => c.2.2 (hlast.mpr hL))]
      exact jf
theorem spec_FoldFlow_ok (l : List S119) (hl : l.length ≤ 4194304) (hb : totP (l.map pr119) ≤ 35184372088832) (k : Nat) (hk : 10 * l.length + 20 ≤ k) : spec_FoldFlow.f k l = some (foldFlowM (l.map pr119)) := by
  unfold spec_FoldFlow.f
  cases l with
  | nil =>
    obtain ⟨k, rfl⟩ : ∃ m, k = m + 1 := ⟨k - 1, by omega⟩
    rw [spec_FoldFlow.l0, if_neg (by simp)]
    rfl
  | cons x r =>
    obtain ⟨k, rfl⟩ : ∃ m, k = m + 6 := ⟨k - 6, by omega⟩
    have hpx : pr119 x = (x.f0, x.f1) := rfl
    rw [List.map_cons, hpx] at hb
    simp only [totP] at hb
    have hrd : rd_T119 (x :: r) 0 = x := rfl
    rw [spec_FoldFlow.l0, if_pos (by simp <;> omega), if_pos (by omega), if_pos (by simp <;> omega), if_neg (by omega), hrd, spec_FoldFlow.j1, if_neg (by decide), if_neg (by omega), spec_FoldFlow.j2, if_neg (by decide), spec_FoldFlow.j3]
    have hl1 := spec_FoldFlow_l1 (x :: r) (x :: r) x.f0 x.f1 0 ((x :: r).length : Int) 0 (k + 1) (⟨#[]⟩ : ByteArray) (by rw [size_none]; omega)
    rw [show k + 1 + 0 + 1 = k + 2 by omega, nl_zero, nil_app, nil_app, w64 (by omega) (by omega)] at hl1
    have := spec_FoldFlow_l0 (x :: r) hl r.length (k + 1) x.f0 x.f1 0 1 (by omega) (by simp) (by omega) (by simp at hk <;> omega) (by
      rw [show (1 : Int).toNat = 1 from rfl, List.drop_one, List.tail_cons]; simp at hl; omega)
    rw [show (1 : Int).toNat = 1 from rfl, List.drop_one, List.tail_cons] at this
    exact hl1.trans this

def cv118 (x : S118) : S119 := ⟨x.f0, x.f1⟩
theorem laws_toPieceS_l0 (l : List S118) (hl : l.length ≤ 1048576) (z : S119) (d : Nat) : ∀ (k : Nat) (i : Int), 0 ≤ i → (l.length : Int) - i = d → d < k →
    laws_toPieceS.l0 k l ((l.map cv118).take i.toNat ++ List.replicate ((l.map cv118).length - i.toNat) z) i = some (l.map cv118) := by
  have hlm : (l.map cv118).length = l.length := List.length_map _
  induction d with
  | zero =>
    intro k i h0 hd hk
    obtain ⟨k, rfl⟩ : ∃ m, k = m + 1 := ⟨k - 1, by omega⟩
    rw [laws_toPieceS.l0, if_neg (by omega), copy_end z _ i (by omega)]
  | succ d ih =>
    intro k i h0 hd hk
    obtain ⟨k, rfl⟩ : ∃ m, k = m + 1 := ⟨k - 1, by omega⟩
    have hi : i < (l.length : Int) := by omega
    have hv : (l.map cv118)[i.toNat]? = some (⟨(rd_T118 l i).f0, (rd_T118 l i).f1⟩ : S119) := by
      rw [List.getElem?_map, getD_some z118 l i h0 hi]
      rfl
    rw [laws_toPieceS.l0, if_pos hi, if_pos h0]
    simp only [laws_toPiece.f, Option.bind_some]
    rw [copy_len z _ i h0 (by omega), hlm, if_pos hi, ← hlm, copy_set z _ _ i h0 (by omega) hv, w64 (by omega) (by omega)]
    exact ih k (i + 1) (by omega) (by omega) (by omega)
theorem laws_toPieceS_ok (l : List S118) (hl : l.length ≤ 1048576) (k : Nat) (hk : l.length < k) : laws_toPieceS.f k l = some (l.map cv118) := by
  unfold laws_toPieceS.f
  rw [if_pos (by omega), if_pos (by omega)]
  have := laws_toPieceS_l0 l hl z119 l.length k 0 (by omega) (by omega) hk
  rw [List.length_map] at this
  exact this

theorem strings_Repeat_nl (n : Int) (h0 : 0 ≤ n) (h1 : n ≤ 70368744177664) : strings_Repeat.f (⟨#[10]⟩ : ByteArray) n = some (nl n.toNat) := by
  unfold strings_Repeat.f
  have hz : (⟨#[10]⟩ : ByteArray).size = 1 := rfl
  rw [if_pos ⟨h0, by omega, by rw [hz]; omega⟩, repeatL_nl]

theorem impl_FoldFlow_l0 (l : List S119) (hl : l.length ≤ 4194304) (d : Nat) : ∀ (k : Nat) (out : ByteArray) (glue : Bool) (many i : Int), 1 ≤ i → (l.length : Int) - i = d → 0 ≤ many → 2 * d < k →
    (out.size : Int) + many + totP ((l.drop i.toNat).map pr119) + 2 * d ≤ 70368744177664 →
    impl_FoldFlow.l0 k l out glue many i = some (ffN out glue many.toNat ((l.drop i.toNat).map pr119)) := by
  induction d with
  | zero =>
    intro k out glue many i h0 hd hm hk hb
    obtain ⟨k, rfl⟩ : ∃ m, k = m + 1 := ⟨k - 1, by omega⟩
    rw [impl_FoldFlow.l0, if_neg (by omega), drop_end _ _ (by omega)]
    rfl
  | succ d ih =>
    intro k out glue many i h0 hd hm hk hb
    obtain ⟨k, rfl⟩ : ∃ m, k = m + 2 := ⟨k - 2, by omega⟩
    have hi : i < (l.length : Int) := by omega
    have hdr : l.drop i.toNat = rd_T119 l i :: l.drop (i + 1).toNat := drop_at z119 l i (by omega) hi
    have hlast : ((l.drop (i + 1).toNat).map pr119 = []) ↔ ¬ i < (l.length : Int) - 1 := by
      rw [List.map_eq_nil_iff, List.drop_eq_nil_iff]; omega
    rw [hdr, List.map_cons] at hb ⊢
    have ei : wrap64 (i + 1) = i + 1 := w64 (by omega) (by omega)
    have el : wrap64 ((l.length : Int) - 1) = (l.length : Int) - 1 := w64 (by omega) (by omega)
    rw [impl_FoldFlow.l0, if_pos hi, if_pos (by omega), el]
    generalize rd_T119 l i = x at hb ⊢
    have hpx : pr119 x = (x.f0, x.f1) := rfl
    rw [hpx] at hb ⊢
    simp only [totP] at hb
    simp only [ffN]
    have rest : ∀ (s : ByteArray), s.size ≤ many.toNat + 1 → (if out.size + s.size ≤ 9223372036854775807 then (if (out ++ s).size + x.f0.size ≤ 9223372036854775807 then (impl_FoldFlow.l0 k l ((out ++ s) ++ x.f0) x.f1 0 (i + 1)) else (none)) else (none)) = some (ffN (out ++ s ++ x.f0) x.f1 0 ((l.drop (i + 1).toNat).map pr119)) := fun s hs => by
      rw [if_pos (by omega), if_pos (by rw [size_app]; omega)]
      exact ih k _ x.f1 0 (i + 1) (by omega) (by omega) (by omega) (by omega) (by rw [size_app, size_app]; omega)
    have jf : impl_FoldFlow.j1 (k + 1) l out glue many i false x.f0 x.f1 = some (ffN (out ++ ffSep glue many.toNat ++ x.f0) x.f1 0 ((l.drop (i + 1).toNat).map pr119)) := by
      rw [impl_FoldFlow.j1, if_neg (by decide), ei]
      unfold ffSep
      by_cases hz : many > 0
      · rw [if_pos hz, if_pos (show many.toNat > 0 by omega), strings_Repeat_nl many hm (by omega), Option.bind_some]
        exact rest (nl many.toNat) (by rw [nl_size]; omega)
      · rw [if_neg hz, if_neg (show ¬ many.toNat > 0 by omega)]
        cases glue with
        | true =>
          rw [if_pos rfl, if_pos rfl]
          have := rest (⟨#[]⟩ : ByteArray) (by rw [size_none]; omega)
          rw [if_pos (by rw [size_none]; omega)] at this
          rw [app_nil] at this ⊢
          exact this
        | false =>
          rw [if_neg (by decide), if_neg (show ¬ (false = true) by decide)]
          exact rest sp (by rw [sp_size]; omega)
    by_cases hx : x.f0.size = 0
    · rw [if_pos (tl_nil.mpr hx)]
      cases hg : x.f1 with
      | true =>
        rw [if_pos rfl, if_neg (show ¬ (x.f0.size = 0 ∧ true = false ∧ ¬ (l.drop (i + 1).toNat).map pr119 = []) by simp)]
        rw [hg] at jf
        exact jf
      | false =>
        rw [if_neg (by decide)]
        by_cases hL : i < (l.length : Int) - 1
        · rw [show decide (i < (l.length : Int) - 1) = true by simpa using hL, impl_FoldFlow.j1, if_pos rfl, if_pos (show x.f0.size = 0 ∧ false = false ∧ ¬ (l.drop (i + 1).toNat).map pr119 = [] from ⟨hx, rfl, fun c => (hlast.mp c) hL⟩), ei, w64 (n := many + 1) (by omega) (by omega)]
          have := ih k out glue (many + 1) (i + 1) (by omega) (by omega) (by omega) (by omega) (by omega)
          rw [show (many + 1).toNat = many.toNat + 1 by omega] at this
          exact this
        · rw [show decide (i < (l.length : Int) - 1) = false by simpa using hL, if_neg (show ¬ (x.f0.size = 0 ∧ false = false ∧ ¬ (l.drop (i + 1).toNat).map pr119 = []) from fun c => c.2.2 (hlast.mpr hL))]
          rw [hg] at jf
          exact jf
    · rw [if_neg (fun c => hx (tl_nil.mp c)), if_neg (show ¬ (x.f0.size = 0 ∧ x.f1 = false ∧ ¬ (l.drop (i + 1).toNat).map pr119 = []) from fun c => hx c.1)]
      exact jf
theorem impl_FoldFlow_ok (l : List S119) (hl : l.length ≤ 4194304) (hb : totP (l.map pr119) ≤ 35184372088832) (k : Nat) (hk : 2 * l.length + 2 < k) : impl_FoldFlow.f k l = some (foldFlowM (l.map pr119)) := by
  unfold impl_FoldFlow.f
  cases l with
  | nil => rfl
  | cons x r =>
    rw [if_neg (by simp <;> omega), if_pos (by simp <;> omega)]
    have hpx : pr119 x = (x.f0, x.f1) := rfl
    rw [List.map_cons, hpx] at hb
    simp only [totP] at hb
    have := impl_FoldFlow_l0 (x :: r) hl r.length k x.f0 x.f1 0 1 (by omega) (by simp) (by omega) (by simp at hk <;> omega) (by
      rw [show (1 : Int).toNat = 1 from rfl, List.drop_one, List.tail_cons]; simp at hl; omega)
    rw [show (1 : Int).toNat = 1 from rfl, List.drop_one, List.tail_cons] at this
    exact this

theorem laws_eqPieceS_l0 (l : List S119) (hl : l.length ≤ 1048576) (d : Nat) : ∀ (k : Nat) (i : Int), 0 ≤ i → (l.length : Int) - i = d → d < k → laws_eqPieceS.l0 k l l i = some true := by
  induction d with
  | zero =>
    intro k i h0 hd hk
    obtain ⟨k, rfl⟩ : ∃ m, k = m + 1 := ⟨k - 1, by omega⟩
    rw [laws_eqPieceS.l0, if_neg (by omega)]
  | succ d ih =>
    intro k i h0 hd hk
    obtain ⟨k, rfl⟩ : ∃ m, k = m + 1 := ⟨k - 1, by omega⟩
    rw [laws_eqPieceS.l0, if_pos (by omega), if_pos h0, if_pos (by omega)]
    unfold laws_eqPiece.f
    rw [if_pos rfl, bne_self_eq_false, if_neg (by decide), Option.bind_some, if_pos rfl, w64 (by omega) (by omega)]
    exact ih k (i + 1) (by omega) (by omega) (by omega)
theorem laws_eqPieceS_ok (l : List S119) (hl : l.length ≤ 1048576) (k : Nat) (hk : l.length < k) : laws_eqPieceS.f k l l = some true := by
  unfold laws_eqPieceS.f
  rw [if_pos rfl]
  exact laws_eqPieceS_l0 l hl l.length k 0 (by omega) (by omega) hk

theorem tot_pr (l : List S118) : totP ((l.map cv118).map pr119) = tot118 l := by
  induction l with
  | nil => rfl
  | cons x r ih =>
    show x.f0.size + totP ((r.map cv118).map pr119) = x.f0.size + tot118 r
    rw [ih]
theorem FnExactFoldFlow : ∀ (l0 : List (S118)), l0.length ≤ 9223372036854775807 → (∀ a ∈ l0, (a.f0.size ≤ 9223372036854775807) ∧ True) → ∃ k, laws_FnExactFoldFlow.f k l0 = some true := by
  intro l hl hb
  obtain ⟨k, hk⟩ : ∃ k : Nat, 10 * l.length + 100 ≤ k := ⟨_, Nat.le_refl _⟩
  obtain ⟨r, hr, hs⟩ := laws_szPieceS_ok l hl hb k (by omega)
  refine ⟨k, ?_⟩
  simp only [laws_FnExactFoldFlow.f, hr, Option.bind_some]
  rcases hs with hs | hs
  · rw [if_pos hs]
  · by_cases hn : r < 0
    · rw [if_pos hn]
    · rw [if_neg hn]
      have hm : (l.map cv118).length = l.length := List.length_map _
      have ht := tot_pr l
      simp only [laws_toPieceS_ok l (by omega) k (by omega), spec_FoldFlow_ok _ (by omega : (l.map cv118).length ≤ 4194304) (by omega) k (by omega), impl_FoldFlow_ok _ (by omega : (l.map cv118).length ≤ 4194304) (by omega) k (by omega), laws_eqPieceS_ok _ (by omega : (l.map cv118).length ≤ 1048576) k (by omega), Option.bind_some, if_true]

end Go.Proofs.Ytjbhflicehnocaa.Pure
