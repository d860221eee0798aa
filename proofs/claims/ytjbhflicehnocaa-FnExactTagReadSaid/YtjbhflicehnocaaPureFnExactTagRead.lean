/- The statement FnExactTagRead, for every input. -/
import Derived.Test.YtjbhflicehnocaaPFnExactTagReadx0
import Derived.Test.YtjbhflicehnocaaPFnExactTagReadx1
import Derived.Test.YtjbhflicehnocaaPFnExactTagReadx2
import Derived.Test.YtjbhflicehnocaaPFnExactTagReadx3
import Derived.Test.YtjbhflicehnocaaPFnExactTagReadx4
import Derived.Test.YtjbhflicehnocaaPFnExactTagReadx5
import Derived.Test.YtjbhflicehnocaaLst
import Derived.Test.YtjbhflicehnocaaMine
import Derived.Test.YtjbhflicehnocaaTxt
namespace Go.Proofs.Ytjbhflicehnocaa.Pure
open Go.RowKit Go.Proofs.Ytjbhflicehnocaa.PFnExactTagRead Go.Proofs.YtjbhflicehnocaaW.PrintWords Go.Proofs.YtjbhflicehnocaaW.PrintLast Go.Proofs.YtjbhflicehnocaaW.PrintMore Go.Proofs.Ytjbhflicehnocaa.Mine

def pr51 (x : S51) : ByteArray × ByteArray := (x.f0, x.f1)
theorem bytealg_LastIndexByteString_l0 (s : ByteArray) (c : Int) (hs : s.size ≤ 140737488351232) (d : Nat) : ∀ (k : Nat) (i : Int), -1 ≤ i → i < s.size → i < d → d < k →
    bytealg_LastIndexByteString.l0 k s c i = some (lastM c s (i + 1) - 1) := by
  induction d with
  | zero =>
    intro k i h0 h1 hd hk
    obtain ⟨k, rfl⟩ : ∃ m, k = m + 1 := ⟨k - 1, by omega⟩
    simp (disch := omega) only [bytealg_LastIndexByteString.l0, if_neg, lastM_neg]
    rfl
  | succ d ih =>
    intro k i h0 h1 hd hk
    obtain ⟨k, rfl⟩ : ∃ m, k = m + 1 := ⟨k - 1, by omega⟩
    by_cases hi : 0 ≤ i
    · by_cases hb : bt s i = c
      · have hb' : bt s (i + 1 - 1) = c := by rw [show i + 1 - 1 = i by omega]; exact hb
        rw [lastM_hit (by omega) hb']
        simp (disch := omega) only [bytealg_LastIndexByteString.l0, if_pos]
        congr 1; omega
      · have hb' : ¬ bt s (i + 1 - 1) = c := by rw [show i + 1 - 1 = i by omega]; exact hb
        rw [lastM_prev (by omega) hb']
        simp (disch := omega) only [bytealg_LastIndexByteString.l0, if_pos, if_neg, w64]
        rw [ih k (i - 1) (by omega) (by omega) (by omega) (by omega)]
        rw [show i + 1 - 1 = i - 1 + 1 by omega]
    · simp (disch := omega) only [bytealg_LastIndexByteString.l0, if_neg, lastM_neg]
      rfl
theorem bytealg_LastIndexByteString_ok (s : ByteArray) (c : Int) (hs : s.size ≤ 140737488351232) (k : Nat) (hk : s.size < k) :
    bytealg_LastIndexByteString.f k s c = some (lastM c s s.size - 1) := by
  unfold bytealg_LastIndexByteString.f
  rw [w64 (by omega) (by omega), bytealg_LastIndexByteString_l0 s c hs s.size k _ (by omega) (by omega) (by omega) hk]
  rw [show (s.size : Int) - 1 + 1 = s.size by omega]

theorem strings_LastIndexByte_ok (s : ByteArray) (c : Int) (hs : s.size ≤ 140737488351232) (k : Nat) (hk : s.size < k) :
    strings_LastIndexByte.f k s c = some (lastM c s s.size - 1) := by
  simp (disch := omega) only [strings_LastIndexByte.f, bytealg_LastIndexByteString_ok, Option.bind_some]

theorem impl_isWord_ok (b : Int) : impl_isWord.f b = some (wordB b) := by
  unfold impl_isWord.f wordB
  repeat' split
  all_goals
    rw [Option.some.injEq, Bool.eq_iff_iff]
    simp only [beq_iff_eq, decide_eq_true_eq, true_iff]
    omega

theorem impl_nameOk_l0 (s : ByteArray) (hs : s.size ≤ 60) (d : Nat) : ∀ (k : Nat) (i : Int), 1 ≤ i → (s.size : Int) - 1 - i = d → d < k → impl_nameOk.l0 k s i = some (allN wordB s d i) := by
  induction d with
  | zero =>
    intro k i h0 hd hk
    obtain ⟨k, rfl⟩ : ∃ m, k = m + 1 := ⟨k - 1, by omega⟩
    simp (disch := omega) only [impl_nameOk.l0, w64, if_neg, allN]
  | succ d ih =>
    intro k i h0 hd hk
    obtain ⟨k, rfl⟩ : ∃ m, k = m + 1 := ⟨k - 1, by omega⟩
    simp (disch := omega) only [impl_nameOk.l0, w64, if_pos, impl_isWord_ok, Option.bind_some, allN]
    cases wordB (bt s i) with
    | true => rw [if_pos rfl, Bool.true_and]; exact ih k (i + 1) (by omega) (by omega) (by omega)
    | false => rw [if_neg (by decide), Bool.false_and]
theorem impl_nameOk_ok (s : ByteArray) (hs : s.size ≤ 9223372036854775807) (k : Nat) (hk : 70 ≤ k) : impl_nameOk.f k s = some (nameM s) := by
  obtain ⟨k, rfl⟩ : ∃ m, k = m + 1 := ⟨k - 1, by omega⟩
  have jt : impl_nameOk.j0 (k + 1) s true = some false := by simp only [impl_nameOk.j0, if_true]
  unfold impl_nameOk.f nameM
  by_cases h60 : (s.size : Int) > 60
  · rw [if_pos h60, jt, show decide (1 ≤ s.size ∧ s.size ≤ 60 ∧ bt s 0 = 33 ∧ bt s ((s.size : Int) - 1) = 33) = false by simp only [decide_eq_false_iff_not]; omega, Bool.false_and]
  · rw [if_neg h60]
    by_cases h0 : s.size = 0
    · rw [if_pos (tl_nil.mpr h0), jt, show decide (1 ≤ s.size ∧ s.size ≤ 60 ∧ bt s 0 = 33 ∧ bt s ((s.size : Int) - 1) = 33) = false by simp only [decide_eq_false_iff_not]; omega, Bool.false_and]
    · rw [if_neg (fun c => h0 (tl_nil.mp c)), if_pos (by omega), w64 (by omega) (by omega)]
      by_cases hb : bt s 0 = 33
      · rw [if_pos hb, if_pos (by omega), if_pos (by omega)]
        by_cases hl : bt s ((s.size : Int) - 1) = 33
        · rw [show (bt s ((s.size : Int) - 1) != 33) = false by simp [hl]]
          simp only [impl_nameOk.j0, Bool.false_eq_true, if_false]
          rw [show decide (1 ≤ s.size ∧ s.size ≤ 60 ∧ bt s 0 = 33 ∧ bt s ((s.size : Int) - 1) = 33) = true by simp only [decide_eq_true_eq]; omega, Bool.true_and]
          by_cases h1 : s.size = 1
          · obtain ⟨k, rfl⟩ : ∃ m, k = m + 1 := ⟨k - 1, by omega⟩
            rw [h1]
            rw [impl_nameOk.l0, w64 (by omega) (by omega), if_neg (by omega)]
            rfl
          · exact impl_nameOk_l0 s (by omega) (s.size - 2) k 1 (by omega) (by omega) (by omega)
        · rw [show (bt s ((s.size : Int) - 1) != 33) = true by simp [hl], jt, show decide (1 ≤ s.size ∧ s.size ≤ 60 ∧ bt s 0 = 33 ∧ bt s ((s.size : Int) - 1) = 33) = false by simp only [decide_eq_false_iff_not]; omega, Bool.false_and]
      · rw [if_neg hb, jt, show decide (1 ≤ s.size ∧ s.size ≤ 60 ∧ bt s 0 = 33 ∧ bt s ((s.size : Int) - 1) = 33) = false by simp only [decide_eq_false_iff_not]; omega, Bool.false_and]

theorem impl_TagRead_l0 (n rest : ByteArray) (hn : rest.size ≤ 4194304) (l : List S51) (hl : l.length ≤ 4194304) (hz : tot2 (l.map pr51) ≤ 4194304) (d : Nat) : ∀ (k : Nat) (i : Int), 0 ≤ i → (l.length : Int) - i = d → d < k → tot2 ((l.drop i.toNat).map pr51) ≤ 4194304 →
    impl_TagRead.l0 k n rest l (l.length : Int) i = some (if (prefixM n ((l.drop i.toNat).map pr51)).size = 0 then ((⟨#[]⟩ : ByteArray), false) else (prefixM n ((l.drop i.toNat).map pr51) ++ rest, true)) := by
  induction d with
  | zero =>
    intro k i h0 hd hk _
    obtain ⟨k, rfl⟩ : ∃ m, k = m + 1 := ⟨k - 1, by omega⟩
    rw [impl_TagRead.l0, if_neg (by omega), drop_end _ _ (by omega)]
    rw [List.map_nil, prefixM_nil]
    by_cases c2 : n.toList = ([33, 33] : List UInt8)
    · rw [if_pos c2, if_pos c2, if_pos (by omega), if_neg (show ¬ coreTag.size = 0 by decide)]
      rfl
    · rw [if_neg c2, if_neg c2]
      by_cases c1 : n.toList = ([33] : List UInt8)
      · rw [if_pos c1, if_pos c1, if_pos (by omega), if_neg (show ¬ (⟨#[33]⟩ : ByteArray).size = 0 by decide)]
      · rw [if_neg c1, if_neg c1, if_pos (show (⟨#[]⟩ : ByteArray).size = 0 from rfl)]
  | succ d ih =>
    intro k i h0 hd hk ht
    obtain ⟨k, rfl⟩ : ∃ m, k = m + 1 := ⟨k - 1, by omega⟩
    have hi : i < (l.length : Int) := by omega
    have hdr : l.drop i.toNat = rd_T51 l i :: l.drop (i + 1).toNat := drop_at z51 l i h0 hi
    rw [hdr, List.map_cons] at ht
    rw [impl_TagRead.l0, if_pos hi, if_pos h0, if_pos hi, hdr, List.map_cons]
    have hpx : pr51 (rd_T51 l i) = ((rd_T51 l i).f0, (rd_T51 l i).f1) := rfl
    rw [hpx] at ht ⊢
    simp only [tot2] at ht
    by_cases c : (rd_T51 l i).f0 = n
    · have hp : prefixM n (((rd_T51 l i).f0, (rd_T51 l i).f1) :: (l.drop (i + 1).toNat).map pr51) = (rd_T51 l i).f1 := by
        unfold prefixM; simp only [lookH]; rw [if_pos c]
      rw [if_pos (by rw [c]), hp]
      by_cases cz : (rd_T51 l i).f1.size = 0
      · rw [if_pos (tl_nil.mpr cz), if_pos cz]
      · rw [if_neg (fun h => cz (tl_nil.mp h)), if_pos (by omega), if_neg cz]
    · have hp : prefixM n (((rd_T51 l i).f0, (rd_T51 l i).f1) :: (l.drop (i + 1).toNat).map pr51) = prefixM n ((l.drop (i + 1).toNat).map pr51) := by
        unfold prefixM; simp only [lookH]; rw [if_neg c]
      rw [if_neg (fun h => c (tl_inj.mp h)), hp, w64 (by omega) (by omega)]
      exact ih k (i + 1) (by omega) (by omega) (by omega) (by omega)
theorem impl_TagRead_ok (raw : ByteArray) (l : List S51) (hr : raw.size ≤ 4194304) (hl : l.length ≤ 4194304) (hz : tot2 (l.map pr51) ≤ 4194304) (k : Nat) (hk : raw.size + l.length + 90 ≤ k) :
    impl_TagRead.f k raw l = some (tagReadM raw (l.map pr51)) := by
  obtain ⟨k, rfl⟩ : ∃ m, k = m + 3 := ⟨k - 3, by omega⟩
  have jt : impl_TagRead.j0 (k + 3) raw l true = some ((⟨#[]⟩ : ByteArray), false) := by rw [impl_TagRead.j0, if_pos rfl]
  unfold impl_TagRead.f tagReadM
  by_cases c0 : raw.size = 0
  · rw [if_pos (tl_nil.mpr c0), jt, if_pos (.inl c0)]
  · rw [if_neg (fun h => c0 (tl_nil.mp h)), if_pos (by omega)]
    by_cases cb : bt raw 0 = 33
    · rw [show (bt raw 0 != 33) = false by simp [cb], if_neg (show ¬ (raw.size = 0 ∨ ¬ bt raw 0 = 33) from fun h => h.elim c0 (fun h => h cb)), impl_TagRead.j0, if_neg (by decide)]
      have l0 := lastM_lo 33 raw raw.size
      have l1 := lastM_hi (c := 33) (s := raw) (p := (raw.size : Int)) (by omega)
      have tail : ¬ raw.size = 1 → impl_TagRead.j1 (k + 2) raw l false = some (if (lastM 33 raw raw.size).toNat = raw.size ∨ nameM (raw.extract 0 (lastM 33 raw raw.size).toNat) = false ∨ (prefixM (raw.extract 0 (lastM 33 raw raw.size).toNat) (l.map pr51)).size = 0 then ((⟨#[]⟩ : ByteArray), false)
          else (prefixM (raw.extract 0 (lastM 33 raw raw.size).toNat) (l.map pr51) ++ raw.extract (lastM 33 raw raw.size).toNat raw.size, true)) := fun c1 => by
        rw [impl_TagRead.j1, if_neg (by decide), if_neg (fun h => c1 (tl_one.mp h).1), strings_LastIndexByte_ok raw 33 (by omega) (k + 1) (by omega), Option.bind_some]
        generalize lastM 33 raw raw.size = e at l0 l1 ⊢
        rw [w64 (by omega) (by omega), show e - 1 + 1 = e by omega, if_pos l0, if_pos l1]
        have hx : (raw.extract e.toNat raw.size).size = raw.size - e.toNat := size_ext _ _ _ (Nat.le_refl _)
        have hn : (raw.extract 0 e.toNat).size = e.toNat := by rw [size_ext _ _ _ (by omega)]; omega
        by_cases ce : e.toNat = raw.size
        · rw [if_pos (tl_nil.mpr (by omega)), impl_TagRead.j2, if_pos rfl, if_pos (.inl ce)]
        · rw [if_neg (fun h => by have := tl_nil.mp h; omega), impl_nameOk_ok _ (by omega) (k + 1) (by omega), Option.bind_some]
          cases hnm : nameM (raw.extract 0 e.toNat) with
          | false => rw [show (!false) = true from rfl, impl_TagRead.j2, if_pos rfl, if_pos (.inr (.inl rfl))]
          | true =>
            rw [show (!true) = false from rfl, impl_TagRead.j2, if_neg (by decide)]
            have := impl_TagRead_l0 (raw.extract 0 e.toNat) (raw.extract e.toNat raw.size) (by omega) l hl hz l.length k 0 (by omega) (by omega) (by omega) hz
            rw [show (0 : Int).toNat = 0 from rfl, List.drop_zero] at this
            rw [this]
            by_cases cp : (prefixM (raw.extract 0 e.toNat) (l.map pr51)).size = 0
            · rw [if_pos cp, if_pos (.inr (.inr cp))]
            · rw [if_neg cp, if_neg (show ¬ (e.toNat = raw.size ∨ true = false ∨ (prefixM (raw.extract 0 e.toNat) (l.map pr51)).size = 0) from fun h => by
                rcases h with h | h | h
                · omega
                · cases h
                · exact cp h)]
      by_cases c1 : raw.size = 1
      · rw [if_neg (by omega), if_pos c1, impl_TagRead.j1, if_neg (by decide), if_pos ((tl_one (c := 33)).mpr ⟨c1, cb⟩)]
      · rw [if_neg c1]
        by_cases c3 : (raw.size : Int) > 3
        · rw [if_pos c3, if_pos (by omega), w64 (by omega) (by omega)]
          by_cases c60 : bt raw 1 = 60
          · rw [if_pos c60, if_pos (by omega), if_pos (by omega)]
            by_cases c62 : bt raw ((raw.size : Int) - 1) = 62
            · rw [show (bt raw ((raw.size : Int) - 1) == 62) = true by simp [c62], if_pos (show raw.size > 3 ∧ bt raw 1 = 60 ∧ bt raw ((raw.size : Int) - 1) = 62 from ⟨by omega, c60, c62⟩), impl_TagRead.j1, if_pos rfl, w64 (by omega) (by omega), if_pos (by omega), if_pos (by omega), show ((raw.size : Int) - 1).toNat = raw.size - 1 by omega]
            · rw [show (bt raw ((raw.size : Int) - 1) == 62) = false by simp [c62], if_neg (show ¬ (raw.size > 3 ∧ bt raw 1 = 60 ∧ bt raw ((raw.size : Int) - 1) = 62) from fun h => c62 h.2.2)]
              exact tail c1
          · rw [if_neg c60, if_neg (show ¬ (raw.size > 3 ∧ bt raw 1 = 60 ∧ bt raw ((raw.size : Int) - 1) = 62) from fun h => c60 h.2.1)]
            exact tail c1
        · rw [if_neg c3, if_neg (show ¬ (raw.size > 3 ∧ bt raw 1 = 60 ∧ bt raw ((raw.size : Int) - 1) = 62) from fun h => c3 (by omega))]
          exact tail c1
    · rw [show (bt raw 0 != 33) = true by simp [cb], jt, if_pos (.inr cb)]

def tot111 : List S111 → Nat
  | [] => 0
  | x :: r => x.f0.size + x.f1.size + tot111 r
theorem laws_szHandleS_l0 (l : List S111) (hl : l.length ≤ 9223372036854775807) (hb : ∀ a ∈ l, (a.f0.size ≤ 9223372036854775807) ∧ a.f1.size ≤ 9223372036854775807) (d : Nat) : ∀ (k : Nat) (x i : Int), 0 ≤ i → (l.length : Int) - i = d → 0 ≤ x → x ≤ 1048576 → d < k →
    ∃ r, laws_szHandleS.l0 k l x i = some r ∧ (r < 0 ∨ (tot111 (l.drop i.toNat) : Int) ≤ x) := by
  induction d with
  | zero =>
    intro k x i h0 hd hx hx1 hk
    obtain ⟨k, rfl⟩ : ∃ m, k = m + 1 := ⟨k - 1, by omega⟩
    refine ⟨x, by rw [laws_szHandleS.l0, if_neg (by omega)], .inr ?_⟩
    rw [drop_end _ _ (by omega)]
    exact hx
  | succ d ih =>
    intro k x i h0 hd hx hx1 hk
    obtain ⟨k, rfl⟩ : ∃ m, k = m + 1 := ⟨k - 1, by omega⟩
    have hi : i < (l.length : Int) := by omega
    have hm : (rd_T111 l i).f0.size ≤ 9223372036854775807 := by
      have := getD_some z111 l i h0 hi
      exact (hb _ (List.mem_of_getElem? this)).1
    have hm2 : (rd_T111 l i).f1.size ≤ 9223372036854775807 := by
      have := getD_some z111 l i h0 hi
      exact (hb _ (List.mem_of_getElem? this)).2
    have e : wrap64 (x - ((rd_T111 l i).f0.size : Int)) = x - (rd_T111 l i).f0.size := w64 (by omega) (by omega)
    rw [laws_szHandleS.l0, if_pos hi, if_pos h0]
    unfold laws_szHandle.f
    rw [e, w64 (n := i + 1) (by omega) (by omega)]
    by_cases hn : x - ((rd_T111 l i).f0.size : Int) < 0
    · rw [if_pos hn, Option.bind_some, if_pos (by omega)]
      exact ⟨-1, rfl, .inl (by omega)⟩
    · rw [if_neg hn, w64 (n := x - ((rd_T111 l i).f0.size : Int) - ((rd_T111 l i).f1.size : Int)) (by omega) (by omega)]
      by_cases hn2 : x - ((rd_T111 l i).f0.size : Int) - ((rd_T111 l i).f1.size : Int) < 0
      · rw [if_pos hn2, Option.bind_some, if_pos (by omega)]
        exact ⟨-1, rfl, .inl (by omega)⟩
      · rw [if_neg hn2, Option.bind_some, if_neg hn2]
        obtain ⟨r, hr, hs⟩ := ih k (x - (rd_T111 l i).f0.size - (rd_T111 l i).f1.size) (i + 1) (by omega) (by omega) (by omega) (by omega) (by omega)
        refine ⟨r, hr, hs.imp id fun h => ?_⟩
        rw [drop_at z111 l i h0 hi]
        show (((rd_T111 l i).f0.size + (rd_T111 l i).f1.size + tot111 (l.drop (i + 1).toNat) : Nat) : Int) ≤ x
        omega
theorem laws_szHandleS_ok (l : List S111) (hl : l.length ≤ 9223372036854775807) (hb : ∀ a ∈ l, (a.f0.size ≤ 9223372036854775807) ∧ a.f1.size ≤ 9223372036854775807) (k : Nat) (hk : l.length < k) :
    ∃ r, laws_szHandleS.f k l 1048576 = some r ∧ (r < 0 ∨ l.length + tot111 l ≤ 1048576) := by
  unfold laws_szHandleS.f
  rw [w64 (by omega) (by omega)]
  by_cases hn : (1048576 : Int) - (l.length : Int) < 0
  · rw [if_pos hn]
    exact ⟨-1, rfl, .inl (by omega)⟩
  · rw [if_neg hn]
    obtain ⟨r, hr, hs⟩ := laws_szHandleS_l0 l hl hb l.length k (1048576 - (l.length : Int)) 0 (by omega) (by omega) (by omega) (by omega) hk
    refine ⟨r, hr, hs.imp id fun h => ?_⟩
    rw [show (0 : Int).toNat = 0 from rfl, List.drop_zero] at h
    omega

theorem spec_l04Prefix_l0 (n : ByteArray) (l : List S51) (hl : l.length ≤ 4194304) (d : Nat) : ∀ (k : Nat) (i : Int), 0 ≤ i → (l.length : Int) - i = d → d < k →
    spec_l04Prefix.l0 k n l (l.length : Int) i = some (prefixM n ((l.drop i.toNat).map pr51)) := by
  induction d with
  | zero =>
    intro k i h0 hd hk
    obtain ⟨k, rfl⟩ : ∃ m, k = m + 1 := ⟨k - 1, by omega⟩
    rw [spec_l04Prefix.l0, if_neg (by omega), drop_end _ _ (by omega)]
    rw [List.map_nil, prefixM_nil]
    split
    · rfl
    · split <;> rfl
  | succ d ih =>
    intro k i h0 hd hk
    obtain ⟨k, rfl⟩ : ∃ m, k = m + 1 := ⟨k - 1, by omega⟩
    have hi : i < (l.length : Int) := by omega
    have hdr : l.drop i.toNat = rd_T51 l i :: l.drop (i + 1).toNat := drop_at z51 l i h0 hi
    rw [spec_l04Prefix.l0, if_pos hi, if_pos h0, if_pos hi, hdr, List.map_cons]
    have hpx : pr51 (rd_T51 l i) = ((rd_T51 l i).f0, (rd_T51 l i).f1) := rfl
    rw [hpx]
    unfold prefixM
    simp only [lookH]
    by_cases c : (rd_T51 l i).f0 = n
    · rw [if_pos (by rw [c]), if_pos c]
    · rw [if_neg (fun h => c (tl_inj.mp h)), if_neg c, w64 (by omega) (by omega)]
      exact ih k (i + 1) (by omega) (by omega) (by omega)
theorem spec_l04Prefix_ok (n : ByteArray) (l : List S51) (hl : l.length ≤ 4194304) (k : Nat) (hk : l.length < k) : spec_l04Prefix.f k n l = some (prefixM n (l.map pr51)) :=
  spec_l04Prefix_l0 n l hl l.length k 0 (by omega) (by omega) hk

theorem spec_l04Word_l0 (s : ByteArray) (hs : s.size ≤ 140737488351232) (d : Nat) : ∀ (k : Nat) (i : Int), 0 ≤ i → (s.size : Int) - i = d → d < k → spec_l04Word.l0 k s i = some (allN wordB s d i) := by
  induction d with
  | zero =>
    intro k i h0 hd hk
    obtain ⟨k, rfl⟩ : ∃ m, k = m + 1 := ⟨k - 1, by omega⟩
    rw [spec_l04Word.l0, if_neg (by omega)]
    rfl
  | succ d ih =>
    intro k i h0 hd hk
    obtain ⟨k, rfl⟩ : ∃ m, k = m + 1 := ⟨k - 1, by omega⟩
    have e : spec_l04Word.l0 k s (i + 1) = some (allN wordB s d (i + 1)) := ih k (i + 1) (by omega) (by omega) (by omega)
    rw [spec_l04Word.l0, if_pos (by omega), if_pos h0, w64 (by omega) (by omega), e]
    simp only [allN]
    generalize allN wordB s d (i + 1) = v
    generalize bt s i = b
    by_cases hw : wordB b = true
    · rw [hw, Bool.true_and]
      rw [wordB_iff] at hw
      repeat' split
      all_goals first | rfl | (exfalso; omega)
    · rw [Bool.not_eq_true] at hw
      rw [hw, Bool.false_and]
      rw [wordB_not] at hw
      repeat' split
      all_goals first | rfl | (exfalso; omega)
theorem spec_l04Word_ok (s : ByteArray) (hs : s.size ≤ 140737488351232) (k : Nat) (hk : s.size < k) : spec_l04Word.f k s = some (allN wordB s s.size 0) :=
  spec_l04Word_l0 s hs s.size k 0 (by omega) (by omega) hk

theorem spec_l04Name_ok (s : ByteArray) (hs : s.size ≤ 9223372036854775807) (k : Nat) (hk : 70 ≤ k) : spec_l04Name.f k s = some (nameM s) := by
  unfold spec_l04Name.f nameM
  by_cases c1 : s.toList = ([33] : List UInt8)
  · rw [if_pos c1]
    have c1' := tl_one.mp c1
    have hb : bt s 0 = 33 := c1'.2
    rw [c1'.1, show decide (1 ≤ 1 ∧ 1 ≤ 60 ∧ bt s 0 = 33 ∧ bt s (((1 : Nat) : Int) - 1) = 33) = true by simp only [decide_eq_true_eq]; exact ⟨by omega, by omega, hb, hb⟩]
    rfl
  · rw [if_neg c1]
    have n1 : ¬ (s.size = 1 ∧ bt s 0 = 33) := fun h => c1 (tl_one.mpr ⟨h.1, h.2⟩)
    by_cases c2 : s.toList = ([33, 33] : List UInt8)
    · rw [if_pos c2]
      have c2' := tl_two.mp c2
      have hb : bt s 0 = 33 := c2'.2.1
      have hb1 : bt s 1 = 33 := c2'.2.2
      rw [c2'.1, show decide (1 ≤ 2 ∧ 2 ≤ 60 ∧ bt s 0 = 33 ∧ bt s (((2 : Nat) : Int) - 1) = 33) = true by simp only [decide_eq_true_eq]; exact ⟨by omega, by omega, hb, hb1⟩]
      rfl
    · rw [if_neg c2]
      have n2 : ¬ (s.size = 2 ∧ bt s 0 = 33 ∧ bt s 1 = 33) := fun h => c2 (tl_two.mpr ⟨h.1, h.2.1, h.2.2⟩)
      have hno : ¬ (3 ≤ s.size ∧ s.size ≤ 60 ∧ bt s 0 = 33 ∧ bt s ((s.size : Int) - 1) = 33) → decide (1 ≤ s.size ∧ s.size ≤ 60 ∧ bt s 0 = 33 ∧ bt s ((s.size : Int) - 1) = 33) = false := fun h => by
        simp only [decide_eq_false_iff_not]
        intro ⟨a, b, c, d⟩
        by_cases e1 : s.size = 1
        · exact n1 ⟨e1, c⟩
        · by_cases e2 : s.size = 2
          · rw [e2] at d
            exact n2 ⟨e2, c, d⟩
          · exact h ⟨by omega, b, c, d⟩
      by_cases h2 : (s.size : Int) > 2
      · rw [if_pos h2]
        by_cases h60 : (s.size : Int) ≤ 60
        · rw [if_pos h60, if_pos (by omega), w64 (by omega) (by omega)]
          by_cases hb : bt s 0 = 33
          · rw [if_pos hb, if_pos (by omega), if_pos (by omega)]
            by_cases hl : bt s ((s.size : Int) - 1) = 33
            · rw [if_pos hl, if_pos (by omega), if_pos (by omega)]
              have hz : (s.extract 1 ((s.size : Int) - 1).toNat).size = s.size - 2 := by rw [size_ext _ _ _ (by omega)]; omega
              rw [spec_l04Word_ok _ (by omega) k (by omega), Option.bind_some, hz, allN_ext (by omega) _ 0 (by omega) (by omega)]
              rw [show decide (1 ≤ s.size ∧ s.size ≤ 60 ∧ bt s 0 = 33 ∧ bt s ((s.size : Int) - 1) = 33) = true by simp only [decide_eq_true_eq]; omega, Bool.true_and]
              rfl
            · rw [if_neg hl, hno (fun h => hl h.2.2.2), Bool.false_and]
          · rw [if_neg hb, hno (fun h => hb h.2.2.1), Bool.false_and]
        · rw [if_neg h60, hno (by omega), Bool.false_and]
      · rw [if_neg h2, hno (by omega), Bool.false_and]

theorem spec_TagRead_l0 (raw : ByteArray) (l : List S51) (hr : raw.size ≤ 4194304) (hl : l.length ≤ 4194304) (hz : tot2 (l.map pr51) ≤ 4194304) (hb : bt raw 0 = 33) (d : Nat) : ∀ (k : Nat) (i : Int), 1 ≤ i → i ≤ raw.size → i ≤ d → d + l.length + 80 ≤ k →
    spec_TagRead.l0 k raw l (raw.size : Int) i = some (if (lastM 33 raw i).toNat = raw.size ∨ nameM (raw.extract 0 (lastM 33 raw i).toNat) = false ∨ (prefixM (raw.extract 0 (lastM 33 raw i).toNat) (l.map pr51)).size = 0 then ((⟨#[]⟩ : ByteArray), false)
      else (prefixM (raw.extract 0 (lastM 33 raw i).toNat) (l.map pr51) ++ raw.extract (lastM 33 raw i).toNat raw.size, true)) := by
  induction d with
  | zero => intro k i h0 h1 hd hk; omega
  | succ d ih =>
    intro k i h0 h1 hd hk
    obtain ⟨k, rfl⟩ : ∃ m, k = m + 1 := ⟨k - 1, by omega⟩
    rw [spec_TagRead.l0, w64 (by omega) (by omega), if_pos (by omega), if_pos (by omega)]
    by_cases c : bt raw (i - 1) = 33
    · rw [if_pos c, if_pos (by omega), if_pos h1, spec_l04Prefix_ok _ l hl k (by omega), Option.bind_some, lastM_hit (by omega) c]
      have hp := prefixM_size (raw.extract 0 i.toNat) (l.map pr51)
      have hx : (raw.extract i.toNat raw.size).size = raw.size - i.toNat := size_ext _ _ _ (Nat.le_refl _)
      have hn : (raw.extract 0 i.toNat).size = i.toNat := by rw [size_ext _ _ _ (by omega)]; omega
      generalize prefixM (raw.extract 0 i.toNat) (l.map pr51) = pre at hp ⊢
      by_cases ce : i = (raw.size : Int)
      · rw [if_pos ce, if_pos (.inl (by omega))]
      · rw [if_neg ce, spec_l04Name_ok _ (by omega) k (by omega), Option.bind_some]
        cases hnm : nameM (raw.extract 0 i.toNat) with
        | false => rw [if_neg (by decide), if_pos (.inr (.inl rfl))]
        | true =>
          rw [if_pos rfl]
          by_cases cp : pre.size = 0
          · rw [if_pos (tl_nil.mpr cp), if_pos (.inr (.inr cp))]
          · rw [if_neg (fun h => cp (tl_nil.mp h)), if_pos (by omega), if_neg (show ¬ (i.toNat = raw.size ∨ true = false ∨ pre.size = 0) from fun h => by
              rcases h with h | h | h
              · omega
              · cases h
              · exact cp h)]
    · have hi : i ≠ 1 := fun e => by subst e; exact c hb
      rw [if_neg c, lastM_prev (by omega) c]
      exact ih k (i - 1) (by omega) (by omega) (by omega) (by omega)
theorem spec_TagRead_ok (raw : ByteArray) (l : List S51) (hr : raw.size ≤ 4194304) (hl : l.length ≤ 4194304) (hz : tot2 (l.map pr51) ≤ 4194304) (k : Nat) (hk : raw.size + l.length + 90 ≤ k) :
    spec_TagRead.f k raw l = some (tagReadM raw (l.map pr51)) := by
  obtain ⟨k, rfl⟩ : ∃ m, k = m + 2 := ⟨k - 2, by omega⟩
  have jt : spec_TagRead.j0 (k + 2) raw l (raw.size : Int) true = some ((⟨#[]⟩ : ByteArray), false) := by rw [spec_TagRead.j0, if_pos rfl]
  unfold spec_TagRead.f tagReadM
  by_cases c0 : raw.size = 0
  · rw [if_pos (by omega), jt, if_pos (.inl c0)]
  · rw [if_neg (by omega), if_pos (by omega)]
    by_cases cb : bt raw 0 = 33
    · rw [show (bt raw 0 != 33) = false by simp [cb], if_neg (show ¬ (raw.size = 0 ∨ ¬ bt raw 0 = 33) from fun h => h.elim c0 (fun h => h cb)), spec_TagRead.j0, if_neg (by decide)]
      by_cases c1 : raw.size = 1
      · rw [if_pos ((tl_one (c := 33)).mpr ⟨c1, cb⟩), if_pos c1]
      · rw [if_neg (fun h => c1 (tl_one.mp h).1), if_neg c1]
        have tail : spec_TagRead.j1 (k + 1) raw l (raw.size : Int) false = some (if (lastM 33 raw raw.size).toNat = raw.size ∨ nameM (raw.extract 0 (lastM 33 raw raw.size).toNat) = false ∨ (prefixM (raw.extract 0 (lastM 33 raw raw.size).toNat) (l.map pr51)).size = 0 then ((⟨#[]⟩ : ByteArray), false)
            else (prefixM (raw.extract 0 (lastM 33 raw raw.size).toNat) (l.map pr51) ++ raw.extract (lastM 33 raw raw.size).toNat raw.size, true)) := by
          rw [spec_TagRead.j1, if_neg (by decide)]
          exact spec_TagRead_l0 raw l hr hl hz cb raw.size k raw.size (by omega) (by omega) (by omega) (by omega)
        by_cases c3 : (raw.size : Int) > 3
        · rw [if_pos c3, if_pos (by omega), w64 (by omega) (by omega)]
          by_cases c60 : bt raw 1 = 60
          · rw [if_pos c60, if_pos (by omega), if_pos (by omega)]
            by_cases c62 : bt raw ((raw.size : Int) - 1) = 62
            · rw [show (bt raw ((raw.size : Int) - 1) == 62) = true by simp [c62], if_pos (show raw.size > 3 ∧ bt raw 1 = 60 ∧ bt raw ((raw.size : Int) - 1) = 62 from ⟨by omega, c60, c62⟩), spec_TagRead.j1, if_pos rfl, w64 (by omega) (by omega), if_pos (by omega), if_pos (by omega), show ((raw.size : Int) - 1).toNat = raw.size - 1 by omega]
            · rw [show (bt raw ((raw.size : Int) - 1) == 62) = false by simp [c62], if_neg (show ¬ (raw.size > 3 ∧ bt raw 1 = 60 ∧ bt raw ((raw.size : Int) - 1) = 62) from fun h => c62 h.2.2)]
              exact tail
          · rw [if_neg c60, if_neg (show ¬ (raw.size > 3 ∧ bt raw 1 = 60 ∧ bt raw ((raw.size : Int) - 1) = 62) from fun h => c60 h.2.1)]
            exact tail
        · rw [if_neg c3, if_neg (show ¬ (raw.size > 3 ∧ bt raw 1 = 60 ∧ bt raw ((raw.size : Int) - 1) = 62) from fun h => c3 (by omega))]
          exact tail
    · rw [show (bt raw 0 != 33) = true by simp [cb], jt, if_pos (.inr cb)]

def cv111 (x : S111) : S51 := ⟨x.f0, x.f1⟩
theorem laws_toHandleS_l0 (l : List S111) (hl : l.length ≤ 1048576) (z : S51) (d : Nat) : ∀ (k : Nat) (i : Int), 0 ≤ i → (l.length : Int) - i = d → d < k →
    laws_toHandleS.l0 k l ((l.map cv111).take i.toNat ++ List.replicate ((l.map cv111).length - i.toNat) z) i = some (l.map cv111) := by
  have hlm : (l.map cv111).length = l.length := List.length_map _
  induction d with
  | zero =>
    intro k i h0 hd hk
    obtain ⟨k, rfl⟩ : ∃ m, k = m + 1 := ⟨k - 1, by omega⟩
    rw [laws_toHandleS.l0, if_neg (by omega), copy_end z _ i (by omega)]
  | succ d ih =>
    intro k i h0 hd hk
    obtain ⟨k, rfl⟩ : ∃ m, k = m + 1 := ⟨k - 1, by omega⟩
    have hi : i < (l.length : Int) := by omega
    have hv : (l.map cv111)[i.toNat]? = some (⟨(rd_T111 l i).f0, (rd_T111 l i).f1⟩ : S51) := by
      rw [List.getElem?_map, getD_some z111 l i h0 hi]
      rfl
    rw [laws_toHandleS.l0, if_pos hi, if_pos h0]
    simp only [laws_toHandle.f, Option.bind_some]
    rw [copy_len z _ i h0 (by omega), hlm, if_pos hi, ← hlm, copy_set z _ _ i h0 (by omega) hv, w64 (by omega) (by omega)]
    exact ih k (i + 1) (by omega) (by omega) (by omega)
theorem laws_toHandleS_ok (l : List S111) (hl : l.length ≤ 1048576) (k : Nat) (hk : l.length < k) : laws_toHandleS.f k l = some (l.map cv111) := by
  unfold laws_toHandleS.f
  rw [if_pos (by omega), if_pos (by omega)]
  have := laws_toHandleS_l0 l hl z51 l.length k 0 (by omega) (by omega) hk
  rw [List.length_map] at this
  exact this

theorem laws_eqHandleS_l0 (l : List S51) (hl : l.length ≤ 1048576) (d : Nat) : ∀ (k : Nat) (i : Int), 0 ≤ i → (l.length : Int) - i = d → d < k → laws_eqHandleS.l0 k l l i = some true := by
  induction d with
  | zero =>
    intro k i h0 hd hk
    obtain ⟨k, rfl⟩ : ∃ m, k = m + 1 := ⟨k - 1, by omega⟩
    rw [laws_eqHandleS.l0, if_neg (by omega)]
  | succ d ih =>
    intro k i h0 hd hk
    obtain ⟨k, rfl⟩ : ∃ m, k = m + 1 := ⟨k - 1, by omega⟩
    rw [laws_eqHandleS.l0, if_pos (by omega), if_pos h0, if_pos (by omega)]
    unfold laws_eqHandle.f
    rw [if_pos rfl, if_pos rfl, Option.bind_some, if_pos rfl, w64 (by omega) (by omega)]
    exact ih k (i + 1) (by omega) (by omega) (by omega)
theorem laws_eqHandleS_ok (l : List S51) (hl : l.length ≤ 1048576) (k : Nat) (hk : l.length < k) : laws_eqHandleS.f k l l = some true := by
  unfold laws_eqHandleS.f
  rw [if_pos rfl]
  exact laws_eqHandleS_l0 l hl l.length k 0 (by omega) (by omega) hk

theorem tot_h (l : List S111) : tot2 ((l.map cv111).map pr51) = tot111 l := by
  induction l with
  | nil => rfl
  | cons x r ih =>
    show x.f0.size + x.f1.size + tot2 ((r.map cv111).map pr51) = x.f0.size + x.f1.size + tot111 r
    rw [ih]
theorem FnExactTagRead : ∀ (a0 : ByteArray) (l1 : List (S111)), a0.size ≤ 140737488351232 → l1.length ≤ 9223372036854775807 → (∀ a ∈ l1, (a.f0.size ≤ 9223372036854775807) ∧ a.f1.size ≤ 9223372036854775807) → ∃ k, laws_FnExactTagRead.f k a0 l1 = some true := by
  intro raw l hraw hl hb
  by_cases h : (raw.size : Int) > 1048576
  · exact ⟨0, by simp only [laws_FnExactTagRead.f, if_pos h]⟩
  · obtain ⟨k, hk⟩ : ∃ k : Nat, raw.size + l.length + 200 ≤ k := ⟨_, Nat.le_refl _⟩
    obtain ⟨r, hr, hs⟩ := laws_szHandleS_ok l hl hb (k + 1) (by omega)
    refine ⟨k + 1, ?_⟩
    simp only [laws_FnExactTagRead.f, if_neg h, hr, Option.bind_some]
    by_cases hn : r < 0
    · rw [if_pos hn]
    · have hs' := hs.resolve_left hn
      rw [if_neg hn]
      have hm : (l.map cv111).length = l.length := List.length_map _
      have ht := tot_h l
      simp only [laws_toHandleS_ok l (by omega) (k + 1) (by omega), spec_TagRead_ok raw _ (by omega) (by omega : (l.map cv111).length ≤ 4194304) (by omega) (k + 1) (by omega), impl_TagRead_ok raw _ (by omega) (by omega : (l.map cv111).length ≤ 4194304) (by omega) (k + 1) (by omega), Option.bind_some, if_true, bne_self_eq_false, laws_FnExactTagRead.j0, Bool.false_eq_true, if_false, laws_toHandleS_ok l (by omega) k (by omega), laws_eqHandleS_ok _ (by omega : (l.map cv111).length ≤ 1048576) k (by omega)]

end Go.Proofs.Ytjbhflicehnocaa.Pure
