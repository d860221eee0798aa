/- Plain lemmas on bytes and places: no program in sight. -/
import Derived.Test.YtopgcllcmgkibaaWWords
import Derived.Test.YtopgcllcmgkibaaWMore
namespace Go.Proofs.Ytopgcllcmgkibaa.Mine
open Go.RowKit Go.Proofs.YtopgcllcmgkibaaW.PrintWords Go.Proofs.YtopgcllcmgkibaaW.PrintLast Go.Proofs.YtopgcllcmgkibaaW.PrintMore

theorem w64 {n : Int} (h0 : -9223372036854775808 ≤ n) (h1 : n ≤ 9223372036854775807) : wrap64 n = n := by
  unfold wrap64; omega

theorem bt_lo (s : ByteArray) (i : Int) : 0 ≤ bt s i := (bt_range s i).1
theorem bt_hi (s : ByteArray) (i : Int) : bt s i ≤ 255 := (bt_range s i).2

/-! ### a place brought into a text -/
def spotM (s : ByteArray) (p : Int) : Int := if p < 0 then 0 else if p > (s.size : Int) then (s.size : Int) else p
theorem spotM_lo (s : ByteArray) (p : Int) : 0 ≤ spotM s p := by
  unfold spotM; split
  · omega
  · split <;> omega
theorem spotM_hi (s : ByteArray) (p : Int) : spotM s p ≤ (s.size : Int) := by
  unfold spotM; split
  · omega
  · split <;> omega
theorem spotM_in {s : ByteArray} {p : Int} (h0 : 0 ≤ p) (h1 : p ≤ (s.size : Int)) : spotM s p = p := by
  unfold spotM; rw [if_neg (by omega), if_neg (by omega)]
theorem spotM_big {s : ByteArray} {p : Int} (h1 : (s.size : Int) ≤ p) : spotM s p = (s.size : Int) := by
  unfold spotM; rw [if_neg (by omega)]; split <;> omega
theorem spotM_idem (s : ByteArray) (p : Int) : spotM s (spotM s p) = spotM s p := spotM_in (spotM_lo s p) (spotM_hi s p)
theorem mn_mx_spotM (s : ByteArray) (p : Int) : mn (mx p 0) (s.size : Int) = spotM s p := by
  unfold mn mx spotM
  split <;> split <;> (try split) <;> omega

/-! ### the first place from p on whose byte is of a kind, or the end -/
def scan (P : Int → Bool) (s : ByteArray) : Nat → Int → Int
  | 0, i => i
  | d + 1, i => if P (bt s i) = true then i else scan P s d (i + 1)
def upto (P : Int → Bool) (s : ByteArray) (p : Int) : Int := scan P s ((s.size : Int) - p).toNat p
theorem upto_end {P : Int → Bool} {s : ByteArray} {p : Int} (h : (s.size : Int) ≤ p) : upto P s p = p := by
  unfold upto; rw [show ((s.size : Int) - p).toNat = 0 by omega]; rfl
theorem upto_hit {P : Int → Bool} {s : ByteArray} {p : Int} (h : p < (s.size : Int)) (hP : P (bt s p) = true) : upto P s p = p := by
  unfold upto
  obtain ⟨d, hd⟩ : ∃ d, ((s.size : Int) - p).toNat = d + 1 := ⟨((s.size : Int) - p).toNat - 1, by omega⟩
  rw [hd]; simp only [scan, if_pos hP]
theorem upto_next {P : Int → Bool} {s : ByteArray} {p : Int} (h : p < (s.size : Int)) (hP : P (bt s p) = false) : upto P s p = upto P s (p + 1) := by
  unfold upto
  obtain ⟨d, hd⟩ : ∃ d, ((s.size : Int) - p).toNat = d + 1 := ⟨((s.size : Int) - p).toNat - 1, by omega⟩
  rw [hd, show ((s.size : Int) - (p + 1)).toNat = d by omega]; simp only [scan, hP, Bool.false_eq_true, if_false]
theorem upto_ge (P : Int → Bool) (s : ByteArray) (p : Int) : p ≤ upto P s p := by
  unfold upto
  generalize ((s.size : Int) - p).toNat = d
  induction d generalizing p with
  | zero => simp only [scan]; omega
  | succ d ih => simp only [scan]; split
                 · omega
                 · have := ih (p + 1); omega
theorem upto_le {P : Int → Bool} {s : ByteArray} {p : Int} (h : p ≤ (s.size : Int)) : upto P s p ≤ (s.size : Int) := by
  unfold upto
  obtain ⟨d, hd⟩ : ∃ d, ((s.size : Int) - p).toNat = d := ⟨_, rfl⟩
  rw [hd]
  have hp : (s.size : Int) = p + d := by omega
  clear hd
  induction d generalizing p with
  | zero => simp only [scan]; omega
  | succ d ih => simp only [scan]; split
                 · omega
                 · exact ih (by omega) (by omega)
theorem upto_hits {P : Int → Bool} {s : ByteArray} {p : Int} (h : upto P s p < (s.size : Int)) : P (bt s (upto P s p)) = true := by
  unfold upto at *
  obtain ⟨d, hd⟩ : ∃ d, ((s.size : Int) - p).toNat = d := ⟨_, rfl⟩
  rw [hd] at h ⊢
  have hp : (s.size : Int) ≤ p + d := by omega
  clear hd
  induction d generalizing p with
  | zero => simp only [scan] at h; omega
  | succ d ih =>
    simp only [scan] at h ⊢
    split
    · assumption
    · rename_i hn
      rw [if_neg hn] at h
      exact ih h (by omega)
theorem upto_before {P : Int → Bool} {s : ByteArray} {p i : Int} (h0 : p ≤ i) (h1 : i < upto P s p) : P (bt s i) = false := by
  unfold upto at *
  generalize ((s.size : Int) - p).toNat = d at h1
  induction d generalizing p with
  | zero => simp only [scan] at h1; omega
  | succ d ih =>
    simp only [scan] at h1
    split at h1
    · omega
    · rename_i hn
      by_cases e : i = p
      · subst e; simpa using hn
      · exact ih (by omega) h1
theorem upto_is {P : Int → Bool} {s : ByteArray} {p e : Int} (h0 : p ≤ e) (h1 : e ≤ (s.size : Int)) (h2 : e < (s.size : Int) → P (bt s e) = true) (h3 : ∀ i, p ≤ i → i < e → P (bt s i) = false) : upto P s p = e := by
  have a := upto_ge P s p
  have b := upto_le (P := P) (s := s) (p := p) (by omega)
  by_cases c : upto P s p < e
  · have := h3 _ a c
    rw [upto_hits (P := P) (s := s) (p := p) (by omega)] at this
    cases this
  · by_cases d : e < upto P s p
    · have := upto_before (P := P) h0 d
      rw [h2 (by omega)] at this
      cases this
    · omega

/-! ### the place behind the last byte c ahead of a place -/
def lastN (c : Int) (s : ByteArray) : Nat → Int
  | 0 => 0
  | n + 1 => if bt s (n : Int) = c then (n : Int) + 1 else lastN c s n
def lastM (c : Int) (s : ByteArray) (p : Int) : Int := lastN c s p.toNat
theorem lastM_zero (c : Int) (s : ByteArray) : lastM c s 0 = 0 := rfl
theorem lastM_neg {c : Int} {s : ByteArray} {p : Int} (h : p ≤ 0) : lastM c s p = 0 := by
  unfold lastM; rw [show p.toNat = 0 by omega]; rfl
theorem lastM_hit {c : Int} {s : ByteArray} {p : Int} (h : 0 < p) (hb : bt s (p - 1) = c) : lastM c s p = p := by
  unfold lastM
  obtain ⟨n, rfl⟩ : ∃ n : Nat, p = n + 1 := ⟨(p - 1).toNat, by omega⟩
  rw [show ((n : Int) + 1).toNat = n + 1 by omega]
  simp only [lastN]
  rw [if_pos (by rw [← hb]; congr 1; omega)]
theorem lastM_prev {c : Int} {s : ByteArray} {p : Int} (h : 0 < p) (hb : ¬ bt s (p - 1) = c) : lastM c s p = lastM c s (p - 1) := by
  unfold lastM
  obtain ⟨n, rfl⟩ : ∃ n : Nat, p = n + 1 := ⟨(p - 1).toNat, by omega⟩
  rw [show ((n : Int) + 1).toNat = n + 1 by omega, show ((n : Int) + 1 - 1).toNat = n by omega]
  simp only [lastN]
  rw [if_neg (fun e => hb (by rw [← e]; congr 1; omega))]
theorem lastM_lo (c : Int) (s : ByteArray) (p : Int) : 0 ≤ lastM c s p := by
  unfold lastM
  generalize p.toNat = n
  induction n with
  | zero => simp only [lastN]; omega
  | succ n ih => simp only [lastN]; split <;> omega
theorem lastM_hi {c : Int} {s : ByteArray} {p : Int} (h : 0 ≤ p) : lastM c s p ≤ p := by
  unfold lastM
  obtain ⟨n, rfl⟩ : ∃ n : Nat, p = n := ⟨p.toNat, by omega⟩
  rw [show ((n : Int)).toNat = n by omega]
  clear h
  induction n with
  | zero => simp only [lastN]; omega
  | succ n ih => simp only [lastN]; split <;> omega
theorem lastM_ext {c : Int} {s t : ByteArray} {p : Int} (h : ∀ i, 0 ≤ i → i < p → bt s i = bt t i) : lastM c s p = lastM c t p := by
  unfold lastM
  by_cases h0 : 0 ≤ p
  · obtain ⟨n, rfl⟩ : ∃ n : Nat, p = n := ⟨p.toNat, by omega⟩
    rw [show ((n : Int)).toNat = n by omega]
    clear h0
    induction n with
    | zero => rfl
    | succ n ih => simp only [lastN]; rw [h n (by omega) (by omega), ih (fun i a b => h i a (by omega))]
  · rw [show p.toNat = 0 by omega]; rfl

/-! ### parts of a text -/
theorem size_ext (s : ByteArray) (a b : Nat) (h : b ≤ s.size) : (s.extract a b).size = b - a := by
  rw [ByteArray.size_extract]; omega
theorem bt_ext {s : ByteArray} {a b : Nat} {i : Int} (hb : b ≤ s.size) (h0 : 0 ≤ i) (h1 : i < (b : Int) - a) : bt (s.extract a b) i = bt s (a + i) := by
  unfold bt
  rw [dif_pos (by rw [size_ext _ _ _ hb]; omega), dif_pos (by omega)]
  rw [ByteArray.getElem_extract]
  have e : ((a : Int) + i).toNat = a + i.toNat := by omega
  simp only [e]

/-! ### bytes at places, gaps, flow signs -/
def byteM (s : ByteArray) (p : Int) : Int := if spotM s p = (s.size : Int) then -1 else bt s (spotM s p)
theorem byteM_in {s : ByteArray} {p : Int} (h0 : 0 ≤ p) (h1 : p < (s.size : Int)) : byteM s p = bt s p := by
  unfold byteM; rw [spotM_in h0 (by omega), if_neg (by omega)]
theorem byteM_end {s : ByteArray} {p : Int} (h1 : (s.size : Int) ≤ p) : byteM s p = -1 := by
  unfold byteM; rw [spotM_big h1, if_pos rfl]
theorem byteM_lo (s : ByteArray) (p : Int) : -1 ≤ byteM s p := by
  unfold byteM; split
  · omega
  · have := bt_lo s (spotM s p); omega
theorem byteM_hi (s : ByteArray) (p : Int) : byteM s p ≤ 255 := by
  unfold byteM; split
  · omega
  · exact bt_hi _ _
def whB (b : Int) : Bool := decide (b = 32 ∨ b = 9)
def brB (b : Int) : Bool := decide (b = 10 ∨ b < 0)
def gapB (b : Int) : Bool := decide (b = 32 ∨ b = 9 ∨ b = 10 ∨ b < 0)
def flB (b : Int) : Bool := decide (b = 44 ∨ b = 91 ∨ b = 93 ∨ b = 123 ∨ b = 125)
theorem whB_iff {b : Int} : whB b = true ↔ (b = 32 ∨ b = 9) := by simp [whB]
theorem whB_not {b : Int} : whB b = false ↔ ¬ (b = 32 ∨ b = 9) := by simp [whB]
theorem brB_iff {b : Int} : brB b = true ↔ (b = 10 ∨ b < 0) := by simp [brB]
theorem brB_not {b : Int} : brB b = false ↔ ¬ (b = 10 ∨ b < 0) := by simp [brB]
theorem gapB_iff {b : Int} : gapB b = true ↔ (b = 32 ∨ b = 9 ∨ b = 10 ∨ b < 0) := by simp [gapB]
theorem gapB_not {b : Int} : gapB b = false ↔ ¬ (b = 32 ∨ b = 9 ∨ b = 10 ∨ b < 0) := by simp [gapB]
theorem flB_iff {b : Int} : flB b = true ↔ (b = 44 ∨ b = 91 ∨ b = 93 ∨ b = 123 ∨ b = 125) := by simp [flB]
theorem flB_not {b : Int} : flB b = false ↔ ¬ (b = 44 ∨ b = 91 ∨ b = 93 ∨ b = 123 ∨ b = 125) := by simp [flB]

/-! ### lines -/
def lineM (s : ByteArray) (p : Int) : Int := lastM 10 s (spotM s p)
theorem lineM_lo (s : ByteArray) (p : Int) : 0 ≤ lineM s p := lastM_lo _ _ _
theorem lineM_hi (s : ByteArray) (p : Int) : lineM s p ≤ spotM s p := lastM_hi (spotM_lo s p)
theorem lineM_size (s : ByteArray) (p : Int) : lineM s p ≤ (s.size : Int) := by
  have := lineM_hi s p; have := spotM_hi s p; omega
def isLf (b : Int) : Bool := decide (b = 10)
theorem isLf_iff {b : Int} : isLf b = true ↔ b = 10 := by simp [isLf]
theorem isLf_not {b : Int} : isLf b = false ↔ ¬ b = 10 := by simp [isLf]
def endM (s : ByteArray) (p : Int) : Int := upto isLf s (spotM s p)
def noWh (b : Int) : Bool := !whB b
theorem noWh_iff {b : Int} : noWh b = true ↔ ¬ (b = 32 ∨ b = 9) := by simp [noWh, whB]
theorem noWh_not {b : Int} : noWh b = false ↔ (b = 32 ∨ b = 9) := by simp [noWh, whB]; omega
def whiteM (s : ByteArray) (p : Int) : Int := upto noWh s (spotM s p)
def noBl (b : Int) : Bool := decide (b ≠ 32)
theorem noBl_iff {b : Int} : noBl b = true ↔ ¬ b = 32 := by simp [noBl]
theorem noBl_not {b : Int} : noBl b = false ↔ b = 32 := by simp [noBl]
def indentM (s : ByteArray) (p : Int) : Int := upto noBl s (lineM s p) - lineM s p

end Go.Proofs.Ytopgcllcmgkibaa.Mine
