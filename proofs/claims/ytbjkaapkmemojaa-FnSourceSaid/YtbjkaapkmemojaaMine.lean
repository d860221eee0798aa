/- Plain lemmas on bytes and places: no program in sight. -/
import Derived.Test.YtbjkaapkmemojaaWWords
import Derived.Test.YtbjkaapkmemojaaWMore
namespace Go.Proofs.Ytbjkaapkmemojaa.Mine
open Go.RowKit Go.Proofs.YtbjkaapkmemojaaW.PrintWords Go.Proofs.YtbjkaapkmemojaaW.PrintLast Go.Proofs.YtbjkaapkmemojaaW.PrintMore

theorem w64 {n : Int} (h0 : -9223372036854775808 ≤ n) (h1 : n ≤ 9223372036854775807) : wrap64 n = n := by
  unfold wrap64; omega

theorem bt_lo (s : ByteArray) (i : Int) : 0 ≤ bt s i := (bt_range s i).1
theorem bt_hi (s : ByteArray) (i : Int) : bt s i ≤ 255 := (bt_range s i).2

/-! ### a place brought into a text -/
def spotM (s : ByteArray) (p : Int) : Int := if p < 0 then 0 else if p > (s.size : Int) then (s.size : Int) else p
theorem spotM_lo (s : ByteArray) (p : Int) : 0 ≤ spotM s p := by
  unfold spotM; split
  · omega
  · split <;> omega
theorem spotM_hi (s : ByteArray) (p : Int) : spotM s p ≤ (s.size : Int) := by
  unfold spotM; split
  · omega
  · split <;> omega
theorem spotM_in {s : ByteArray} {p : Int} (h0 : 0 ≤ p) (h1 : p ≤ (s.size : Int)) : spotM s p = p := by
  unfold spotM; rw [if_neg (by omega), if_neg (by omega)]
theorem spotM_big {s : ByteArray} {p : Int} (h1 : (s.size : Int) ≤ p) : spotM s p = (s.size : Int) := by
  unfold spotM; rw [if_neg (by omega)]; split <;> omega
theorem spotM_idem (s : ByteArray) (p : Int) : spotM s (spotM s p) = spotM s p := spotM_in (spotM_lo s p) (spotM_hi s p)
theorem mn_mx_spotM (s : ByteArray) (p : Int) : mn (mx p 0) (s.size : Int) = spotM s p := by
  unfold mn mx spotM
  split <;> split <;> (try split) <;> omega

/-! ### the first place from p on whose byte is of a kind, or the end -/
def scan (P : Int → Bool) (s : ByteArray) : Nat → Int → Int
  | 0, i => i
  | d + 1, i => if P (bt s i) = true then i else scan P s d (i + 1)
def upto (P : Int → Bool) (s : ByteArray) (p : Int) : Int := scan P s ((s.size : Int) - p).toNat p
theorem upto_end {P : Int → Bool} {s : ByteArray} {p : Int} (h : (s.size : Int) ≤ p) : upto P s p = p := by
  unfold upto; rw [show ((s.size : Int) - p).toNat = 0 by omega]; rfl
theorem upto_hit {P : Int → Bool} {s : ByteArray} {p : Int} (h : p < (s.size : Int)) (hP : P (bt s p) = true) : upto P s p = p := by
  unfold upto
  obtain ⟨d, hd⟩ : ∃ d, ((s.size : Int) - p).toNat = d + 1 := ⟨((s.size : Int) - p).toNat - 1, by omega⟩
  rw [hd]; simp only [scan, if_pos hP]
theorem upto_next {P : Int → Bool} {s : ByteArray} {p : Int} (h : p < (s.size : Int)) (hP : P (bt s p) = false) : upto P s p = upto P s (p + 1) := by
  unfold upto
  obtain ⟨d, hd⟩ : ∃ d, ((s.size : Int) - p).toNat = d + 1 := ⟨((s.size : Int) - p).toNat - 1, by omega⟩
  rw [hd, show ((s.size : Int) - (p + 1)).toNat = d by omega]; simp only [scan, hP, Bool.false_eq_true, if_false]
theorem upto_ge (P : Int → Bool) (s : ByteArray) (p : Int) : p ≤ upto P s p := by
  unfold upto
  generalize ((s.size : Int) - p).toNat = d
  induction d generalizing p with
  | zero => simp only [scan]; omega
  | succ d ih => simp only [scan]; split
                 · omega
                 · have := ih (p + 1); omega
theorem upto_le {P : Int → Bool} {s : ByteArray} {p : Int} (h : p ≤ (s.size : Int)) : upto P s p ≤ (s.size : Int) := by
  unfold upto
  obtain ⟨d, hd⟩ : ∃ d, ((s.size : Int) - p).toNat = d := ⟨_, rfl⟩
  rw [hd]
  have hp : (s.size : Int) = p + d := by omega
  clear hd
  induction d generalizing p with
  | zero => simp only [scan]; omega
  | succ d ih => simp only [scan]; split
                 · omega
                 · exact ih (by omega) (by omega)
theorem upto_hits {P : Int → Bool} {s : ByteArray} {p : Int} (h : upto P s p < (s.size : Int)) : P (bt s (upto P s p)) = true := by
  unfold upto at *
  obtain ⟨d, hd⟩ : ∃ d, ((s.size : Int) - p).toNat = d := ⟨_, rfl⟩
  rw [hd] at h ⊢
  have hp : (s.size : Int) ≤ p + d := by omega
  clear hd
  induction d generalizing p with
  | zero => simp only [scan] at h; omega
  | succ d ih =>
    simp only [scan] at h ⊢
    split
    · assumption
    · rename_i hn
      rw [if_neg hn] at h
      exact ih h (by omega)
theorem upto_before {P : Int → Bool} {s : ByteArray} {p i : Int} (h0 : p ≤ i) (h1 : i < upto P s p) : P (bt s i) = false := by
  unfold upto at *
  generalize ((s.size : Int) - p).toNat = d at h1
  induction d generalizing p with
  | zero => simp only [scan] at h1; omega
  | succ d ih =>
    simp only [scan] at h1
    split at h1
    · omega
    · rename_i hn
      by_cases e : i = p
      · subst e; simpa using hn
      · exact ih (by omega) h1
theorem upto_is {P : Int → Bool} {s : ByteArray} {p e : Int} (h0 : p ≤ e) (h1 : e ≤ (s.size : Int)) (h2 : e < (s.size : Int) → P (bt s e) = true) (h3 : ∀ i, p ≤ i → i < e → P (bt s i) = false) : upto P s p = e := by
  have a := upto_ge P s p
  have b := upto_le (P := P) (s := s) (p := p) (by omega)
  by_cases c : upto P s p < e
  · have := h3 _ a c
    rw [upto_hits (P := P) (s := s) (p := p) (by omega)] at this
    cases this
  · by_cases d : e < upto P s p
    · have := upto_before (P := P) h0 d
      rw [h2 (by omega)] at this
      cases this
    · omega

/-! ### the place behind the last byte c ahead of a place -/
def lastN (c : Int) (s : ByteArray) : Nat → Int
  | 0 => 0
  | n + 1 => if bt s (n : Int) = c then (n : Int) + 1 else lastN c s n
def lastM (c : Int) (s : ByteArray) (p : Int) : Int := lastN c s p.toNat
theorem lastM_zero (c : Int) (s : ByteArray) : lastM c s 0 = 0 := rfl
theorem lastM_neg {c : Int} {s : ByteArray} {p : Int} (h : p ≤ 0) : lastM c s p = 0 := by
  unfold lastM; rw [show p.toNat = 0 by omega]; rfl
theorem lastM_hit {c : Int} {s : ByteArray} {p : Int} (h : 0 < p) (hb : bt s (p - 1) = c) : lastM c s p = p := by
  unfold lastM
  obtain ⟨n, rfl⟩ : ∃ n : Nat, p = n + 1 := ⟨(p - 1).toNat, by omega⟩
  rw [show ((n : Int) + 1).toNat = n + 1 by omega]
  simp only [lastN]
  rw [if_pos (by rw [← hb]; congr 1; omega)]
theorem lastM_prev {c : Int} {s : ByteArray} {p : Int} (h : 0 < p) (hb : ¬ bt s (p - 1) = c) : lastM c s p = lastM c s (p - 1) := by
  unfold lastM
  obtain ⟨n, rfl⟩ : ∃ n : Nat, p = n + 1 := ⟨(p - 1).toNat, by omega⟩
  rw [show ((n : Int) + 1).toNat = n + 1 by omega, show ((n : Int) + 1 - 1).toNat = n by omega]
  simp only [lastN]
  rw [if_neg (fun e => hb (by rw [← e]; congr 1; omega))]
theorem lastM_lo (c : Int) (s : ByteArray) (p : Int) : 0 ≤ lastM c s p := by
  unfold lastM
  generalize p.toNat = n
  induction n with
  | zero => simp only [lastN]; omega
  | succ n ih => simp only [lastN]; split <;> omega
theorem lastM_hi {c : Int} {s : ByteArray} {p : Int} (h : 0 ≤ p) : lastM c s p ≤ p := by
  unfold lastM
  obtain ⟨n, rfl⟩ : ∃ n : Nat, p = n := ⟨p.toNat, by omega⟩
  rw [show ((n : Int)).toNat = n by omega]
  clear h
  induction n with
  | zero => simp only [lastN]; omega
  | succ n ih => simp only [lastN]; split <;> omega
theorem lastM_ext {c : Int} {s t : ByteArray} {p : Int} (h : ∀ i, 0 ≤ i → i < p → bt s i = bt t i) : lastM c s p = lastM c t p := by
  unfold lastM
  by_cases h0 : 0 ≤ p
  · obtain ⟨n, rfl⟩ : ∃ n : Nat, p = n := ⟨p.toNat, by omega⟩
    rw [show ((n : Int)).toNat = n by omega]
    clear h0
    induction n with
    | zero => rfl
    | succ n ih => simp only [lastN]; rw [h n (by omega) (by omega), ih (fun i a b => h i a (by omega))]
  · rw [show p.toNat = 0 by omega]; rfl

/-! ### parts of a text -/
theorem size_ext (s : ByteArray) (a b : Nat) (h : b ≤ s.size) : (s.extract a b).size = b - a := by
  rw [ByteArray.size_extract]; omega
theorem bt_ext {s : ByteArray} {a b : Nat} {i : Int} (hb : b ≤ s.size) (h0 : 0 ≤ i) (h1 : i < (b : Int) - a) : bt (s.extract a b) i = bt s (a + i) := by
  unfold bt
  rw [dif_pos (by rw [size_ext _ _ _ hb]; omega), dif_pos (by omega)]
  rw [ByteArray.getElem_extract]
  have e : ((a : Int) + i).toNat = a + i.toNat := by omega
  simp only [e]

/-! ### bytes at places, gaps, flow signs -/
def byteM (s : ByteArray) (p : Int) : Int := if spotM s p = (s.size : Int) then -1 else bt s (spotM s p)
theorem byteM_in {s : ByteArray} {p : Int} (h0 : 0 ≤ p) (h1 : p < (s.size : Int)) : byteM s p = bt s p := by
  unfold byteM; rw [spotM_in h0 (by omega), if_neg (by omega)]
theorem byteM_end {s : ByteArray} {p : Int} (h1 : (s.size : Int) ≤ p) : byteM s p = -1 := by
  unfold byteM; rw [spotM_big h1, if_pos rfl]
theorem byteM_lo (s : ByteArray) (p : Int) : -1 ≤ byteM s p := by
  unfold byteM; split
  · omega
  · have := bt_lo s (spotM s p); omega
theorem byteM_hi (s : ByteArray) (p : Int) : byteM s p ≤ 255 := by
  unfold byteM; split
  · omega
  · exact bt_hi _ _
def whB (b : Int) : Bool := decide (b = 32 ∨ b = 9)
def brB (b : Int) : Bool := decide (b = 10 ∨ b < 0)
def gapB (b : Int) : Bool := decide (b = 32 ∨ b = 9 ∨ b = 10 ∨ b < 0)
def flB (b : Int) : Bool := decide (b = 44 ∨ b = 91 ∨ b = 93 ∨ b = 123 ∨ b = 125)
theorem whB_iff {b : Int} : whB b = true ↔ (b = 32 ∨ b = 9) := by simp [whB]
theorem whB_not {b : Int} : whB b = false ↔ ¬ (b = 32 ∨ b = 9) := by simp [whB]
theorem brB_iff {b : Int} : brB b = true ↔ (b = 10 ∨ b < 0) := by simp [brB]
theorem brB_not {b : Int} : brB b = false ↔ ¬ (b = 10 ∨ b < 0) := by simp [brB]
theorem gapB_iff {b : Int} : gapB b = true ↔ (b = 32 ∨ b = 9 ∨ b = 10 ∨ b < 0) := by simp [gapB]
theorem gapB_not {b : Int} : gapB b = false ↔ ¬ (b = 32 ∨ b = 9 ∨ b = 10 ∨ b < 0) := by simp [gapB]
theorem flB_iff {b : Int} : flB b = true ↔ (b = 44 ∨ b = 91 ∨ b = 93 ∨ b = 123 ∨ b = 125) := by simp [flB]
theorem flB_not {b : Int} : flB b = false ↔ ¬ (b = 44 ∨ b = 91 ∨ b = 93 ∨ b = 123 ∨ b = 125) := by simp [flB]

/-! ### lines -/
def lineM (s : ByteArray) (p : Int) : Int := lastM 10 s (spotM s p)
theorem lineM_lo (s : ByteArray) (p : Int) : 0 ≤ lineM s p := lastM_lo _ _ _
theorem lineM_hi (s : ByteArray) (p : Int) : lineM s p ≤ spotM s p := lastM_hi (spotM_lo s p)
theorem lineM_size (s : ByteArray) (p : Int) : lineM s p ≤ (s.size : Int) := by
  have := lineM_hi s p; have := spotM_hi s p; omega
def isLf (b : Int) : Bool := decide (b = 10)
theorem isLf_iff {b : Int} : isLf b = true ↔ b = 10 := by simp [isLf]
theorem isLf_not {b : Int} : isLf b = false ↔ ¬ b = 10 := by simp [isLf]
def endM (s : ByteArray) (p : Int) : Int := upto isLf s (spotM s p)
def noWh (b : Int) : Bool := !whB b
theorem noWh_iff {b : Int} : noWh b = true ↔ ¬ (b = 32 ∨ b = 9) := by simp [noWh, whB]
theorem noWh_not {b : Int} : noWh b = false ↔ (b = 32 ∨ b = 9) := by simp [noWh, whB]; omega
def whiteM (s : ByteArray) (p : Int) : Int := upto noWh s (spotM s p)
def noBl (b : Int) : Bool := decide (b ≠ 32)
theorem noBl_iff {b : Int} : noBl b = true ↔ ¬ b = 32 := by simp [noBl]
theorem noBl_not {b : Int} : noBl b = false ↔ b = 32 := by simp [noBl]
def indentM (s : ByteArray) (p : Int) : Int := upto noBl s (lineM s p) - lineM s p

theorem gapB_eq (b : Int) : gapB b = (whB b || brB b) := by
  rw [Bool.eq_iff_iff, Bool.or_eq_true, gapB_iff, whB_iff, brB_iff]; omega
theorem gap_end : gapB (-1) = true := rfl
theorem br_end : brB (-1) = true := rfl
theorem wh_end : whB (-1) = false := rfl
theorem fl_end : flB (-1) = false := rfl
def stB (b : Int) : Bool := gapB b || flB b
theorem stB_gap {b : Int} (h : gapB b = true) : stB b = true := by simp [stB, h]
theorem stB_fl {b : Int} (h : flB b = true) : stB b = true := by simp [stB, h]
theorem stB_no {b : Int} (h : gapB b = false) (h' : flB b = false) : stB b = false := by simp [stB, h, h']

/-! ### marks, rests, gaps, lone lines -/
def markM (s : ByteArray) (p : Int) : Int :=
  if lineM s (spotM s p) = spotM s p ∧ 3 ≤ (s.size : Int) - spotM s p ∧ gapB (byteM s (spotM s p + 3)) = true then
    (if (s.extract (spotM s p).toNat (spotM s p + 3).toNat).toList = ([45, 45, 45] : List UInt8) then 1
     else if (s.extract (spotM s p).toNat (spotM s p + 3).toNat).toList = ([46, 46, 46] : List UInt8) then 2 else 0)
  else 0
theorem whiteM_ge (s : ByteArray) (p : Int) : spotM s p ≤ whiteM s p := upto_ge _ _ _
theorem whiteM_le (s : ByteArray) (p : Int) : whiteM s p ≤ (s.size : Int) := upto_le (spotM_hi s p)
theorem endM_ge (s : ByteArray) (p : Int) : spotM s p ≤ endM s p := upto_ge _ _ _
theorem endM_le (s : ByteArray) (p : Int) : endM s p ≤ (s.size : Int) := upto_le (spotM_hi s p)
def restM (s : ByteArray) (p : Int) : Int × Bool :=
  if brB (byteM s (whiteM s (spotM s p))) = true ∨ (byteM s (whiteM s (spotM s p)) = 35 ∧ (¬ whiteM s (spotM s p) = spotM s p ∨ lineM s (spotM s p) = spotM s p)) then (endM s (whiteM s (spotM s p)), true)
  else (whiteM s (spotM s p), false)
def loneM (s : ByteArray) (p : Int) : Bool := brB (byteM s (whiteM s (lineM s p)))
def nameAtM (s : ByteArray) (p : Int) : ByteArray × Int × Bool :=
  if spotM s p < (s.size : Int) ∧ (bt s (spotM s p) = 38 ∨ bt s (spotM s p) = 42) then
    (if 1 ≤ upto stB s (spotM s p + 1) - spotM s p - 1 ∧ upto stB s (spotM s p + 1) - spotM s p - 1 ≤ 60 then
      (s.extract (spotM s p + 1).toNat (upto stB s (spotM s p + 1)).toNat, upto stB s (spotM s p + 1), true) else ((⟨#[]⟩ : ByteArray), 0, false))
  else ((⟨#[]⟩ : ByteArray), 0, false)

/-! ### tags -/
def clB (b : Int) : Bool := decide (b = 62) || gapB b
theorem clB_gt {b : Int} (h : b = 62) : clB b = true := by simp [clB, h]
theorem clB_gap {b : Int} (h : gapB b = true) : clB b = true := by simp [clB, h]
theorem clB_no {b : Int} (h : ¬ b = 62) (h' : gapB b = false) : clB b = false := by simp [clB, h, h']
def tagCut (s : ByteArray) (q e : Int) : ByteArray × Int × Bool := if e - q > 60 then ((⟨#[]⟩ : ByteArray), 0, false) else (s.extract q.toNat e.toNat, e, true)
def tagFin (s : ByteArray) (q e r : Int) : ByteArray × Int × Bool := if byteM s r = 62 ∧ r > q + 2 then tagCut s q (r + 1) else tagCut s q e
def tagAtM (s : ByteArray) (p : Int) : ByteArray × Int × Bool :=
  if byteM s (spotM s p) = 33 then
    (if byteM s (spotM s p + 1) = 60 then tagFin s (spotM s p) (upto stB s (spotM s p)) (upto clB s (spotM s p + 2)) else tagCut s (spotM s p) (upto stB s (spotM s p)))
  else ((⟨#[]⟩ : ByteArray), 0, false)

/-! ### plain scalars on one line -/
def backW (s : ByteArray) (p : Int) : Nat → Int
  | 0 => p
  | n + 1 => if whB (bt s (p + (n : Int))) = true then backW s p n else p + (n : Int) + 1
theorem backW_lo (s : ByteArray) (p : Int) (n : Nat) : p ≤ backW s p n := by
  induction n with
  | zero => exact Int.le_refl _
  | succ n ih => simp only [backW]; split <;> omega
theorem backW_hi (s : ByteArray) (p : Int) (n : Nat) : backW s p n ≤ p + n := by
  induction n with
  | zero => simp only [backW]; omega
  | succ n ih => simp only [backW]; split <;> omega
def peStop (s : ByteArray) (p : Int) (flow : Bool) (q : Int) : Bool :=
  decide (byteM s q = 35 ∧ q > p ∧ whB (byteM s (q - 1)) = true) || (flow && flB (byteM s q)) || (decide (byteM s q = 58) && (gapB (byteM s (q + 1)) || (flow && flB (byteM s (q + 1)))))
def peN (s : ByteArray) (p : Int) (flow : Bool) : Nat → Int → Int
  | 0, q => q
  | d + 1, q => if brB (byteM s q) = true then q else if peStop s p flow q = true then q else peN s p flow d (q + 1)
theorem peN_ge (s : ByteArray) (p : Int) (flow : Bool) (d : Nat) : ∀ q, q ≤ peN s p flow d q := by
  induction d with
  | zero => intro q; exact Int.le_refl _
  | succ d ih => intro q; simp only [peN]; split
                 · omega
                 · split
                   · omega
                   · have := ih (q + 1); omega
theorem peN_le (s : ByteArray) (p : Int) (flow : Bool) (d : Nat) : ∀ q, peN s p flow d q ≤ q + d := by
  induction d with
  | zero => intro q; simp only [peN]; omega
  | succ d ih => intro q; simp only [peN]; split
                 · omega
                 · split
                   · omega
                   · have := ih (q + 1); omega
def peM (s : ByteArray) (p : Int) (flow : Bool) : Int := peN s (spotM s p) flow ((s.size : Int) - spotM s p).toNat (spotM s p)
theorem peM_ge (s : ByteArray) (p : Int) (flow : Bool) : spotM s p ≤ peM s p flow := peN_ge _ _ _ _ _
theorem peM_le (s : ByteArray) (p : Int) (flow : Bool) : peM s p flow ≤ (s.size : Int) := by
  have := peN_le s (spotM s p) flow ((s.size : Int) - spotM s p).toNat (spotM s p)
  have := spotM_hi s p
  unfold peM; omega
def plainEndM (s : ByteArray) (p : Int) (flow : Bool) : Int := backW s (spotM s p) (peM s p flow - spotM s p).toNat
theorem plainEndM_ge (s : ByteArray) (p : Int) (flow : Bool) : spotM s p ≤ plainEndM s p flow := backW_lo _ _ _
theorem plainEndM_le (s : ByteArray) (p : Int) (flow : Bool) : plainEndM s p flow ≤ (s.size : Int) := by
  have := backW_hi s (spotM s p) (peM s p flow - spotM s p).toNat
  have := peM_ge s p flow
  have := peM_le s p flow
  unfold plainEndM; omega

/-! ### gaps -/
def gapStep (s : ByteArray) (p : Int) : Int :=
  if brB (bt s p) = true ∨ whB (bt s p) = true then p + 1
  else if bt s p = 35 ∧ (lineM s p = p ∨ whB (byteM s (p - 1)) = true) then endM s p else p
def gapN (s : ByteArray) : Nat → Int → Int
  | 0, p => p
  | d + 1, p => if p < (s.size : Int) then (if gapStep s p = p then p else gapN s d (gapStep s p)) else p
theorem gapStep_hi {s : ByteArray} {p : Int} (h0 : 0 ≤ p) (h : p < (s.size : Int)) : p ≤ gapStep s p ∧ gapStep s p ≤ (s.size : Int) := by
  have a := endM_ge s p
  have b := endM_le s p
  rw [spotM_in h0 (by omega)] at a
  unfold gapStep
  split
  · omega
  · split <;> omega
theorem gapN_more (s : ByteArray) (d : Nat) : ∀ (e : Nat) (p : Int), 0 ≤ p → (s.size : Int) - p ≤ d → d ≤ e → gapN s e p = gapN s d p := by
  induction d with
  | zero =>
    intro e p h0 hd he
    cases e with
    | zero => rfl
    | succ e => simp only [gapN]; rw [if_neg (by omega)]
  | succ d ih =>
    intro e p h0 hd he
    obtain ⟨e, rfl⟩ : ∃ m, e = m + 1 := ⟨e - 1, by omega⟩
    simp only [gapN]
    split
    · rename_i hp
      have := gapStep_hi h0 hp
      split
      · rfl
      · exact ih e _ (by omega) (by omega) (by omega)
    · rfl
def gp (s : ByteArray) (p : Int) : Int := gapN s ((s.size : Int) - p).toNat p
theorem gp_end {s : ByteArray} {p : Int} (h : (s.size : Int) ≤ p) : gp s p = p := by
  unfold gp; rw [show ((s.size : Int) - p).toNat = 0 by omega]; rfl
theorem gp_stop {s : ByteArray} {p : Int} (h : p < (s.size : Int)) (hs : gapStep s p = p) : gp s p = p := by
  unfold gp
  obtain ⟨d, hd⟩ : ∃ d, ((s.size : Int) - p).toNat = d + 1 := ⟨((s.size : Int) - p).toNat - 1, by omega⟩
  rw [hd]; simp only [gapN]; rw [if_pos h, if_pos hs]
theorem gp_step {s : ByteArray} {p q : Int} (h0 : 0 ≤ p) (h : p < (s.size : Int)) (hq : gapStep s p = q) (hs : ¬ q = p) : gp s p = gp s q := by
  subst hq
  have b := gapStep_hi h0 h
  unfold gp
  obtain ⟨d, hd⟩ : ∃ d, ((s.size : Int) - p).toNat = d + 1 := ⟨((s.size : Int) - p).toNat - 1, by omega⟩
  rw [hd]; simp only [gapN]; rw [if_pos h, if_neg hs]
  exact gapN_more s _ _ _ (by omega) (by omega) (by omega)
theorem gp_ge (s : ByteArray) : ∀ (d : Nat) (p : Int), 0 ≤ p → (s.size : Int) - p ≤ d → p ≤ gp s p := by
  intro d
  induction d with
  | zero => intro p h0 hd; rw [gp_end (by omega)]; omega
  | succ d ih =>
    intro p h0 hd
    by_cases hp : p < (s.size : Int)
    · by_cases hs : gapStep s p = p
      · rw [gp_stop hp hs]; omega
      · have b := gapStep_hi h0 hp
        rw [gp_step h0 hp rfl hs]
        have := ih (gapStep s p) (by omega) (by omega)
        omega
    · rw [gp_end (by omega)]; omega
theorem gp_le (s : ByteArray) : ∀ (d : Nat) (p : Int), 0 ≤ p → p ≤ (s.size : Int) → (s.size : Int) - p ≤ d → gp s p ≤ (s.size : Int) := by
  intro d
  induction d with
  | zero => intro p h0 h1 hd; rw [gp_end (by omega)]; omega
  | succ d ih =>
    intro p h0 h1 hd
    by_cases hp : p < (s.size : Int)
    · by_cases hs : gapStep s p = p
      · rw [gp_stop hp hs]; omega
      · have b := gapStep_hi h0 hp
        rw [gp_step h0 hp rfl hs]
        exact ih (gapStep s p) (by omega) (by omega) (by omega)
    · rw [gp_end (by omega)]; omega
theorem step_br {s : ByteArray} {p : Int} (h : bt s p = 10) : gapStep s p = p + 1 := by
  unfold gapStep; rw [if_pos (.inl (brB_iff.mpr (.inl h)))]
theorem step_wh {s : ByteArray} {p : Int} (h : whB (bt s p) = true) : gapStep s p = p + 1 := by
  unfold gapStep; rw [if_pos (.inr h)]
theorem step_rem {s : ByteArray} {p : Int} (h : bt s p = 35) (h' : lineM s p = p ∨ whB (byteM s (p - 1)) = true) : gapStep s p = endM s p := by
  unfold gapStep; rw [h, if_neg (by decide), if_pos ⟨rfl, h'⟩]
theorem step_no {s : ByteArray} {p : Int} (h : ¬ bt s p = 10) (hw : whB (bt s p) = false) (h' : ¬ (bt s p = 35 ∧ (lineM s p = p ∨ whB (byteM s (p - 1)) = true))) : gapStep s p = p := by
  have := bt_lo s p
  unfold gapStep
  rw [if_neg (by rw [hw, brB_iff]; intro c; rcases c with c | c; omega; cases c), if_neg h']
theorem endM_gt {s : ByteArray} {p : Int} (h0 : 0 ≤ p) (h : p < (s.size : Int)) (hb : ¬ bt s p = 10) : p < endM s p := by
  unfold endM
  rw [spotM_in h0 (by omega), upto_next h (isLf_not.mpr hb)]
  have := upto_ge isLf s (p + 1)
  omega
theorem gp_white (s : ByteArray) : ∀ (d : Nat) (p : Int), 0 ≤ p → (s.size : Int) - p ≤ d → gp s p = gp s (upto noWh s p) := by
  intro d
  induction d with
  | zero => intro p h0 hd; rw [upto_end (by omega)]
  | succ d ih =>
    intro p h0 hd
    by_cases hp : p < (s.size : Int)
    · cases hw : whB (bt s p) with
      | true => rw [gp_step h0 hp (step_wh hw) (by omega), upto_next hp (by simp [noWh, hw])]; exact ih (p + 1) (by omega) (by omega)
      | false => rw [upto_hit hp (by simp [noWh, hw])]
    · rw [upto_end (by omega)]
def gapM (s : ByteArray) (p : Int) : Int := gp s (spotM s p)

/-! ### the head of a block scalar -/
theorem restM_lo (s : ByteArray) (p : Int) : spotM s p ≤ (restM s p).1 ∧ (restM s p).1 ≤ (s.size : Int) := by
  have a := whiteM_ge s (spotM s p)
  have b := whiteM_le s (spotM s p)
  rw [spotM_idem] at a
  have c := endM_ge s (whiteM s (spotM s p))
  have d := endM_le s (whiteM s (spotM s p))
  rw [spotM_in (s := s) (p := whiteM s (spotM s p)) (by have := spotM_lo s p; omega) b] at c
  unfold restM
  split
  · exact ⟨by show _ ≤ endM s _; omega, d⟩
  · exact ⟨a, b⟩
def headEnd (s : ByteArray) (digit chomp q : Int) : Int × Int × Int × Int := if (restM s q).2 = true then (digit, chomp, (restM s q).1, 0) else (0, 0, (restM s q).1, 6)
def headN (s : ByteArray) : Nat → Int → Int → Int → Int × Int × Int × Int
  | 0, digit, chomp, q => headEnd s digit chomp q
  | d + 1, digit, chomp, q =>
    if 49 ≤ byteM s q ∧ byteM s q ≤ 57 ∧ digit = 0 then headN s d (byteM s q - 48) chomp (q + 1)
    else if byteM s q = 43 ∧ chomp = 0 then headN s d digit 2 (q + 1)
    else if byteM s q = 45 ∧ chomp = 0 then headN s d digit 1 (q + 1)
    else headEnd s digit chomp q
def headLeft (digit chomp : Int) : Nat := (if digit = 0 then 1 else 0) + (if chomp = 0 then 1 else 0)
theorem headN_step {s : ByteArray} {d : Nat} {digit chomp q : Int} (h : headLeft digit chomp ≤ d) : headN s d digit chomp q =
    if 49 ≤ byteM s q ∧ byteM s q ≤ 57 ∧ digit = 0 then headN s (d - 1) (byteM s q - 48) chomp (q + 1)
    else if byteM s q = 43 ∧ chomp = 0 then headN s (d - 1) digit 2 (q + 1)
    else if byteM s q = 45 ∧ chomp = 0 then headN s (d - 1) digit 1 (q + 1)
    else headEnd s digit chomp q := by
  cases d with
  | succ d => rfl
  | zero =>
    unfold headLeft at h
    have h1 : ¬ digit = 0 := fun c => by rw [if_pos c] at h; omega
    have h2 : ¬ chomp = 0 := fun c => by rw [if_pos c] at h; split at h <;> omega
    rw [if_neg (fun c => h1 c.2.2), if_neg (fun c => h2 c.2), if_neg (fun c => h2 c.2)]
    rfl
def headM (s : ByteArray) (p : Int) : Int × Int × Int × Int :=
  if byteM s (spotM s p) = 124 ∨ byteM s (spotM s p) = 62 then headN s 2 0 0 (spotM s p + 1) else (0, 0, spotM s p, 10)

end Go.Proofs.Ytbjkaapkmemojaa.Mine
