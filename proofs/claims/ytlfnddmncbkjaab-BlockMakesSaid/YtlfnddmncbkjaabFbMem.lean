/- What package mem computes, as plain functions on lists of bytes. No program in sight. -/
import Derived.Test.YtlfnddmncbkjaabFbWord
namespace Go.Proofs.Ytlfnddmncbkjaab.Fb
set_option linter.unusedVariables false
set_option linter.unusedSimpArgs false
open Go.RowKit

def msize (op : Int) : Int :=
  if op = 11 ∨ op = 14 ∨ op = 16 then 1
  else if op = 12 ∨ op = 15 ∨ op = 17 then 2
  else if op = 13 ∨ op = 18 then 4
  else 0
def there (n at_ many : Int) : Bool := decide (0 < many) && (at_ % many == 0) && decide (at_ + many ≤ n)
def byte (l : List Int) (k : Int) : Int := l.getD k.toNat 0
/-- the number that so many bytes are, the lowest first -/
def leval (l : List Int) (at_ : Int) : Nat → Int
  | 0 => 0
  | m + 1 => leval l at_ m + byte l (at_ + m) * 256 ^ m
def extend (op n : Int) : Int :=
  if op = 11 then IntKind.i8.wrap n % 4294967296 else if op = 12 then IntKind.i16.wrap n % 4294967296 else n
def loads (op : Int) : Bool := decide (11 ≤ op ∧ op ≤ 15)
def stores (op : Int) : Bool := decide (16 ≤ op ∧ op ≤ 18)
def lsize (op : Int) : Int := if loads op = true then msize op else 0
def ssize (op : Int) : Int := if stores op = true then msize op else 0
def mLoadOk (l : List Int) (op at_ : Int) : Bool := loads op && there l.length at_ (msize op)
def mLoad (l : List Int) (op at_ : Int) : Int := if mLoadOk l op at_ = true then extend op (leval l at_ (msize op).toNat) else 0
def mStoreOk (l : List Int) (op at_ : Int) : Bool := stores op && there l.length at_ (msize op)
/-- so many bytes of a number laid at a place -/
def lay (l : List Int) (at_ w : Int) : Nat → List Int
  | 0 => l
  | m + 1 => (lay l at_ w m).set (at_ + m).toNat (w / 256 ^ m % 256)
def mStore (l : List Int) (op at_ w : Int) : List Int := if mStoreOk l op at_ = true then lay l at_ w (msize op).toNat else l

theorem wrap_i8 (n : Int) : IntKind.i8.wrap n = (n + 128) % 256 - 128 := by
  simp only [IntKind.wrap, IntKind.bits, IntKind.signed]
  simp
  split <;> omega
theorem wrap_i16 (n : Int) : IntKind.i16.wrap n = (n + 32768) % 65536 - 32768 := by
  simp only [IntKind.wrap, IntKind.bits, IntKind.signed]
  simp
  split <;> omega
theorem byte_nat (l : List Int) (k j : Nat) : byte l ((k : Int) + (j : Nat)) = l.getD (k + j) 0 := by
  unfold byte; congr 1
theorem leval1 (l : List Int) (k : Nat) : leval l k 1 = l.getD k 0 := by
  simp only [leval, byte_nat]; simp
theorem leval2 (l : List Int) (k : Nat) : leval l k 2 = l.getD k 0 + l.getD (k + 1) 0 * 256 := by
  simp only [leval, byte_nat]; simp
theorem leval4 (l : List Int) (k : Nat) : leval l k 4 = l.getD k 0 + l.getD (k + 1) 0 * 256 + l.getD (k + 2) 0 * 65536 + l.getD (k + 3) 0 * 16777216 := by
  simp only [leval, byte_nat]; simp
theorem or0 (x : Int) (h : 0 ≤ x ∧ x < 4294967296) : bits .or .u32 0 x = x := by
  rw [or32 _ _ (by omega) (by omega) h.1 h.2]; simp; omega
theorem or8 (a x : Int) (ha : 0 ≤ a ∧ a < 256) (hx : 0 ≤ x ∧ x < 256) : bits .or .u32 a (x * 256) = a + x * 256 :=
  or_hi a x 8 (by omega) ha.1 (by omega) hx.1 (by omega)
theorem or16 (a x : Int) (ha : 0 ≤ a ∧ a < 65536) (hx : 0 ≤ x ∧ x < 256) : bits .or .u32 a (x * 65536) = a + x * 65536 :=
  or_hi a x 16 (by omega) ha.1 (by omega) hx.1 (by omega)
theorem or24 (a x : Int) (ha : 0 ≤ a ∧ a < 16777216) (hx : 0 ≤ x ∧ x < 256) : bits .or .u32 a (x * 16777216) = a + x * 16777216 :=
  or_hi a x 24 (by omega) ha.1 (by omega) hx.1 (by omega)
theorem le2 (x0 x1 : Int) (h0 : 0 ≤ x0 ∧ x0 < 256) (h1 : 0 ≤ x1 ∧ x1 < 256) : bits .or .u32 (bits .or .u32 0 x0) (x1 * 256) = x0 + x1 * 256 := by
  rw [or0 x0 (by omega), or8 _ _ h0 h1]
theorem le4 (x0 x1 x2 x3 : Int) (h0 : 0 ≤ x0 ∧ x0 < 256) (h1 : 0 ≤ x1 ∧ x1 < 256) (h2 : 0 ≤ x2 ∧ x2 < 256) (h3 : 0 ≤ x3 ∧ x3 < 256) :
    bits .or .u32 (bits .or .u32 (bits .or .u32 (bits .or .u32 0 x0) (x1 * 256)) (x2 * 65536)) (x3 * 16777216) = x0 + x1 * 256 + x2 * 65536 + x3 * 16777216 := by
  rw [le2 x0 x1 h0 h1, or16 _ _ (by omega) h2, or24 _ _ (by omega) h3]
theorem mLoad_ok {l : List Int} {op at_ : Int} (h : mLoadOk l op at_ = true) : mLoad l op at_ = extend op (leval l at_ (msize op).toNat) := by
  unfold mLoad; rw [if_pos h]
theorem mLoad_11 {l : List Int} {k : Nat} (h : mLoadOk l 11 k = true) : mLoad l 11 k = IntKind.i8.wrap (l.getD k 0) % 4294967296 := by
  rw [mLoad_ok h, show (msize 11).toNat = 1 from rfl, leval1]; rfl
theorem mLoad_12 {l : List Int} {k : Nat} (h : mLoadOk l 12 k = true) : mLoad l 12 k = IntKind.i16.wrap (l.getD k 0 + l.getD (k + 1) 0 * 256) % 4294967296 := by
  rw [mLoad_ok h, show (msize 12).toNat = 2 from rfl, leval2]; rfl
theorem mLoad_13 {l : List Int} {k : Nat} (h : mLoadOk l 13 k = true) : mLoad l 13 k = l.getD k 0 + l.getD (k + 1) 0 * 256 + l.getD (k + 2) 0 * 65536 + l.getD (k + 3) 0 * 16777216 := by
  rw [mLoad_ok h, show (msize 13).toNat = 4 from rfl, leval4]; rfl
theorem mLoad_14 {l : List Int} {k : Nat} (h : mLoadOk l 14 k = true) : mLoad l 14 k = l.getD k 0 := by
  rw [mLoad_ok h, show (msize 14).toNat = 1 from rfl, leval1]; rfl
theorem mLoad_15 {l : List Int} {k : Nat} (h : mLoadOk l 15 k = true) : mLoad l 15 k = l.getD k 0 + l.getD (k + 1) 0 * 256 := by
  rw [mLoad_ok h, show (msize 15).toNat = 2 from rfl, leval2]; rfl
theorem lay_length (l : List Int) (a w : Int) : ∀ m, (lay l a w m).length = l.length
  | 0 => rfl
  | m + 1 => by rw [lay, List.length_set, lay_length l a w m]
theorem mStore_length (l : List Int) (op a w : Int) : (mStore l op a w).length = l.length := by
  unfold mStore; split
  · exact lay_length _ _ _ _
  · rfl
theorem lay_byte (l : List Int) (a w : Int) (hb : ∀ i, 0 ≤ l.getD i 0 ∧ l.getD i 0 < 256) : ∀ m i, 0 ≤ (lay l a w m).getD i 0 ∧ (lay l a w m).getD i 0 < 256
  | 0, i => hb i
  | m + 1, i => by
    rw [lay]
    have h := lay_byte l a w hb m i
    simp only [List.getD, List.getElem?_set] at h ⊢
    split
    · split
      · simp only [Option.getD_some]; omega
      · simp
    · exact h
theorem mStore_byte (l : List Int) (op a w : Int) (hb : ∀ i, 0 ≤ l.getD i 0 ∧ l.getD i 0 < 256) (i : Nat) : 0 ≤ (mStore l op a w).getD i 0 ∧ (mStore l op a w).getD i 0 < 256 := by
  unfold mStore; split
  · exact lay_byte _ _ _ hb _ _
  · exact hb i
/-! what was stored is loaded -/
theorem lay_other (l : List Int) (k : Nat) (x : Int) (i : Nat) : ∀ m, (i < k ∨ k + m ≤ i) → (lay l k x m).getD i 0 = l.getD i 0
  | 0, _ => rfl
  | m + 1, h => by
    rw [lay, show ((k : Int) + (m : Nat)).toNat = k + m from by omega, List.getD, List.getElem?_set_ne (by omega)]
    exact lay_other l k x i m (by omega)
theorem lay_in (l : List Int) (k : Nat) (x : Int) (j : Nat) : ∀ m, j < m → k + m ≤ l.length → (lay l k x m).getD (k + j) 0 = x / 256 ^ j % 256
  | 0, h, _ => by omega
  | m + 1, h, hl => by
    rw [lay, show ((k : Int) + (m : Nat)).toNat = k + m from by omega, List.getD]
    by_cases e : j = m
    · subst e
      rw [List.getElem?_set_self (by rw [lay_length]; omega)]; rfl
    · rw [List.getElem?_set_ne (by omega)]
      exact lay_in l k x j m (by omega) (by omega)
theorem back1 (l : List Int) (k : Nat) (x : Int) (h : k + 1 ≤ l.length) : leval (lay l k x 1) k 1 = x % 256 := by
  have h0 := lay_in l k x 0 1 (by omega) h
  rw [leval1]; simpa using h0
theorem back2 (l : List Int) (k : Nat) (x : Int) (h : k + 2 ≤ l.length) : leval (lay l k x 2) k 2 = x % 65536 := by
  have h0 := lay_in l k x 0 2 (by omega) h
  have h1 := lay_in l k x 1 2 (by omega) h
  simp at h0 h1
  rw [leval2]
  simp only [List.getD_eq_getElem?_getD, h0, h1]; omega
theorem back4 (l : List Int) (k : Nat) (x : Int) (h : k + 4 ≤ l.length) (hx : U32 x) : leval (lay l k x 4) k 4 = x := by
  have h0 := lay_in l k x 0 4 (by omega) h
  have h1 := lay_in l k x 1 4 (by omega) h
  have h2 := lay_in l k x 2 4 (by omega) h
  have h3 := lay_in l k x 3 4 (by omega) h
  have := hx.1
  have := hx.2
  simp at h0 h1 h2 h3
  rw [leval4]
  simp only [List.getD_eq_getElem?_getD, h0, h1, h2, h3]; omega
/-- the load of a store, and its mask -/
def loadOf (op : Int) : Int := if op = 16 then 14 else if op = 17 then 15 else 13
theorem loadOf_ok (l : List Int) (op a x : Int) : mLoadOk (mStore l op a x) (loadOf op) a = mStoreOk l op a ∨ ¬ (16 ≤ op ∧ op ≤ 18) := by
  by_cases h : 16 ≤ op ∧ op ≤ 18
  · left
    unfold mLoadOk mStoreOk
    rw [mStore_length]
    have : op = 16 ∨ op = 17 ∨ op = 18 := by omega
    rcases this with rfl | rfl | rfl <;> rfl
  · right; exact h
theorem loadOf_no (l : List Int) (op a : Int) (h : 16 ≤ op ∧ op ≤ 18) : mLoadOk l (loadOf op) a = mStoreOk l op a := by
  unfold mLoadOk mStoreOk
  have : op = 16 ∨ op = 17 ∨ op = 18 := by omega
  rcases this with rfl | rfl | rfl <;> rfl
theorem mLoad_back (l : List Int) (op : Int) (k : Nat) (x : Int) (hx : U32 x) (h : mStoreOk l op k = true) :
    mLoad (mStore l op k x) (loadOf op) k = x % 256 ^ (msize op).toNat := by
  have hop : op = 16 ∨ op = 17 ∨ op = 18 := by simp [mStoreOk, stores] at h; omega
  have hat : k + (msize op).toNat ≤ l.length := by
    have h' := h
    simp [mStoreOk, there] at h'; omega
  have hok := loadOf_ok l op k x
  rw [h] at hok
  have hok2 : mLoadOk (mStore l op k x) (loadOf op) k = true := by
    rcases hok with e | e
    · exact e
    · omega
  rw [mLoad_ok hok2]
  have e2 : mStore l op k x = lay l k x (msize op).toNat := by unfold mStore; rw [if_pos h]
  rw [e2]
  rcases hop with rfl | rfl | rfl
  · exact back1 l k x hat
  · exact back2 l k x hat
  · show leval (lay l k x 4) k 4 = x % 256 ^ 4
    rw [back4 l k x hat hx]
    have := hx.1; have := hx.2
    omega
theorem storeOk_pos {l : List Int} {op at_ : Int} (ha : U32 at_) (h : mStoreOk l op at_ = true) : 0 < l.length := by
  simp [mStoreOk, there] at h
  have := ha.1; omega
end Go.Proofs.Ytlfnddmncbkjaab.Fb
