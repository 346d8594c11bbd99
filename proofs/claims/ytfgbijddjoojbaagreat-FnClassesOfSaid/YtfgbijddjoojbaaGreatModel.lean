/- Plain functions and lists: what the functions of the program and of the reference compute. No conditions. -/
import Derived.Test.YtfgbijddjoojbaaGreatVcCore
/- Plain functions: what the program's and the reference's functions compute. No program in sight. -/
namespace Go.M
open Go Go.Vc

def smallN (n : Nat) : Bool := decide (97 ≤ n) && decide (n ≤ 122)
def digitN (n : Nat) : Bool := decide (48 ≤ n) && decide (n ≤ 57)
def nameCh (c : UInt8) : Bool := smallN c.toNat || digitN c.toNat || decide (c.toNat = 45)
def nameL (l : List UInt8) : Bool := decide (1 ≤ l.length) && decide (l.length ≤ 12) && smallN (l.headD 0).toNat && l.all nameCh
def nameB (s : ByteArray) : Bool := nameL s.data.toList
def inB (n lo hi : Int) : Bool := decide (lo ≤ n) && decide (n ≤ hi)

theorem inB_true {n lo hi : Int} (h : inB n lo hi = true) : lo ≤ n ∧ n ≤ hi := by simpa [inB] using h
theorem take_all_snoc {l : List UInt8} {p : UInt8 → Bool} {k : Nat} {c : UInt8} (hk : l[k]? = some c) : (l.take (k + 1)).all p = ((l.take k).all p && p c) := by
  rw [List.take_add_one, hk]; simp
theorem all_false_of {α : Type} {l : List α} {p : α → Bool} {k : Nat} {c : α} (hk : l[k]? = some c) (hp : p c = false) : l.all p = false := by
  rw [List.all_eq_false]
  exact ⟨c, List.mem_of_getElem? hk, by simp [hp]⟩
theorem headD_of {l : List UInt8} {c : UInt8} (h : l[0]? = some c) : l.headD 0 = c := by
  rw [List.headD_eq_head?_getD, List.head?_eq_getElem?, h]; rfl
theorem get_of_lt {α : Type} {l : List α} {k : Nat} (h : k < l.length) : ∃ x, l[k]? = some x := ⟨_, List.getElem?_eq_getElem h⟩

/-- the digits of a number ahead of what is there -/
def digsF : Nat → Nat → List UInt8 → List UInt8
  | 0, _, out => out
  | f + 1, k, out => if k = 0 then out else digsF f (k / 10) (UInt8.ofNat (48 + k % 10) :: out)
theorem digsF_more : ∀ (f g k : Nat) (out : List UInt8), k ≤ f → k ≤ g → digsF f k out = digsF g k out
  | 0, 0, _, _, _, _ => rfl
  | 0, g + 1, k, out, h, _ => by have : k = 0 := by omega
                                 subst this; simp [digsF]
  | f + 1, 0, k, out, _, h => by have : k = 0 := by omega
                                 subst this; simp [digsF]
  | f + 1, g + 1, k, out, h1, h2 => by
    simp only [digsF]
    split
    · rfl
    · exact digsF_more f g (k / 10) _ (by omega) (by omega)
def digs (k : Nat) (out : List UInt8) : List UInt8 := digsF k k out
theorem digs_zero (out : List UInt8) : digs 0 out = out := rfl
theorem digs_step {k : Nat} (h : 0 < k) (out : List UInt8) : digs k out = digs (k / 10) (UInt8.ofNat (48 + k % 10) :: out) := by
  unfold digs
  obtain ⟨m, rfl⟩ : ∃ m, k = m + 1 := ⟨k - 1, by omega⟩
  rw [digsF, if_neg (by omega)]
  exact digsF_more _ _ _ _ (by omega) (Nat.le_refl _)
theorem digsF_length : ∀ (f k : Nat) (out : List UInt8), (digsF f k out).length ≤ f + out.length
  | 0, k, out => by simp [digsF]
  | f + 1, k, out => by
    simp only [digsF]
    split
    · omega
    · have := digsF_length f (k / 10) (UInt8.ofNat (48 + k % 10) :: out)
      simp only [List.length_cons] at this
      omega
def markB (k : Nat) : ByteArray := if k = 0 then bs [109, 48] else bs (109 :: digs k [])
theorem u8_digit (m : Nat) : (UInt8.ofNat (48 + m % 10)).toNat = 48 + m % 10 := by
  simp; omega

def eS (s : ByteArray) : List Value := [.string s]
def eI (n : Int) : List Value := [.int .i64 n]
theorem eS_len (s : ByteArray) : (eS s).length = 1 := rfl
theorem eI_len (n : Int) : (eI n).length = 1 := rfl
theorem take_eq_snoc {α : Type} {xs ys : List α} {k : Nat} {x y : α} (h : xs.take k = ys.take k) (hx : xs[k]? = some x) (hy : ys[k]? = some y) (e : x = y) : xs.take (k + 1) = ys.take (k + 1) := by
  rw [List.take_add_one, List.take_add_one, h, hx, hy, e]
theorem ne_of_get {α : Type} {xs ys : List α} {k : Nat} {x y : α} (hx : xs[k]? = some x) (hy : ys[k]? = some y) (e : ¬ x = y) : ¬ xs = ys := fun h => by
  rw [h, hy] at hx; exact e (Option.some.inj hx).symm
theorem eq_of_take {α : Type} {xs ys : List α} {k : Nat} (h : xs.take k = ys.take k) (hx : xs.length ≤ k) (hy : ys.length ≤ k) : xs = ys := by
  rw [List.take_of_length_le hx, List.take_of_length_le hy] at h; exact h
/-- the marks from k on -/
def marks (k n : Nat) : List ByteArray := (List.range n).map fun i => markB (k + i)
theorem marks_length (k n : Nat) : (marks k n).length = n := by simp [marks]
theorem marks_get {k n i : Nat} (h : i < n) : (marks k n)[i]? = some (markB (k + i)) := by simp [marks, h]
theorem marks_succ (k n : Nat) : marks k (n + 1) = marks k n ++ [markB (k + n)] := by simp [marks, List.range_succ]
def pairV (p : Int × Int) : Value := .tuple #[.int .i64 p.1, .int .i64 p.2]
theorem sum_take_succ {l : List Int} {k : Nat} {x : Int} (h : l[k]? = some x) : (l.take (k + 1)).sum = (l.take k).sum + x := by
  rw [List.take_add_one, h]; simp
theorem sum_bounds {M : Int} : ∀ {l : List Int}, (∀ x ∈ l, 0 ≤ x ∧ x ≤ M) → 0 ≤ l.sum ∧ l.sum ≤ l.length * M
  | [], _ => by simp
  | x :: l, h => by
    have h1 := h x (by simp)
    have h2 := sum_bounds (l := l) (fun y hy => h y (by simp [hy]))
    simp only [List.sum_cons, List.length_cons, Int.natCast_add, Int.natCast_one, Int.add_mul, Int.one_mul]
    omega
end Go.M
