/- Decimal numbers, and texts cut at a byte: plain lists. No conditions. -/
import Derived.Test.YtfgbijddjoojbaaGreatDoorModel
import Derived.Lib.ItoaNum
import Derived.Lib.ParseIntBTie
import Derived.Lib.ItoaLen
import Derived.Lib.SplitLaws
import Derived.Lib.IndexBytes
import Derived.Lib.Join
/- Decimal numbers and texts cut at a byte: plain Lean. -/
namespace Go.M
open Go Go.Vc
/-- a number in decimal -/
def decB (n : Int) : ByteArray := bs (Lib.itoa n)
def isDig (c : UInt8) : Bool := decide (48 ≤ c.toNat) && decide (c.toNat ≤ 57)
/-- what digits spell, behind acc -/
def dvalFrom : Option Nat → List UInt8 → Option Nat
  | a, [] => a
  | none, _ => none
  | some a, c :: r => if isDig c then dvalFrom (some (10 * a + (c.toNat - 48))) r else none
def dval (l : List UInt8) : Option Nat := dvalFrom (some 0) l
theorem dvalFrom_none (l : List UInt8) : dvalFrom none l = none := by cases l <;> rfl
theorem dvalFrom_append : ∀ (l r : List UInt8) (a : Option Nat), dvalFrom a (l ++ r) = dvalFrom (dvalFrom a l) r
  | [], r, a => by cases a <;> cases r <;> rfl
  | c :: l, r, none => by simp [dvalFrom, dvalFrom_none]
  | c :: l, r, some a => by
    simp only [List.cons_append, dvalFrom]
    split
    · exact dvalFrom_append l r _
    · rw [dvalFrom_none]
theorem dval_snoc (l : List UInt8) (c : UInt8) : dval (l ++ [c]) = (dval l).bind fun a => if isDig c then some (10 * a + (c.toNat - 48)) else none := by
  unfold dval
  rw [dvalFrom_append]
  cases dvalFrom (some 0) l with
  | none => rfl
  | some a => simp only [dvalFrom, Option.bind_some]
theorem isDig_of {u : Nat} (h : u < 10) : isDig (UInt8.ofNat (48 + u)) = true := by
  have : (UInt8.ofNat (48 + u)).toNat = 48 + u := by simp [UInt8.toNat_ofNat']; omega
  simp only [isDig, this, Bool.and_eq_true, decide_eq_true_eq]; omega
theorem dig_val {u : Nat} (h : u < 10) : (UInt8.ofNat (48 + u)).toNat - 48 = u := by
  have : (UInt8.ofNat (48 + u)).toNat = 48 + u := by simp [UInt8.toNat_ofNat']; omega
  omega
theorem dval_decDigits (u : Nat) : dval (Lib.decDigits u) = some u := by
  induction u using Nat.strongRecOn with
  | _ u ih =>
    rw [Lib.decDigits]
    by_cases h : u < 10
    · rw [dif_pos h]
      show (if isDig (UInt8.ofNat (48 + u)) then some (10 * 0 + ((UInt8.ofNat (48 + u)).toNat - 48)) else none) = _
      rw [if_pos (isDig_of h), dig_val h]
      simp
    · have hm : u % 10 < 10 := by omega
      rw [dif_neg h, dval_snoc, ih (u / 10) (by omega), Option.bind_some, if_pos (isDig_of hm), dig_val hm]
      congr 1
      omega
theorem decDigits_dig (u : Nat) : ∀ c ∈ Lib.decDigits u, isDig c = true := by
  induction u using Nat.strongRecOn with
  | _ u ih =>
    rw [Lib.decDigits]
    by_cases h : u < 10
    · rw [dif_pos h]
      intro c hc
      rw [List.mem_singleton.1 hc]
      exact isDig_of h
    · rw [dif_neg h]
      intro c hc
      rcases List.mem_append.1 hc with hc | hc
      · exact ih (u / 10) (by omega) c hc
      · rw [List.mem_singleton.1 hc]
        exact isDig_of (by omega)
theorem decDigits_ne (u : Nat) : Lib.decDigits u ≠ [] := by
  intro h
  have := Lib.decDigits_length u
  rw [h] at this
  have h2 := Lib.nDigits_pos u
  simp at this
  omega
theorem dvalFrom_ge : ∀ (l : List UInt8) (a v : Nat), dvalFrom (some a) l = some v → a ≤ v
  | [], a, v, h => by simp [dvalFrom] at h; omega
  | c :: l, a, v, h => by
    simp only [dvalFrom] at h
    split at h
    · have := dvalFrom_ge l _ _ h
      omega
    · cases h
theorem dvalFrom_lt : ∀ (l : List UInt8) (a v k : Nat), a < 10 ^ k → dvalFrom (some a) l = some v → v < 10 ^ (k + l.length)
  | [], a, v, k, ha, h => by simp [dvalFrom] at h; subst h; simpa using ha
  | c :: l, a, v, k, ha, h => by
    simp only [dvalFrom] at h
    split at h
    · rename_i hd
      simp only [isDig, Bool.and_eq_true, decide_eq_true_eq] at hd
      have := dvalFrom_lt l _ v (k + 1) (by rw [Nat.pow_succ]; omega) h
      simpa [Nat.add_assoc, Nat.add_comm 1] using this
    · cases h
theorem parse_of_dval : ∀ (l : List UInt8) (a v : Nat), dvalFrom (some a) l = some v → v < 1000000000000000000 → Lib.parseUint10 a l = .ok v
  | [], a, v, h, _ => by simp [dvalFrom] at h; subst h; rfl
  | c :: l, a, v, h, hv => by
    simp only [dvalFrom] at h
    split at h
    · rename_i hd
      simp only [isDig, Bool.and_eq_true, decide_eq_true_eq] at hd
      have hge := dvalFrom_ge l _ _ h
      rw [Lib.parseUint10, if_pos hd, if_neg (by omega), if_neg (by omega), show a * 10 + (c.toNat - 48) = 10 * a + (c.toNat - 48) by omega]
      exact parse_of_dval l _ _ h hv
    · cases h
/-- the text behind a sign -/
def unsign (l : List UInt8) : List UInt8 := if l.head? = some 45 then l.tail else l
/-- the number that a text is the decimal form of, of at most 18 digits -/
def numM (s : ByteArray) : Option Int :=
  if (unsign s.data.toList).length < 1 ∨ 18 < (unsign s.data.toList).length then none else
    match dval (unsign s.data.toList) with
    | none => none
    | some m => if decB (if (unsign s.data.toList).length < s.data.toList.length then -(m : Int) else m) = s then some (if (unsign s.data.toList).length < s.data.toList.length then -(m : Int) else m) else none
def numI (s : ByteArray) : Int := (numM s).getD 0
def numB (s : ByteArray) : Bool := (numM s).isSome
theorem toList_decB (n : Int) : (decB n).data.toList = Lib.itoa n := rfl
theorem unsign_itoa (n : Int) : unsign (Lib.itoa n) = Lib.decDigits n.natAbs := by
  unfold Lib.itoa unsign
  by_cases h : n < 0
  · rw [if_pos h]; simp
  · rw [if_neg h]
    have e : n.toNat = n.natAbs := by omega
    rw [e]
    rw [if_neg]
    intro hh
    cases hd : Lib.decDigits n.natAbs with
    | nil => exact decDigits_ne _ hd
    | cons c r =>
      rw [hd] at hh
      simp at hh
      subst hh
      have := decDigits_dig n.natAbs 45 (by rw [hd]; simp)
      simp [isDig] at this
theorem unsign_len (n : Int) : ((unsign (Lib.itoa n)).length < (Lib.itoa n).length) ↔ n < 0 := by
  rw [unsign_itoa]
  unfold Lib.itoa
  by_cases h : n < 0
  · rw [if_pos h]; simp [h]
  · rw [if_neg h]
    have e : n.toNat = n.natAbs := by omega
    rw [e]; simp; omega
/-- the number read back is the one that was written -/
theorem numM_decB {n : Int} (h : (Lib.decDigits n.natAbs).length ≤ 18) : numM (decB n) = some n := by
  unfold numM
  rw [toList_decB, unsign_itoa]
  have h1 : 1 ≤ (Lib.decDigits n.natAbs).length := List.length_pos_iff.2 (decDigits_ne _)
  rw [if_neg (by omega), dval_decDigits]
  have hl := unsign_len n
  rw [unsign_itoa] at hl
  show (if decB (if (Lib.decDigits n.natAbs).length < (Lib.itoa n).length then -(n.natAbs : Int) else n.natAbs) = decB n then some (if (Lib.decDigits n.natAbs).length < (Lib.itoa n).length then -(n.natAbs : Int) else n.natAbs) else none) = some n
  have e : (if (Lib.decDigits n.natAbs).length < (Lib.itoa n).length then -(n.natAbs : Int) else n.natAbs) = n := by
    by_cases hn : n < 0
    · rw [if_pos (hl.2 hn)]; omega
    · rw [if_neg (fun h => hn (hl.1 h))]; omega
  rw [e, if_pos rfl]
theorem numM_some {s : ByteArray} {n : Int} (h : numM s = some n) : s = decB n ∧ (Lib.decDigits n.natAbs).length ≤ 18 ∧ -1000000000000000000 < n ∧ n < 1000000000000000000 := by
  unfold numM at h
  split at h
  · cases h
  rename_i hl
  split at h
  · cases h
  rename_i m hm
  by_cases he : decB (if (unsign s.data.toList).length < s.data.toList.length then -(m : Int) else m) = s
  · rw [if_pos he] at h
    simp only [Option.some.injEq] at h
    rw [h] at he
    have hlt := dvalFrom_lt _ 0 m 0 (by decide) hm
    have hb : m < 1000000000000000000 := by
      refine Nat.lt_of_lt_of_le hlt ?_
      rw [Nat.zero_add]
      exact Nat.pow_le_pow_right (by decide) (show (unsign s.data.toList).length ≤ 18 by omega)
    refine ⟨he.symm, ?_, ?_, ?_⟩
    · rw [← unsign_itoa, ← toList_decB, he]; omega
    · rw [← h]; split <;> omega
    · rw [← h]; split <;> omega
  · rw [if_neg he] at h
    cases h
/-- the same by strconv.ParseInt -/
theorem numM_parse (s : ByteArray) : numM s = match Lib.parseIntB 64 s.data.toList with
    | .ok n => if decB n = s ∧ (unsign s.data.toList).length ≤ 18 then some n else none
    | _ => none := by
  cases hn : numM s with
  | some n =>
    obtain ⟨rfl, hd, h1, h2⟩ := numM_some hn
    have hp : Lib.parseIntB 64 (decB n).data.toList = .ok n := by
      rw [Lib.parseIntB_64, toList_decB]
      have hv := parse_of_dval _ 0 _ (dval_decDigits n.natAbs) (by omega)
      have hne := decDigits_ne n.natAbs
      have hmag : Lib.parseMag (Lib.decDigits n.natAbs) = .ok n.natAbs := by
        unfold Lib.parseMag; rw [if_neg hne]; exact hv
      by_cases hneg : n < 0
      · have e : Lib.itoa n = 45 :: Lib.decDigits n.natAbs := by unfold Lib.itoa; rw [if_pos hneg]
        rw [e]
        unfold Lib.atoiAll
        simp only
        rw [if_pos (by right; decide), hmag]
        simp only
        rw [if_neg (by simp), if_neg (by omega)]
        simp
        omega
      · have e : Lib.itoa n = Lib.decDigits n.natAbs := by unfold Lib.itoa; rw [if_neg hneg]; congr 1; omega
        rw [e]
        cases hdd : Lib.decDigits n.natAbs with
        | nil => exact absurd hdd hne
        | cons c r =>
          have hc := decDigits_dig n.natAbs c (by rw [hdd]; simp)
          simp only [isDig, Bool.and_eq_true, decide_eq_true_eq] at hc
          unfold Lib.atoiAll
          simp only
          rw [if_neg (by omega), ← hdd, hmag]
          simp only
          rw [if_neg (by omega), if_neg (by omega), if_neg (by omega)]
          simp
          omega
    rw [hp]
    simp only
    rw [toList_decB, unsign_itoa, if_pos ⟨trivial, hd⟩]
  | none =>
    split
    · rename_i n hp
      split
      · rename_i hc
        obtain ⟨rfl, hl⟩ := hc
        rw [toList_decB, unsign_itoa] at hl
        rw [numM_decB hl] at hn
        cases hn
      · rfl
    · rfl
/-- the pieces of acc (which holds no c) and what follows, between the bytes c -/
def splitA (c : UInt8) : List UInt8 → List UInt8 → List (List UInt8)
  | acc, [] => [acc]
  | acc, b :: l => if b = c then acc :: splitA c [] l else splitA c (acc ++ [b]) l
def splitM (c : UInt8) (l : List UInt8) : List (List UInt8) := splitA c [] l
def splitS (c : UInt8) (s : ByteArray) : List ByteArray := (splitM c s.data.toList).map bs
theorem splitA_hit (c : UInt8) (l : List UInt8) : ∀ (p acc : List UInt8), c ∉ p → splitA c acc (p ++ c :: l) = (acc ++ p) :: splitM c l
  | [], acc, _ => by simp [splitA, splitM]
  | b :: p, acc, h => by
    have hb : b ≠ c := fun e => h (by simp [e])
    simp only [List.cons_append, splitA, if_neg hb]
    rw [splitA_hit c l p (acc ++ [b]) (fun hh => h (by simp [hh]))]
    simp
theorem splitA_miss (c : UInt8) : ∀ (p acc : List UInt8), c ∉ p → splitA c acc p = [acc ++ p]
  | [], acc, _ => by simp [splitA]
  | b :: p, acc, h => by
    have hb : b ≠ c := fun e => h (by simp [e])
    simp only [splitA, if_neg hb]
    rw [splitA_miss c p (acc ++ [b]) (fun hh => h (by simp [hh]))]
    simp
theorem byte_split {c : UInt8} : ∀ {l : List UInt8}, c ∈ l → ∃ p r, l = p ++ c :: r ∧ c ∉ p
  | [], h => by cases h
  | b :: l, h => by
    by_cases hb : b = c
    · exact ⟨[], l, by simp [hb], by simp⟩
    · obtain ⟨p, r, rfl, hp⟩ := byte_split (l := l) (by simpa [Ne.symm hb] using h)
      exact ⟨b :: p, r, rfl, by simp [Ne.symm hb, hp]⟩
theorem splitM_ne (c : UInt8) (l : List UInt8) : splitM c l ≠ [] := by
  by_cases h : c ∈ l
  · obtain ⟨p, r, rfl, hp⟩ := byte_split h
    unfold splitM
    rw [splitA_hit c r p [] hp]
    simp
  · unfold splitM
    rw [splitA_miss c l [] h]
    simp
theorem indexByte_at (c : UInt8) (r : List UInt8) : ∀ (p : List UInt8), c ∉ p → Lib.indexByte (p ++ c :: r) c = p.length
  | [], _ => by simp [Lib.indexByte]
  | b :: p, h => by
    have hb : b ≠ c := fun e => h (by simp [e])
    have ih := indexByte_at c r p (fun hh => h (by simp [hh]))
    simp only [List.cons_append, Lib.indexByte, beq_iff_eq, if_neg hb, ih]
    rw [if_neg (by omega)]
    simp
theorem indexByte_no (c : UInt8) : ∀ (p : List UInt8), c ∉ p → Lib.indexByte p c = -1
  | [], _ => rfl
  | b :: p, h => by
    have hb : b ≠ c := fun e => h (by simp [e])
    simp only [Lib.indexByte, beq_iff_eq, if_neg hb, indexByte_no c p (fun hh => h (by simp [hh])), if_true]
theorem splitK_eq (c : UInt8) : ∀ (k : Nat) (l : List UInt8), l.count c = k → Lib.splitK [c] 0 k l = splitM c l
  | 0, l, h => by
    have hn : c ∉ l := List.count_eq_zero.1 h
    unfold splitM
    rw [splitA_miss c l [] hn]
    rfl
  | k + 1, l, h => by
    have hm : c ∈ l := List.count_pos_iff.1 (by omega)
    obtain ⟨p, r, rfl, hp⟩ := byte_split hm
    have hi : Lib.index (p ++ c :: r) [c] = p.length := by rw [Lib.index_one, indexByte_at c r p hp]
    have hc : r.count c = k := by
      rw [List.count_append, List.count_cons_self, List.count_eq_zero.2 hp] at h
      omega
    unfold Lib.splitK
    rw [hi, if_neg (by simp)]
    unfold splitM
    rw [splitA_hit c r p [] hp]
    congr 1
    · simp
    · rw [← splitK_eq c k r hc]
      congr 1
      simp
theorem bytes_ext {a b : ByteArray} (h : a.data.toList = b.data.toList) : a = b := by
  obtain ⟨⟨x⟩⟩ := a
  obtain ⟨⟨y⟩⟩ := b
  simp at h
  rw [h]
theorem splitB_eq (c : UInt8) (s : ByteArray) : Lib.splitB ⟨#[c]⟩ 0 (Lib.countB s ⟨#[c]⟩) s = splitS c s := by
  have h1 := Lib.splitB_data ⟨#[c]⟩ 0 (Lib.countB s ⟨#[c]⟩) s
  have h2 : (Lib.countB s ⟨#[c]⟩) = s.data.toList.count c := Lib.count_one c _
  rw [show (ByteArray.mk #[c]).data.toList = [c] from rfl, splitK_eq c _ _ h2.symm] at h1
  unfold splitS
  rw [← h1, List.map_map]
  have : (bs ∘ fun x : ByteArray => x.data.toList) = id := by
    funext x
    exact bytes_ext (bs_data _)
  rw [this, List.map_id]
theorem splitS_len (c : UInt8) (s : ByteArray) : (splitS c s).length = Lib.countB s ⟨#[c]⟩ + 1 := by
  rw [← splitB_eq]
  exact Lib.splitB_all ⟨#[c]⟩ (by show 1 ≤ 1; omega) 0 _ s rfl
/-- the digits of a number, none of 0 -/
def digsD (u : Nat) : List UInt8 := if u = 0 then [] else Lib.decDigits u
theorem digsD_zero : digsD 0 = [] := rfl
theorem digsD_step {u : Nat} (h : u ≠ 0) : digsD u = digsD (u / 10) ++ [UInt8.ofNat (48 + u % 10)] := by
  unfold digsD
  rw [if_neg h, Lib.decDigits]
  by_cases h1 : u < 10
  · rw [dif_pos h1, if_pos (by omega)]
    have : u % 10 = u := by omega
    rw [this]; rfl
  · rw [dif_neg h1, if_neg (by omega)]
theorem digsD_len (u k : Nat) (h : u < 10 ^ k) : (digsD u).length ≤ k := by
  induction k generalizing u with
  | zero => have : u = 0 := by simpa using h
            subst this; simp [digsD]
  | succ k ih =>
    by_cases h0 : u = 0
    · subst h0; simp [digsD]
    · rw [digsD_step h0]
      have := ih (u / 10) (by rw [Nat.pow_succ] at h; omega)
      simp; omega
theorem tdiv_natAbs (k : Int) : (k.tdiv 10).natAbs = k.natAbs / 10 := by
  rw [Int.natAbs_tdiv]; rfl
theorem tmod_natAbs (k : Int) : (k.tmod 10).natAbs = k.natAbs % 10 := by
  rw [Int.natAbs_tmod]; rfl
theorem digs_digsD (u : Nat) : ∀ out : List UInt8, digs u out = digsD u ++ out := by
  induction u using Nat.strongRecOn with
  | _ u ih =>
    intro out
    by_cases h : u = 0
    · subst h; rfl
    · rw [digs_step (by omega), ih (u / 10) (by omega), digsD_step h]
      simp
/-- the number's text, as the reference makes it -/
theorem itoa_digs (n : Int) : Lib.itoa n = if n = 0 then [48] else if n < 0 then 45 :: digs n.natAbs [] else digs n.natAbs [] := by
  unfold Lib.itoa
  by_cases h0 : n = 0
  · subst h0
    rw [if_neg (by omega), if_pos rfl, Lib.decDigits, dif_pos (by decide)]
    rfl
  · have hd : digsD n.natAbs = Lib.decDigits n.natAbs := by
      unfold digsD
      exact if_neg (by omega)
    rw [if_neg h0, digs_digsD, hd, List.append_nil]
    by_cases h : n < 0
    · rw [if_pos h, if_pos h]
    · rw [if_neg h, if_neg h]
      congr 1
      omega
theorem decB_len {n : Int} (h0 : -9223372036854775808 ≤ n) (h1 : n ≤ 9223372036854775807) : (decB n).size ≤ 21 := by
  show (bs _).size ≤ 21
  rw [bs_size]
  exact Lib.itoa_length_le n h0 h1
theorem splitS_get {c : UInt8} {s x : ByteArray} {k : Nat} (h : (splitS c s)[k]? = some x) : ∃ l, (splitM c s.data.toList)[k]? = some l ∧ x = bs l := by
  unfold splitS at h
  rw [List.getElem?_map, Option.map_eq_some_iff] at h
  obtain ⟨l, h1, h2⟩ := h
  exact ⟨l, h1, h2.symm⟩
/-- a piece is no longer than the whole -/
theorem splitA_le (c : UInt8) : ∀ (l acc : List UInt8), ∀ p ∈ splitA c acc l, p.length ≤ acc.length + l.length
  | [], acc, p, h => by simp [splitA] at h; subst h; simp
  | b :: l, acc, p, h => by
    simp only [splitA] at h
    split at h
    · rcases List.mem_cons.1 h with rfl | h
      · simp
      · have := splitA_le c l [] p h
        simp at this ⊢
        omega
    · have := splitA_le c l (acc ++ [b]) p h
      simp at this ⊢
      omega
theorem splitS_le {c : UInt8} {s x : ByteArray} (h : x ∈ splitS c s) : x.size ≤ s.size := by
  unfold splitS at h
  obtain ⟨l, hl, rfl⟩ := List.mem_map.1 h
  have := splitA_le c _ _ l hl
  rw [bs_size]
  simpa using this
theorem splitS_pos (c : UInt8) (s : ByteArray) : 1 ≤ (splitS c s).length := by
  unfold splitS
  rw [List.length_map]
  exact List.length_pos_iff.2 (splitM_ne c _)
theorem splitA_len (c : UInt8) : ∀ (l acc : List UInt8), (splitA c acc l).length ≤ l.length + 1
  | [], acc => by simp [splitA]
  | b :: l, acc => by
    simp only [splitA]
    split
    · have := splitA_len c l []
      simp; omega
    · have := splitA_len c l (acc ++ [b])
      simp; omega
theorem splitS_len_le (c : UInt8) (s : ByteArray) : (splitS c s).length ≤ s.size + 1 := by
  unfold splitS
  rw [List.length_map]
  have := splitA_len c s.data.toList []
  unfold splitM
  simpa using this
theorem bs_cat (l : List UInt8) (s : ByteArray) : bs l ++ s = bs (l ++ s.data.toList) := by
  apply bytes_ext
  simp [bs]
end Go.M
