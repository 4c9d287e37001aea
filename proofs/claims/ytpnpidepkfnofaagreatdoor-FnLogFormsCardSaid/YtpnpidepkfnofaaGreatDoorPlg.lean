/- Plain: texts of logs, taken apart. -/
import Derived.Test.YtpnpidepkfnofaaGreatDoorLogL
import Derived.Test.YtpnpidepkfnofaaGreatDoorSpl
import Derived.Test.YtpnpidepkfnofaaGreatDoorRdN
import Derived.Lib.AtoiAll
import Derived.Lib.SlicesS
import Derived.Lib.CountLaws
namespace Go.Proofs.YtpnpidepkfnofaaGreatDoor
open Go.RowKit

/-! numbers of at most two digits -/
def itS (u : Nat) : List UInt8 := if u < 10 then [UInt8.ofNat (48 + u)] else [UInt8.ofNat (48 + u / 10), UInt8.ofNat (48 + u % 10)]
theorem decS {u : Nat} (h : u < 100) : Lib.decDigits u = itS u := by
  unfold itS
  split
  · exact Lib.decDigits_one (by assumption)
  · exact Lib.decDigits_two (by assumption) h
def itZ (y : Int) : List UInt8 := if y < 0 then 45 :: itS y.natAbs else itS y.toNat
theorem itoa_itZ {y : Int} (h : -99 ≤ y ∧ y ≤ 99) : Lib.itoa y = itZ y := by
  unfold Lib.itoa itZ
  rw [decS (by omega), decS (by omega)]
def okZ (y : Int) : Bool := decide ((10 : UInt8) ∉ itZ y) && decide ((32 : UInt8) ∉ itZ y) && decide ((itZ y).length ≤ 4) && decide (Lib.atoiAll (itZ y) = .ok y) && decide (rdS (itZ y) = y)
theorem okZ_all : ∀ k : Fin 61, okZ ((k.val : Int) - 30) = true := by decide +kernel
theorem okZ_of {y : Int} (h : -30 ≤ y ∧ y ≤ 30) : okZ y = true := by
  have := okZ_all ⟨(y + 30).toNat, by omega⟩
  rwa [show (((y + 30).toNat : Nat) : Int) - 30 = y by omega] at this
theorem okZ_facts {y : Int} (h : -30 ≤ y ∧ y ≤ 30) : (10 : UInt8) ∉ itZ y ∧ (32 : UInt8) ∉ itZ y ∧ (itZ y).length ≤ 4 ∧ Lib.atoiAll (itZ y) = .ok y ∧ rdS (itZ y) = y := by
  have := okZ_of h
  unfold okZ at this
  simp only [Bool.and_eq_true, decide_eq_true_eq] at this
  exact ⟨this.1.1.1.1, this.1.1.1.2, this.1.1.2, this.1.2, this.2⟩
theorem stepB_z {k v : Int} (h : stepB k v = true) : (0 ≤ k ∧ k ≤ 3) ∧ (-30 ≤ v ∧ v ≤ 30) := by
  unfold stepB at h
  split at h
  · have := inB_true h
    omega
  · split at h
    · rw [Bool.and_eq_true] at h
      have h1 := h.1
      unfold twistB at h1
      simp only [Bool.and_eq_true] at h1
      have := inB_true h1.1.1
      omega
    · cases h
/-! lines -/
def nmB (k : Int) : List UInt8 := if k = 0 then [117, 112] else if k = 1 then [100, 111, 119, 110] else if k = 2 then [116, 119, 105, 115, 116] else [117, 110, 116, 119, 105, 115, 116]
theorem nmB_no (k : Int) : (10 : UInt8) ∉ nmB k ∧ (32 : UInt8) ∉ nmB k := by
  unfold nmB
  split
  · decide
  · split
    · decide
    · split <;> decide
/-- a line without its end -/
def lnH (c : Int × Int) : List UInt8 := nmB c.1 ++ 32 :: itZ c.2
def lnB (c : Int × Int) : List UInt8 := lnH c ++ [10]
theorem lineV_data {c : Int × Int} (h : -99 ≤ c.2 ∧ c.2 ≤ 99) : (lineV ⟨#[117, 112]⟩ ⟨#[100, 111, 119, 110]⟩ ⟨#[116, 119, 105, 115, 116]⟩ ⟨#[117, 110, 116, 119, 105, 115, 116]⟩ c.1 c.2).data.toList = lnB c := by
  have e : (intS c.2).data.toList = itZ c.2 := by rw [← itoa_itZ h]; rfl
  unfold lineV lnB lnH
  simp only [ByteArray.data_append, Array.toList_append, e, List.append_assoc, List.cons_append, List.nil_append]
  congr 1
  unfold nmV nmB
  split
  · rfl
  · split
    · rfl
    · split <;> rfl
theorem txt_data : ∀ (L : List (Int × Int)) (s : ByteArray), (∀ c ∈ L, -99 ≤ c.2 ∧ c.2 ≤ 99) → (L.foldl (fun s c => s ++ lineV ⟨#[117, 112]⟩ ⟨#[100, 111, 119, 110]⟩ ⟨#[116, 119, 105, 115, 116]⟩ ⟨#[117, 110, 116, 119, 105, 115, 116]⟩ c.1 c.2) s).data.toList = s.data.toList ++ (L.map lnB).flatten
  | [], s, _ => by simp
  | c :: L, s, h => by
    rw [List.foldl_cons, txt_data L _ (fun d hd => h d (by simp [hd])), ByteArray.data_append, Array.toList_append, lineV_data (h c (by simp))]
    simp
def isTxt (s : ByteArray) (L : List (Int × Int)) : Prop := logB L = true ∧ txtL L = s
theorem isTxt.data {s : ByteArray} {L : List (Int × Int)} (h : isTxt s L) : s.data.toList = (L.map lnB).flatten := by
  have h1 := logB_of h.1
  rw [← h.2]
  have := txt_data L ⟨#[]⟩ (fun c hc => by
    obtain ⟨k, hk, rfl⟩ := List.mem_iff_getElem.1 hc
    have := (stepB_z (h1.2 k hk)).2
    omega)
  simpa [txtL, txtV] using this
theorem isTxt.steps {s : ByteArray} {L : List (Int × Int)} (h : isTxt s L) : ∀ c ∈ L, stepB c.1 c.2 = true := fun c hc => by
  obtain ⟨k, hk, rfl⟩ := List.mem_iff_getElem.1 hc
  exact (logB_of h.1).2 k hk
theorem lnH_no {c : Int × Int} (h : stepB c.1 c.2 = true) : (10 : UInt8) ∉ lnH c := by
  have h1 := okZ_facts (stepB_z h).2
  unfold lnH
  simp only [List.mem_append, List.mem_cons, not_or]
  exact ⟨(nmB_no _).1, by decide, h1.1⟩
/-! the reference's pieces -/
theorem cutL_text : ∀ (L : List (Int × Int)), (∀ c ∈ L, stepB c.1 c.2 = true) → cutL 10 (L.map lnB).flatten = L.map lnH ++ [[]]
  | [], _ => rfl
  | c :: L, h => by
    have := cutL_line 10 (lnH c) (L.map lnB).flatten (lnH_no (h c (by simp)))
    rw [List.map_cons, List.flatten_cons, lnB, List.append_assoc, List.singleton_append, this, cutL_text L (fun d hd => h d (by simp [hd]))]
    rfl
theorem cutL_lnH {c : Int × Int} (h : stepB c.1 c.2 = true) : cutL 32 (lnH c) = [nmB c.1, itZ c.2] := by
  unfold lnH
  rw [cutL_line 32 _ _ (nmB_no _).2, cutL_one 32 _ (okZ_facts (stepB_z h).2).2.1]
/-! the program's pieces -/
theorem occ_one (c : UInt8) (s : List UInt8) (i : Nat) : Lib.occAt s [c] i = (s[i]? == some c) := by
  unfold Lib.occAt
  rcases hd : s.drop i with _ | ⟨x, r⟩
  · have : s[i]? = none := by
      rw [List.getElem?_eq_none_iff]
      have := congrArg List.length hd
      simp at this
      omega
    rw [this]; rfl
  · have : s[i]? = some x := by
      have h2 := congrArg (·[0]?) hd
      simpa using h2
    rw [this]
    simp only [List.isPrefixOf]
    cases hx : (c == x)
    · have : x ≠ c := fun e => by subst e; simp at hx
      simp [this]
    · have : c = x := by simpa using hx
      simp [this]
theorem index_line {c : UInt8} {p : List UInt8} (r : List UInt8) (h : c ∉ p) : Lib.index (p ++ c :: r) [c] = p.length := by
  refine Lib.index_first (by simp) ?_ fun j hj => ?_
  · rw [occ_one]; simp
  · rw [occ_one, List.getElem?_append_left hj, List.getElem?_eq_getElem hj]
    have : p[j] ≠ c := fun e => h (e ▸ List.getElem_mem hj)
    simpa using this
theorem index_nil (c : UInt8) : Lib.index [] [c] = -1 := Lib.index_none fun j _ => by rw [occ_one]; rfl
theorem splitK_text : ∀ (L : List (Int × Int)) (k : Nat), (∀ c ∈ L, stepB c.1 c.2 = true) → L.length ≤ k → Lib.splitK [10] 1 k (L.map lnB).flatten = L.map lnB ++ [[]]
  | [], k, _, _ => by
    cases k with
    | zero => rfl
    | succ k => rw [List.map_nil, List.flatten_nil, Lib.splitK, if_pos (by rw [index_nil]; rfl)]; rfl
  | c :: L, 0, _, hk => by simp at hk
  | c :: L, k + 1, h, hk => by
    have e : (List.map lnB (c :: L)).flatten = lnH c ++ 10 :: (L.map lnB).flatten := by simp [lnB]
    have hi := index_line (L.map lnB).flatten (lnH_no (h c (by simp)))
    rw [e, Lib.splitK, if_neg (by rw [hi]; simp), hi]
    have ih := splitK_text L k (fun d hd => h d (by simp [hd])) (by simpa using hk)
    simp only [Int.toNat_natCast, List.length_singleton]
    rw [show (lnH c ++ 10 :: (L.map lnB).flatten) = lnB c ++ (L.map lnB).flatten by simp [lnB], show (lnH c).length + 1 = (lnB c).length by simp [lnB], List.take_left' rfl, List.drop_left' rfl, ih]
    rfl
theorem count_text : ∀ (L : List (Int × Int)), (∀ c ∈ L, stepB c.1 c.2 = true) → L.length ≤ Lib.count (L.map lnB).flatten [10]
  | [], _ => Nat.zero_le _
  | c :: L, h => by
    have e : (List.map lnB (c :: L)).flatten = lnH c ++ 10 :: (L.map lnB).flatten := by simp [lnB]
    have hi := index_line (L.map lnB).flatten (lnH_no (h c (by simp)))
    have ih := count_text L (fun d hd => h d (by simp [hd]))
    rw [e, Lib.count_hit (by simp) hi]
    rw [show (lnH c ++ 10 :: (L.map lnB).flatten) = lnB c ++ (L.map lnB).flatten by simp [lnB], show (lnH c).length + [(10 : UInt8)].length = (lnB c).length by simp [lnB], List.drop_left' rfl]
    simp
    omega
/-- the pieces of the program's loop -/
def pcs (s : ByteArray) : List ByteArray := Lib.splitB ⟨#[10]⟩ 1 (Lib.countB s ⟨#[10]⟩) s
theorem pcs_text {s : ByteArray} {L : List (Int × Int)} (h : isTxt s L) : (pcs s).map (·.data.toList) = L.map lnB ++ [[]] := by
  unfold pcs
  have hc := count_text L h.steps
  rw [Lib.splitB_data, h.data]
  refine splitK_text L _ h.steps ?_
  show L.length ≤ Lib.count s.data.toList [10]
  rw [h.data]
  exact hc
theorem trim_line (c : Int × Int) : Lib.trimSuffix (lnB c) [10] = lnH c := by
  have h1 : Lib.hasSuffix (lnB c) [10] = true := List.isSuffixOf_iff_suffix.2 ⟨lnH c, rfl⟩
  unfold Lib.trimSuffix
  rw [if_pos h1]
  unfold lnB
  rw [List.length_append, Nat.add_sub_cancel, List.take_left' rfl]
theorem cut_line (c : Int × Int) : Lib.cut (lnH c) [32] = (nmB c.1, itZ c.2, true) := by
  have hi := index_line (itZ c.2) (nmB_no c.1).2
  unfold Lib.cut lnH
  rw [if_pos (by rw [hi]; omega), hi]
  simp
def wdP (p : ByteArray) : List UInt8 := (Lib.cut (Lib.trimSuffix p.data.toList [10]) [32]).1
def nbP (p : ByteArray) : List UInt8 := (Lib.cut (Lib.trimSuffix p.data.toList [10]) [32]).2.1
theorem line_facts {p : ByteArray} {c : Int × Int} (hp : p.data.toList = lnB c) (h : stepB c.1 c.2 = true) : wdP p = nmB c.1 ∧ Lib.atoiAll (nbP p) = .ok c.2 := by
  unfold wdP nbP
  rw [hp, trim_line, cut_line]
  exact ⟨rfl, (okZ_facts (stepB_z h).2).2.2.2.1⟩
theorem nbP_len (p : ByteArray) : (nbP p).length ≤ p.size := by
  have h1 := Lib.trimSuffix_le p.data.toList [10]
  rw [← Lib.size_eq] at h1
  unfold nbP Lib.cut
  split
  · simp only [List.length_drop]; omega
  · simp
def namesV : List ByteArray := [⟨#[117, 112]⟩, ⟨#[100, 111, 119, 110]⟩, ⟨#[116, 119, 105, 115, 116]⟩, ⟨#[117, 110, 116, 119, 105, 115, 116]⟩]
theorem idx_names {k : Int} (h : 0 ≤ k ∧ k ≤ 3) : Lib.idxOfS namesV ⟨(nmB k).toArray⟩ = k := by
  have h1 : k = 0 ∨ k = 1 ∨ k = 2 ∨ k = 3 := by omega
  rcases h1 with rfl | rfl | rfl | rfl <;> decide +kernel
theorem idx_bd : ∀ (zs : List ByteArray) (x : ByteArray) (i : Nat), -1 ≤ Lib.idxFromS zs x i ∧ Lib.idxFromS zs x i ≤ ((i + zs.length : Nat) : Int)
  | [], _, i => by simp [Lib.idxFromS]
  | z :: zs, x, i => by
    have := idx_bd zs x (i + 1)
    unfold Lib.idxFromS
    split
    · simp; omega
    · simp only [List.length_cons]; omega
/-! the law's values -/
open Classical in
noncomputable def plB (s : ByteArray) : Bool := decide (∃ L, isTxt s L)
open Classical in
noncomputable def plR (s : ByteArray) : List (Int × Int) := if h : ∃ L, isTxt s L then Classical.choose h else []
theorem plR_no {s : ByteArray} (h : ¬ ∃ L, isTxt s L) : plB s = false ∧ plR s = [] := by
  unfold plB plR
  exact ⟨by simp [h], by rw [dif_neg h]⟩
theorem plR_yes {s : ByteArray} (h : ∃ L, isTxt s L) : plB s = true ∧ isTxt s (plR s) := by
  unfold plB plR
  exact ⟨by simp [h], by rw [dif_pos h]; exact Classical.choose_spec h⟩
theorem plR_len (s : ByteArray) : (plR s).length ≤ 20 := by
  by_cases h : ∃ L, isTxt s L
  · exact (logB_of (plR_yes h).2.1).1
  · rw [(plR_no h).2]; simp
/-- what a parse has reached: every log of this text begins so -/
def Pre (s : ByteArray) (i : Nat) (R : List (Int × Int)) : Prop := ∀ L, isTxt s L → i ≤ L.length + 1 ∧ R = L.take i
theorem Pre.zero (s : ByteArray) : Pre s 0 [] := fun L _ => ⟨by omega, by simp⟩
/-- at the end: the log read, if it is one of this text -/
theorem Pre.yes {s : ByteArray} {i : Nat} {R : List (Int × Int)} (h : isTxt s R) (hp : Pre s i R) (hi : ∀ L, isTxt s L → L.length ≤ i) : plB s = true ∧ plR s = R := by
  have h1 := plR_yes ⟨R, h⟩
  have h2 := (hp _ h1.2).2
  rw [List.take_of_length_le (hi _ h1.2)] at h2
  exact ⟨h1.1, h2.symm⟩
theorem Pre.no {s : ByteArray} {i : Nat} {R : List (Int × Int)} (hn : ¬ isTxt s R) (hp : Pre s i R) (hi : ∀ L, isTxt s L → L.length ≤ i) : plB s = false ∧ plR s = [] := by
  refine plR_no fun ⟨L, h⟩ => hn ?_
  have h2 := (hp L h).2
  rw [List.take_of_length_le (hi L h)] at h2
  rw [h2]; exact h
end Go.Proofs.YtpnpidepkfnofaaGreatDoor
