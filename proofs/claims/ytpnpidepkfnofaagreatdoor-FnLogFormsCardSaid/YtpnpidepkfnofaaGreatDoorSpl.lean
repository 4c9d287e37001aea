/- Walks: slices of strings; a text split at a byte (l1Split). -/
import Derived.Test.YtpnpidepkfnofaaGreatDoorRow
import Derived.Test.YtpnpidepkfnofaaGreatDoorCutL
import Derived.Test.YtpnpidepkfnofaaGreatDoorChain
import Derived.Test.YtpnpidepkfnofaaGreatDoorNum
import Derived.Lib.Split
import Derived.Lib.IndexLaws
namespace Go.Proofs.YtpnpidepkfnofaaGreatDoor
open Go.RowKit

theorem Tryz.infoT : (Tryz.prog.info? 9).map (fun i => (i.zero, i.size, i.bytes)) = some (some (.string ⟨#[]⟩), 1, 16) := by kernel_rfl
/-- a row of strings of one's own -/
def OwnsT (w : World) (base : Nat) (v : Value) (xs : List ByteArray) : Prop := w.ownsRow base 9 1 v xs.length (xs.map Value.string)
theorem OwnsT.nil (w : World) (base : Nat) : OwnsT w base (.slice none 0 0) [] := World.ownsRow_nil _ _ _ _
theorem OwnsT.below {w w1 : World} {base : Nat} {v : Value} {xs : List ByteArray} (h : OwnsT w base v xs) (hb : Below w.heap.size w w1) : OwnsT w1 base v xs := by
  refine ⟨h.1, ?_⟩
  rcases h.2 with h0 | ⟨g, cap, cur, hv, hg, hh, r⟩
  · exact .inl h0
  · exact .inr ⟨g, cap, cur, hv, hg, (hb.block g (Array.getElem?_eq_some_iff.1 hh).1).trans hh, r⟩
theorem OwnsT.lt {w : World} {base : Nat} {v : Value} {xs : List ByteArray} (h : OwnsT w base v xs) : ∀ g, v.ownBlock = some g → base ≤ g ∧ g < w.heap.size := World.ownsRow.lt h
theorem OwnsT.form {w : World} {base : Nat} {v : Value} {xs : List ByteArray} (h : OwnsT w base v xs) :
    ∃ (a : Option Addr) (cap : Nat), v = .slice a xs.length cap ∧ xs.length ≤ cap ∧ ∀ i (_ : i < xs.length), ∃ g, a = some ⟨g, 0, none⟩ ∧ w.cell? ⟨g, i, none⟩ = some (.string xs[i]) ∧ (∀ o, w.frozen? ⟨g, o, none⟩ = false) ∧ g < w.heap.size ∧ base ≤ g := by
  rcases h.2 with ⟨hv, hn⟩ | ⟨g, cap, cur, hv, hg, hh, hnc, hcm, hcs, ht⟩
  · exact ⟨none, 0, by rw [hv, hn], by omega, fun i hi => by omega⟩
  · refine ⟨some ⟨g, 0, none⟩, cap, hv, hnc, fun i hi => ⟨g, rfl, ?_, ?_, (Array.getElem?_eq_some_iff.1 hh).1, hg⟩⟩
    · have h4 : (cur.toList.take (xs.length * 1))[i]? = cur.toList[i]? := List.getElem?_take_of_lt (by omega)
      rw [ht, List.getElem?_map, List.getElem?_eq_getElem hi] at h4
      rw [Array.getElem?_toList] at h4
      show (match w.heap[g]? with | some (.cells cs _ _) => _ | _ => _) = _
      rw [hh]; exact h4.symm
    · intro o
      simp [World.frozen?, hh]
theorem wpList_appT {ops : Array Oper} {rest : List Oper} {o : Oper} {a : Act} {Q : Exit → Act → World → Prop} {wr : World} {y : ByteArray} (hgd : o.guard = none) (s x : Operand)
    (ho : o.op = .call { callee := .builtin .append, args := #[s, x], argTypes := #[50, 50] })
    (base : Nat) (v : Value) (xs : List ByteArray) (hs : a.eval s = v) (hown : OwnsT wr base v xs) (hx : a.eval x = .slice (some ⟨wr.heap.size, 0, none⟩) 1 1)
    (hlen : xs.length < 1000000000) (hbase : base ≤ wr.heap.size)
    (h : ∀ v' w1, OwnsT w1 base v' (xs ++ [y]) → Over v.ownBlock.toList wr w1 → wpList Tryz.prog ops Q rest (a.put o.dst v') w1) :
    wpList Tryz.prog ops Q (o :: rest) a (wr.alloc (.cells #[.string y] 9)) := by
  obtain ⟨i0, hi, hz0, hz1, hz2⟩ := info_parts Tryz.infoT
  refine wpList_append_own _ hgd s x 50 ho base 9 i0 (.string ⟨#[]⟩) 1 16 Tryz.underlying50 hi hz0 hz1 hz2 rfl (by decide) v xs.length (xs.map Value.string) hs (World.ownsRow.alloc hown _) ⟨wr.heap.size, 0, none⟩ 1 1 [.string y] hx rfl ?_ ?_ ?_ ?_ ?_ ?_
  · intro j u hj
    match j, hj with
    | 0, hj => simp at hj; subst hj; simp [Addr.add]
  · intro u hu; simp at hu; subst hu; rfl
  · unfold maxLen; omega
  · omega
  · simp; omega
  · intro v' w1 hown' hgrow _
    refine h v' w1 ?_ ?_
    · unfold OwnsT
      simpa using hown'
    · have ha := (Below.refl wr.heap.size wr).alloc (Nat.le_refl _) (.cells #[.string y] 9)
      refine ⟨hgrow.os.trans ha.os, hgrow.tape.trans ha.tape, hgrow.output.trans ha.output, Nat.le_trans ha.size hgrow.size, fun k hk hn => ?_⟩
      refine (hgrow.block k (Nat.lt_of_lt_of_le hk ha.size) ?_).trans (ha.block k hk)
      cases hv : v.ownBlock with
      | none => simp
      | some g => rw [hv] at hn; simpa using hn
/-! a text split at a byte -/
/-- the pieces up to k, and where the next one begins -/
def splTo (s : ByteArray) (b : UInt8) : Nat → List ByteArray × Nat
  | 0 => ([], 0)
  | k + 1 => if s.data.toList[k]? = some b then ((splTo s b k).1 ++ [s.extract (splTo s b k).2 k], k + 1) else splTo s b k
def splB (s : ByteArray) (b : UInt8) : List ByteArray := (splTo s b s.size).1 ++ [s.extract (splTo s b s.size).2 s.size]
theorem splTo_le (s : ByteArray) (b : UInt8) : ∀ k, (splTo s b k).2 ≤ k ∧ (splTo s b k).1.length ≤ k
  | 0 => ⟨Nat.le_refl _, Nat.le_refl _⟩
  | k + 1 => by
    have := splTo_le s b k
    unfold splTo
    split
    · simp; omega
    · omega
theorem splTo_yes {s : ByteArray} {b : UInt8} {k : Nat} (h : k < s.size) (hq : ((s[k].toNat : Int) == (b.toNat : Int)) = true) : splTo s b (k + 1) = ((splTo s b k).1 ++ [s.extract (splTo s b k).2 k], k + 1) := by
  have hl : s.data.toList.length = s.size := Array.length_toList
  have hk : k < s.data.toList.length := by omega
  have e : s.data.toList[k] = s[k] := rfl
  have h1 : s[k] = b := by
    have h9 : (s[k].toNat : Int) = b.toNat := by simpa using hq
    exact UInt8.toNat_inj.1 (by omega)
  rw [splTo, if_pos (by rw [List.getElem?_eq_getElem hk, e, h1])]
theorem splTo_no {s : ByteArray} {b : UInt8} {k : Nat} (h : k < s.size) (hq : ((s[k].toNat : Int) == (b.toNat : Int)) = false) : splTo s b (k + 1) = splTo s b k := by
  have hl : s.data.toList.length = s.size := Array.length_toList
  have hk : k < s.data.toList.length := by omega
  have e : s.data.toList[k] = s[k] := rfl
  rw [splTo, if_neg]
  rw [List.getElem?_eq_getElem hk, e]
  intro h1
  injection h1 with h1
  rw [h1] at hq
  simp at hq
theorem splTo_cut (s : ByteArray) (b : UInt8) : ∀ k, k ≤ s.size → cutL b s.data.toList = (splTo s b k).1.map (·.data.toList) ++ hook ((s.data.toList.drop (splTo s b k).2).take (k - (splTo s b k).2)) (cutL b (s.data.toList.drop k))
  | 0, _ => by
    simp only [splTo, List.map_nil, List.drop_zero, Nat.sub_zero, List.take_zero, List.nil_append]
    exact (hook_nil _ (cutL_ne _ _)).symm
  | k + 1, h => by
    have hl : s.data.toList.length = s.size := Array.length_toList
    have hk : k < s.data.toList.length := by omega
    have ih := splTo_cut s b k (by omega)
    have hle := (splTo_le s b k).1
    rw [List.drop_eq_getElem_cons hk, cutL_cons] at ih
    by_cases hx : s.data.toList[k] = b
    · rw [if_pos hx] at ih
      rw [splTo, if_pos (by rw [List.getElem?_eq_getElem hk, hx]), ih]
      simp only [Nat.sub_self, List.take_zero, List.map_append, List.map_cons, List.map_nil, List.append_assoc, List.singleton_append]
      rw [hook_nil _ (cutL_ne _ _)]
      simp only [hook, List.append_nil]
      congr 2
      rw [Lib.extract_data]
    · rw [if_neg hx, hook_hook] at ih
      rw [splTo, if_neg (by rw [List.getElem?_eq_getElem hk]; intro h9; exact hx (by injection h9)), ih]
      congr 2
      generalize hf : (splTo s b k).2 = f at hle ⊢
      have e1 : k + 1 - f = (k - f) + 1 := by omega
      rw [e1, List.take_add_one, List.getElem?_drop, show f + (k - f) = k by omega, List.getElem?_eq_getElem hk]
      rfl
theorem splB_cut (s : ByteArray) (b : UInt8) : (splB s b).map (·.data.toList) = cutL b s.data.toList := by
  have hl : s.data.toList.length = s.size := Array.length_toList
  have h := splTo_cut s b s.size (Nat.le_refl _)
  have hle := (splTo_le s b s.size).1
  rw [show s.data.toList.drop s.size = [] from List.drop_of_length_le (by omega)] at h
  rw [h]
  unfold splB
  simp only [List.map_append, List.map_cons, List.map_nil]
  simp only [cutL, hook, List.append_nil]
  congr 2
  rw [Lib.extract_data]
theorem splB_len (s : ByteArray) (b : UInt8) : (splB s b).length ≤ s.size + 1 ∧ 1 ≤ (splB s b).length := by
  have := (splTo_le s b s.size).2
  unfold splB
  simp
  exact this
set_option maxHeartbeats 1000000 in
theorem c_l1SplitT (s : ByteArray) (b : UInt8) (w : World) (hs : s.size ≤ 100000000) :
    Calls Tryz.prog 59 #[.string s, .int .u8 b.toNat] w fun e w' => ∃ v, e = .returned v ∧ OwnsT w' w.heap.size v (splB s b) ∧ Below w.heap.size w w' := by
  go_enter Tryz.func59, Tryz.ntmps59
  go_wp2
  go_loopw [5, 6, 7] (fun v f i wr => ∃ k : Nat, k ≤ s.size ∧ f = .int .i64 ((splTo s b k).2 : Nat) ∧ i = .int .i64 k ∧ OwnsT wr w.heap.size v (splTo s b k).1 ∧ Below w.heap.size w wr) (fun _ _ i _ => s.size - (intOf i).toNat)
  case atStart => exact ⟨0, Nat.zero_le _, rfl, rfl, OwnsT.nil _ _, Below.refl _ _⟩
  case round =>
    obtain ⟨k, hk, rfl, rfl, ho, hb⟩ := hrel
    have hsz := hb.size
    have hcl := splTo_le s b k
    by_cases hlt : k < s.size
    · cases hq : ((s[k].toNat : Int) == (b.toNat : Int))
      · have HE := Lib.hid (splTo_no hlt hq)
        generalize splTo s b k = P at *
        go_wp2
        go_roundw
        case rel => exact ⟨k + 1, by omega, by rw [HE.out], by go_num, by rw [HE.out]; exact ho, hb⟩
        case measure => simp [intOf]; omega
      · have HE := Lib.hid (splTo_yes hlt hq)
        generalize splTo s b k = P at *
        obtain ⟨X, f⟩ := P
        simp only at hcl ho HE ⊢
        obtain ⟨hcl1, hcl2⟩ := hcl
        go_wp2_with (at_builtin; refine wpList_appT rfl _ _ rfl w.heap.size _ X rfl ho rfl (by omega) hsz ?_; intro v' w1 ho1 hb1)
        have hlo := ho.lt
        have hb2 := hb1.belowGe hb hsz (fun g hg => (hlo g (by have h7 : g ∈ u5.ownBlock.toList := hg; simpa using h7)).1)
        go_wp2
        go_roundw
        case rel => exact ⟨k + 1, by omega, by rw [HE.out]; go_num, by go_num, by rw [HE.out]; exact ho1, hb2⟩
        case measure => simp [intOf]; omega
    · obtain rfl : k = s.size := by omega
      have HE : Hid (splB s b = (splTo s b s.size).1 ++ [s.extract (splTo s b s.size).2 s.size]) := rfl
      generalize splTo s b s.size = P at *
      obtain ⟨X, f⟩ := P
      simp only at hcl ho HE ⊢
      obtain ⟨hcl1, hcl2⟩ := hcl
      go_wp2_with (at_builtin; refine wpList_appT rfl _ _ rfl w.heap.size _ X rfl ho rfl (by omega) hsz ?_; intro v' w1 ho1 hb1)
      have hlo := ho.lt
      have hb2 := hb1.belowGe hb hsz (fun g hg => (hlo g (by have h7 : g ∈ u5.ownBlock.toList := hg; simpa using h7)).1)
      go_wp2
      obtain ⟨a, cap, rfl, _⟩ := ho1.form
      rw [List.length_append, List.length_singleton] at ho1 ⊢
      refine bodyPost_ret (v := .slice a (X.length + 1) cap) (by simp [results, Tryz.results59, go_sem]) rfl ?_
      exact ⟨_, rfl, by rw [HE.out]; exact ho1, hb2⟩
end Go.Proofs.YtpnpidepkfnofaaGreatDoor
