/- Walks: scripts that are joined. -/
import Derived.Test.YtmnhdpcpopgjoaaRow
import Derived.Laws.AppendOwn
import Derived.Lib.Bytealg
import Derived.Lib.Strings
import Derived.Lib.Walk
import Derived.Lib.Hide
import Derived.ChangeMaps5
import Derived.Laws.Strings
import Derived.Laws.Strings2
import Derived.Laws.Strings3
import Derived.Laws.Externs
import Derived.Laws.Concat
namespace Go.Proofs.Ytmnhdpcpopgjoaa
open Go.RowKit

theorem Try.infoS : (Try.prog.info? 9).map (fun i => (i.zero, i.size, i.bytes)) = some (some (.string ⟨#[]⟩), 1, 16) := by kernel_rfl
def sufB (s : ByteArray) : Bool := Lib.hasSuffix s.data.toList [10]
def cntN (s : ByteArray) : Nat := Lib.countByte s.data.toList 10
def scB (s : ByteArray) : Bool := decide ((s.size : Int) ≤ 2000) && (s.toList.isEmpty || sufB s) && decide ((cntN s : Int) ≤ 40)
theorem cntN_le (s : ByteArray) : cntN s ≤ s.size := by
  have := List.count_le_length (l := s.data.toList) (a := (10 : UInt8))
  rw [show s.data.toList.length = s.size from Array.length_toList] at this
  exact this
theorem sufB_last (s : ByteArray) (h : s.size - 1 < s.size) : sufB s = (s[s.size - 1] == 10) := by
  have hl : s.data.toList.length = s.size := Array.length_toList
  have hne : s.data.toList ≠ [] := by intro h9; rw [h9] at hl; have : s.size = 0 := hl.symm; omega
  have hx := List.dropLast_concat_getLast hne
  have hg : s.data.toList.getLast hne = s[s.size - 1] := by
    rw [List.getLast_eq_getElem]
    simp only [hl]
    rfl
  unfold sufB Lib.hasSuffix
  rw [← hg]
  generalize s.data.toList.getLast hne = x at hx ⊢
  rw [← hx]
  cases hb : (x == 10)
  · have : ¬ ([10] : List UInt8) <:+ s.data.toList.dropLast ++ [x] := by
      intro h9
      obtain ⟨t, ht⟩ := h9
      have := List.append_inj_right' ht rfl
      simp at this
      rw [← this] at hb
      simp at hb
    rw [Bool.eq_false_iff]
    intro h8
    exact this (List.isSuffixOf_iff_suffix.1 h8)
  · have : x = 10 := by simpa using hb
    subst this
    exact List.isSuffixOf_iff_suffix.2 ⟨_, rfl⟩
theorem c_lsuffix (s : ByteArray) (w : World) (hs : s.size ≤ 100000000) :
    Calls Try.prog 11 #[.string s, .string ⟨#[10]⟩] w fun e w' => e = .returned (.bool (sufB s)) ∧ w = w' := by
  have e10 : (⟨#[10]⟩ : ByteArray).toList = [10] := ByteArray.toList_eq _
  have H : Hid (sufB s = (decide (1 ≤ s.size) && ((s.extract (s.size - 1) s.size).toList == [10]))) := by
    have := (Lib.hasSuffix_raw s ⟨#[10]⟩).symm
    rw [e10] at this
    exact this
  go_enter Try.func11, Try.ntmps11
  go_wp2
  all_goals (go_ret; rw [H.out]; refine ⟨show Ending.returned (Value.bool _) = _ from ?_, rfl⟩; simp_all; try omega)
theorem c_suffix (s : ByteArray) (w : World) (hs : s.size ≤ 100000000) :
    Calls Try.prog 9 #[.string s, .string ⟨#[10]⟩] w fun e w' => e = .returned (.bool (sufB s)) ∧ w = w' := by
  go_enter Try.func9, Try.ntmps9
  go_wp2_with ((go_at_call 11; refine (c_lsuffix _ _ hs).mono ?_; rintro e w' ⟨rfl, rfl⟩))
  go_ret
  exact ⟨rfl, rfl⟩
theorem c_count (s : ByteArray) (w : World) :
    Calls Try.prog 10 #[.string s, .string ⟨#[10]⟩] w fun e w' => e = .returned (.int .i64 (cntN s)) ∧ w = w' := by
  go_enter Try.func10, Try.ntmps10
  go_wp2
  rw [run_callFunc_extern Try.func13 (by kernel_rfl) (by kernel_rfl) (by kernel_rfl) (e := Extern.BytealgCount.count) (by kernel_rfl), Lib.run_countString]
  simp only [Result.andThen]
  rw [Oper.upon_value]
  go_wp2
  go_ret
  exact ⟨rfl, rfl⟩
set_option maxHeartbeats 1000000 in
theorem c_isScript (s : ByteArray) (w : World) (hs : s.size ≤ 100000000) :
    Calls Try.prog 7 #[.string s] w fun e w' => e = .returned (.bool (scB s)) ∧ w = w' := by
  have hc : (cntN s : Int) ≤ 100000000 := by have := cntN_le s; omega
  go_enter Try.func7, Try.ntmps7
  go_wp2_with (first | (go_at_call 9; refine (c_suffix _ _ hs).mono ?_; rintro e w' ⟨rfl, rfl⟩) | (go_at_call 10; refine (c_count _ _).mono ?_; rintro e w' ⟨rfl, rfl⟩))
  all_goals (go_ret; refine ⟨show Ending.returned (Value.bool _) = _ from ?_, rfl⟩; unfold scB; simp_all; try omega)
def cntTo (s : ByteArray) (k : Nat) : Nat := (s.data.toList.take k).count 10
theorem cntTo_succ (s : ByteArray) (k : Nat) (h : k < s.size) : cntTo s (k + 1) = if ((s[k].toNat : Int) == 10) then cntTo s k + 1 else cntTo s k := by
  have hl : s.data.toList.length = s.size := Array.length_toList
  have hk : k < s.data.toList.length := by omega
  unfold cntTo
  rw [List.take_succ_eq_append_getElem hk, List.count_append]
  have e : s.data.toList[k] = s[k] := rfl
  rw [e]
  generalize s[k] = x
  cases hb : ((x.toNat : Int) == 10)
  · have hx : (x == 10) = false := by
      rw [Bool.eq_false_iff]
      intro h9
      have : x = 10 := by simpa using h9
      subst this
      simp at hb
    simp [List.count_cons, hx]
  · have hx : x = 10 := by
      have h9 : (x.toNat : Int) = 10 := by simpa using hb
      have h8 : x.toNat = 10 := by omega
      exact UInt8.toNat_inj.1 h8
    subst hx
    simp
theorem cntTo_all (s : ByteArray) : cntTo s s.size = cntN s := by
  have hl : s.data.toList.length = s.size := Array.length_toList
  unfold cntTo cntN Lib.countByte
  rw [List.take_of_length_le (by omega)]
theorem cntTo_le (s : ByteArray) (k : Nat) : cntTo s k ≤ k := by
  have h1 := List.count_le_length (l := s.data.toList.take k) (a := (10 : UInt8))
  have h2 : (s.data.toList.take k).length ≤ k := by rw [List.length_take]; omega
  unfold cntTo; omega
/-- a slice of strings of the call's own -/
def OwnsS (w : World) (base : Nat) (v : Value) (n : Nat) : Prop := ∃ xs : List Value, w.ownsRow base 9 1 v n xs
theorem wpList_app_str {ops : Array Oper} {rest : List Oper} {o : Oper} {a : Act} {Q : Exit → Act → World → Prop} {wr : World} {y : ByteArray} (hgd : o.guard = none) (s x : Operand)
    (ho : o.op = .call { callee := .builtin .append, args := #[s, x], argTypes := #[25, 25] })
    (base : Nat) (v : Value) (n : Nat) (hs : a.eval s = v) (hown : OwnsS wr base v n) (hx : a.eval x = .slice (some ⟨wr.heap.size, 0, none⟩) 1 1)
    (hlen : n < 1000000) (hbase : base ≤ wr.heap.size)
    (h : ∀ v' w1, OwnsS w1 base v' (n + 1) → Below base wr w1 → wpList Try.prog ops Q rest (a.put o.dst v') w1) :
    wpList Try.prog ops Q (o :: rest) a (wr.alloc (.cells #[.string y] 9)) := by
  obtain ⟨i0, hi, hz0, hz1, hz2⟩ := info_parts Try.infoS
  obtain ⟨xs, hown⟩ := hown
  refine wpList_append_own _ hgd s x 25 ho base 9 i0 (.string ⟨#[]⟩) 1 16 Try.underlying25 hi hz0 hz1 hz2 rfl (by decide) v n xs hs (World.ownsRow.alloc hown _) ⟨wr.heap.size, 0, none⟩ 1 1 [.string y] hx rfl ?_ ?_ ?_ ?_ ?_ ?_
  · intro j u hj
    match j, hj with
    | 0, hj => simp at hj; subst hj; simp [Addr.add]
  · intro u hu; simp at hu; subst hu; rfl
  · unfold maxLen; omega
  · omega
  · simp; omega
  · intro v' w1 hown' hgrow _
    refine h v' w1 ⟨_, hown'⟩ ?_
    refine ((Below.refl base wr).alloc hbase _).grown hgrow (by simp; omega) (fun k hk => ?_)
    exact (World.ownsRow.lt hown k hk).1
theorem OwnsS.form {w : World} {base : Nat} {v : Value} {n : Nat} (h : OwnsS w base v n) : ∃ a cap, v = .slice a n cap ∧ n ≤ cap := by
  obtain ⟨xs, h⟩ := h
  rcases h.2 with ⟨hv, hn⟩ | ⟨g, cap, cur, hv, hg, hh, hnc, _⟩
  · exact ⟨none, 0, by rw [hv, hn], by omega⟩
  · exact ⟨_, cap, hv, hnc⟩
set_option maxHeartbeats 1000000 in
theorem c_l1Split (s : ByteArray) (w : World) (hs : s.size ≤ 2000) :
    Calls Try.prog 8 #[.string s, .int .u8 10] w fun e w' => ∃ a cap, e = .returned (.slice a (cntN s + 1) cap) ∧ cntN s + 1 ≤ cap ∧ Below w.heap.size w w' := by
  go_enter Try.func8, Try.ntmps8
  go_wp2
  go_loopw [5, 6, 7] (fun v f i wr => ∃ k from' : Nat, k ≤ s.size ∧ from' ≤ k ∧ f = .int .i64 from' ∧ i = .int .i64 k ∧ OwnsS wr w.heap.size v (cntTo s k) ∧ Below w.heap.size w wr) (fun _ _ i _ => s.size - (intOf i).toNat)
  case atStart => exact ⟨0, 0, Nat.zero_le _, Nat.le_refl _, rfl, rfl, ⟨[], World.ownsRow_nil _ _ _ _⟩, Below.refl _ _⟩
  case round =>
    obtain ⟨k, from', hk, hf, rfl, rfl, ho, hb⟩ := hrel
    have hsz := hb.size
    have hcl := cntTo_le s k
    by_cases hlt : k < s.size
    · have HS := Lib.hid (cntTo_succ s k hlt)
      cases hq : ((s[k].toNat : Int) == 10)
      · have HE : Hid (cntTo s (k + 1) = cntTo s k) := by show _ = _; rw [HS.out, hq]; rfl
        clear HS
        go_wp2
        go_roundw
        case rel => exact ⟨k + 1, from', by omega, by omega, rfl, by go_num, by rw [HE.out]; exact ho, hb⟩
        case measure => simp [intOf]; omega
      · have HE : Hid (cntTo s (k + 1) = cntTo s k + 1) := by show _ = _; rw [HS.out, hq]; rfl
        clear HS
        go_wp2_with (at_builtin; refine wpList_app_str rfl _ _ rfl w.heap.size _ _ rfl ho rfl (by omega) hsz ?_; intro v' w1 ho1 hb1)
        have hb2 := hb.trans hb1
        go_wp2
        go_roundw
        case rel => exact ⟨k + 1, k + 1, by omega, by omega, by go_num, by go_num, by rw [HE.out]; exact ho1, hb2⟩
        case measure => simp [intOf]; omega
    · obtain rfl : k = s.size := by omega
      rw [cntTo_all] at ho hcl
      go_wp2_with (at_builtin; refine wpList_app_str rfl _ _ rfl w.heap.size _ _ rfl ho rfl (by omega) hsz ?_; intro v' w1 ho1 hb1)
      have hb2 := hb.trans hb1
      obtain ⟨a, cap, rfl, hc⟩ := ho1.form
      go_wp2
      go_ret
      exact ⟨a, cap, rfl, hc, hb2⟩
def LinesPost (w : World) (b : Bool) (e : Ending) (w' : World) : Prop := ∃ v, e = .returned (.tuple #[v, .bool b]) ∧ Below w.heap.size w w'
set_option maxHeartbeats 1000000 in
theorem c_csLines (s : ByteArray) (w : World) (hs : s.size ≤ 100000000) :
    Calls Try.prog 6 #[.string s] w (LinesPost w (scB s)) := by
  have hl : s.toList.length = s.size := by rw [ByteArray.toList_eq]; exact Array.length_toList
  by_cases h2 : s.size ≤ 2000
  rotate_left
  · have HB : Hid (scB s = false) := by show _ = _; unfold scB; simp; intro h9; omega
    clear hl
    rw [HB.out]
    go_enter Try.func6, Try.ntmps6
    go_wp2_with fail
    go_ret2
    exact ⟨_, rfl, Below.refl _ _⟩
  have hc := cntN_le s
  have HC := Lib.hid (c_l1Split s w h2)
  have good : (s.toList.isEmpty || sufB s) = true → scB s = decide ((cntN s : Int) ≤ 40) := by
    intro h9; unfold scB; rw [h9]
    have : (s.size : Int) ≤ 2000 := by omega
    simp [this]
  have HG := Lib.hid good
  clear good
  cases h0 : s.toList.isEmpty
  · have hp : 0 < s.size := by
      rcases Nat.eq_zero_or_pos s.size with h | h
      · rw [h] at hl
        have := List.length_eq_zero_iff.1 hl
        rw [this] at h0; simp at h0
      · exact h
    have hbb : s.size - 1 < s.size := by omega
    have hlast := sufB_last s hbb
    have h00 : ¬ s.toList = [] := by intro h9; rw [h9] at h0; simp at h0
    cases h1 : ((s[s.size - 1].toNat : Int) == 10)
    · have HB : Hid (scB s = false) := by
        show _ = _
        have : sufB s = false := by
          rw [hlast, Bool.eq_false_iff]
          intro h9
          have h8 : s[s.size - 1] = 10 := by simpa using h9
          rw [h8] at h1
          simp at h1
        unfold scB; rw [this, h0]; simp
      clear hl hlast
      rw [HB.out]
      have h1' : ((s[s.size - 1].toNat : Int) != 10) = true := by simp [bne, h1]
      go_enter Try.func6, Try.ntmps6
      go_wp2_with fail
      go_ret2
      exact ⟨_, rfl, Below.refl _ _⟩
    · have hs1 : sufB s = true := by
        rw [hlast]
        have h9 : ((s[s.size - 1].toNat : Int)) = 10 := by simpa using h1
        have h8 : s[s.size - 1].toNat = (10 : UInt8).toNat := by show s[s.size - 1].toNat = 10; omega
        have h7 := UInt8.toNat_inj.1 h8
        rw [h7]; rfl
      have HB : Hid (scB s = decide ((cntN s : Int) ≤ 40)) := HG.out (by rw [hs1]; simp)
      clear hl hlast hs1 HG
      have h1' : ((s[s.size - 1].toNat : Int) != 10) = false := by simp [bne, h1]
      rw [HB.out]
      by_cases h40 : cntN s ≤ 40
      · rw [show decide ((cntN s : Int) ≤ 40) = true from decide_eq_true (by omega)]
        go_enter Try.func6, Try.ntmps6
        go_wp2_with fail
        refine HC.out.mono ?_
        rintro e w1 ⟨a, cap, rfl, hcap, hb1⟩
        go_wp2
        go_ret2
        exact ⟨_, rfl, hb1⟩
      · rw [show decide ((cntN s : Int) ≤ 40) = false from decide_eq_false (by omega)]
        go_enter Try.func6, Try.ntmps6
        go_wp2_with fail
        refine HC.out.mono ?_
        rintro e w1 ⟨a, cap, rfl, hcap, hb1⟩
        go_wp2
        go_ret2
        exact ⟨_, rfl, hb1⟩
  · have HB : Hid (scB s = decide ((cntN s : Int) ≤ 40)) := HG.out (by rw [h0]; rfl)
    have h00 : s.toList = [] := by simpa using h0
    clear hl HG
    rw [HB.out]
    by_cases h40 : cntN s ≤ 40
    · rw [show decide ((cntN s : Int) ≤ 40) = true from decide_eq_true (by omega)]
      go_enter Try.func6, Try.ntmps6
      go_wp2_with fail
      refine HC.out.mono ?_
      rintro e w1 ⟨a, cap, rfl, hcap, hb1⟩
      go_wp2
      go_ret2
      exact ⟨_, rfl, hb1⟩
    · rw [show decide ((cntN s : Int) ≤ 40) = false from decide_eq_false (by omega)]
      go_enter Try.func6, Try.ntmps6
      go_wp2_with fail
      refine HC.out.mono ?_
      rintro e w1 ⟨a, cap, rfl, hcap, hb1⟩
      go_wp2
      go_ret2
      exact ⟨_, rfl, hb1⟩
set_option maxHeartbeats 1000000 in
theorem c_iJoinScripts (a b : ByteArray) (w : World) (ha : a.size ≤ 2000000) (hb : b.size ≤ 2000000) :
    Calls Try.prog 5 #[.string a, .string b] w fun e w' => e = .returned (.tuple #[.string (if (scB a && scB b && scB (a ++ b)) then a ++ b else ⟨#[]⟩), .bool (scB a && scB b && scB (a ++ b))]) ∧ w = w' := by
  have hab : (a ++ b).size = a.size + b.size := ByteArray.size_append
  have HA := fun w => run_string_add_sum (P := Try.prog) w a b (by omega)
  cases h1 : scB a
  · go_enter Try.func5, Try.ntmps5
    go_wp2_with ((go_at_call 7; refine (c_isScript _ _ (by omega)).mono ?_; rintro e w' ⟨rfl, rfl⟩))
    go_ret2
    exact ⟨rfl, rfl⟩
  · cases h2 : scB b
    · go_enter Try.func5, Try.ntmps5
      go_wp2_with ((go_at_call 7; refine (c_isScript _ _ (by omega)).mono ?_; rintro e w' ⟨rfl, rfl⟩))
      go_ret2
      exact ⟨rfl, rfl⟩
    · cases h3 : scB (a ++ b)
      all_goals
        go_enter Try.func5, Try.ntmps5
        go_wp2_with ((go_at_call 7; refine (c_isScript _ _ (by omega)).mono ?_; rintro e w' ⟨rfl, rfl⟩))
        go_ret2
        exact ⟨rfl, rfl⟩
set_option maxHeartbeats 1000000 in
theorem c_sJoinScripts (a b : ByteArray) (w : World) (ha : a.size ≤ 2000000) (hb : b.size ≤ 2000000) :
    Calls Try.prog 4 #[.string a, .string b] w fun e w' => e = .returned (.tuple #[.string (if (scB a && scB b && scB (a ++ b)) then a ++ b else ⟨#[]⟩), .bool (scB a && scB b && scB (a ++ b))]) ∧ Below w.heap.size w w' := by
  have hab : (a ++ b).size = a.size + b.size := ByteArray.size_append
  have HA := fun w => run_string_add_sum (P := Try.prog) w a b (by omega)
  have H1 := Lib.hid (fun w => c_csLines a w (by omega))
  have H2 := Lib.hid (fun w => c_csLines b w (by omega))
  have H3 := Lib.hid (fun w => c_csLines (a ++ b) w (by omega))
  generalize scB a = x at H1 ⊢
  generalize scB b = y at H2 ⊢
  generalize scB (a ++ b) = z at H3 ⊢
  cases x <;> cases y <;> cases z
  all_goals
    go_enter Try.func4, Try.ntmps4
    go_wp2_with fail
    refine (H1.out _).mono ?_
    rintro e w1 ⟨v1, rfl, hb1⟩
    have hz1 := hb1.size
    go_wp2_with fail
    refine (H2.out _).mono ?_
    rintro e w2 ⟨v2, rfl, hb2⟩
    have hz2 := hb2.size
    go_wp2_with fail
    refine (H3.out _).mono ?_
    rintro e w3 ⟨v3, rfl, hb3⟩
    go_wp2_with fail
    go_ret2
    exact ⟨rfl, hb1.trans ((hb2.mono hz1).trans (hb3.mono (Nat.le_trans hz1 hz2)))⟩
set_option maxHeartbeats 1000000 in
theorem walk_FnExactJoinScripts (a b : ByteArray) (ha : a.size ≤ maxLen) (hb : b.size ≤ maxLen) (w : World) :
    Calls Try.prog 3 #[.string a, .string b] w fun e w' => e = .returned (.bool true) ∧ Below w.heap.size w w' := by
  unfold maxLen at ha hb
  by_cases h1 : a.size ≤ 1048576
  rotate_left
  · go_enter Try.func3, Try.ntmps3
    go_wp2_with fail
    go_ret
    exact ⟨rfl, Below.refl _ _⟩
  by_cases h2 : b.size ≤ 1048576
  rotate_left
  · go_enter Try.func3, Try.ntmps3
    go_wp2_with fail
    go_ret
    exact ⟨rfl, Below.refl _ _⟩
  have hs := fun w => c_sJoinScripts a b w (by omega) (by omega)
  have hi := fun w => c_iJoinScripts a b w (by omega) (by omega)
  generalize (if (scB a && scB b && scB (a ++ b)) = true then a ++ b else ⟨#[]⟩) = r at hs hi
  generalize (scB a && scB b && scB (a ++ b)) = ok at hs hi
  have HS := Lib.hid hs
  have HI := Lib.hid hi
  clear hs hi
  cases ok
  all_goals
    go_enter Try.func3, Try.ntmps3
    go_wp2_with fail
    refine (HS.out _).mono ?_
    rintro e w1 ⟨rfl, hb1⟩
    go_wp2_with fail
    refine (HI.out _).mono ?_
    rintro e w' ⟨rfl, rfl⟩
    go_wp2
    go_ret
    exact ⟨rfl, hb1⟩
end Go.Proofs.Ytmnhdpcpopgjoaa
