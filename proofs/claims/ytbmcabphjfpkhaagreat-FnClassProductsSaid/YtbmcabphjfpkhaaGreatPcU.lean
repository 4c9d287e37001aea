/- Walks: a number put in its place in an increasing list (l1Put). -/
import Derived.Test.YtbmcabphjfpkhaaGreatOwn
import Derived.Test.YtbmcabphjfpkhaaGreatList
import Derived.Test.YtbmcabphjfpkhaaGreatPairI
import Derived.Test.YtbmcabphjfpkhaaGreatChain
import Derived.Deep.Upon
import Derived.Deep.Cut
namespace Go.Proofs.YtbmcabphjfpkhaaGreat
set_option linter.all false
open Go.RowKit

theorem mem_toList {v : Value} {k : Nat} (hm : k ∈ v.ownBlock.toList) : v.ownBlock = some k := by
  cases hv : v.ownBlock with
  | none => rw [hv] at hm; simp at hm
  | some g => rw [hv] at hm; simp at hm; rw [hm]
/-- a row of numbers that is there to be read -/
def RdJ (w : World) (x : Value) (M : List Int) : Prop := (M = [] ∧ x = .slice none 0 0) ∨ ∃ g off c, x = .slice (some ⟨g, off, none⟩) M.length c ∧ (M ≠ [] → g < w.heap.size) ∧ ∀ j u, (M.map (Value.int .i64))[j]? = some u → w.cell? ⟨g, off + j, none⟩ = some u
theorem RdJ.below {w w1 : World} {x : Value} {M : List Int} (h : RdJ w x M) (hb : Below w.heap.size w w1) : RdJ w1 x M := by
  rcases h with h | ⟨g, off, c, h1, h2, h3⟩
  · exact .inl h
  · refine .inr ⟨g, off, c, h1, fun hm => Nat.lt_of_lt_of_le (h2 hm) hb.size, fun j u hu => ?_⟩
    have hm : M ≠ [] := fun hm => by rw [hm] at hu; simp at hu
    rw [hb.cell (p := ⟨g, off + j, none⟩) (h2 hm)]
    exact h3 j u hu
theorem OwnsI.rdj {w : World} {base : Nat} {v : Value} {L : List Int} (h : OwnsI w base v L) : RdJ w v L := by
  rcases h.2 with ⟨hv, hn⟩ | ⟨g, cap, cur, hv, hg, hh, hnc, hcm, hcs, ht⟩
  · exact .inl ⟨List.length_eq_zero_iff.1 hn, hv⟩
  · refine .inr ⟨g, 0, cap, hv, fun _ => (Array.getElem?_eq_some_iff.1 hh).1, fun j u hu => ?_⟩
    have hlt : j < L.length := by simpa using (List.getElem?_eq_some_iff.1 hu).1
    have h4 : (cur.toList.take (L.length * 1))[j]? = cur.toList[j]? := List.getElem?_take_of_lt (by omega)
    rw [ht, hu, Array.getElem?_toList] at h4
    rw [Nat.zero_add]
    show (match w.heap[g]? with | some (.cells cs _ _) => _ | _ => _) = _
    rw [hh]; exact h4.symm
theorem OwnsI.empty (w : World) : OwnsI (w.alloc (.cells #[] 3)) w.heap.size (.slice (some ⟨w.heap.size, 0, none⟩) 0 0) [] :=
  ⟨rfl, .inr ⟨w.heap.size, 0, #[], rfl, Nat.le_refl _, Blk.new w _ _, Nat.le_refl _, by unfold maxLen; omega, rfl, rfl⟩⟩
theorem run_appJ (w : World) (base : Nat) (ty : TypeId) (v x : Value) (L M : List Int) (hown : OwnsI w base v L) (hx : RdJ w x M) (hn : L.length + M.length ≤ 1000) (hbase : base ≤ w.heap.size) :
    ∃ v' w', (Builtin.append_ #[29, 29] ty #[v, x]).run Tryz.prog w = .ok v' w' ∧ OwnsI w' base v' (L ++ M) ∧ Over v.ownBlock.toList w w' := by
  obtain ⟨i0, hi, hz0, hz1, hz2⟩ := info_parts Tryz.infoI
  rcases hx with ⟨rfl, rfl⟩ | ⟨g, off, c, rfl, _, hc⟩
  · obtain ⟨a, cap, hv, hcap, _⟩ := own_form hown
    subst hv
    refine ⟨_, w, run_append_nothing w 29 29 ty 3 i0 Tryz.underlying29 hi a _ cap hcap _ ?_, by simpa using hown, .refl _ _⟩
    exact Src.ofNil w Tryz.underlying29 0
  · obtain ⟨v', w', h1, h2, h3, _, h5⟩ := run_append_own_at (P := Tryz.prog) w base 29 ty 3 i0 (.int .i64 0) 1 8 Tryz.underlying29 hi hz0 hz1 hz2 rfl (by decide) v L.length (L.map (Value.int .i64)) hown ⟨g, off, none⟩ M.length c (M.map (Value.int .i64)) (by simp) (fun j u hj => by
      rw [show (⟨g, off, none⟩ : Addr).add j = ⟨g, off + j, none⟩ by cases j <;> simp [Addr.add]]
      exact hc j u hj) (by intro u hu; simp at hu; obtain ⟨y, _, rfl⟩ := hu; rfl) (by unfold maxLen; omega) (by omega) hbase
    refine ⟨v', w', h1, ?_, h3.os, h3.tape, h3.output, h3.size, fun k hk hn => h3.block k hk (fun h => hn (by rw [← h]; simp))⟩
    unfold OwnsI
    rw [List.length_append, List.map_append]
    exact h2
theorem runJ {a : Act} {o : Oper} {s x : Operand} {w : World} {base : Nat} {v y : Value} {L M : List Int} (ho : o.op = .call { callee := .builtin .append, args := #[s, x], argTypes := #[29, 29] }) (hs : a.eval s = v) (hx : a.eval x = y) (hown : OwnsI w base v L) (hr : RdJ w y M) (hn : L.length + M.length ≤ 1000) (hbase : base ≤ w.heap.size) :
    ∃ v' w', (execOp a.eval o).run Tryz.prog w = .ok (.value v') w' ∧ OwnsI w' base v' (L ++ M) ∧ Over v.ownBlock.toList w w' := by
  obtain ⟨v', w', h1, h2, h3⟩ := run_appJ w base o.type v y L M hown hr hn hbase
  refine ⟨v', w', ?_, h2, h3⟩
  unfold execOp
  simp only [ho, resolve, invoke, builtin, Sem.run_bind, Sem.run_pure, Result.andThen_ok, List.map_toArray, List.map_cons, List.map_nil, hs, hx, h1]
theorem wpList_appJ {ops : Array Oper} {rest : List Oper} {o : Oper} {a : Act} {Q : Exit → Act → World → Prop} {w : World} (hgd : o.guard = none) (s x : Operand)
    (ho : o.op = .call { callee := .builtin .append, args := #[s, x], argTypes := #[29, 29] })
    (base : Nat) (v y : Value) (L M : List Int) (hs : a.eval s = v) (hx : a.eval x = y) (hown : OwnsI w base v L) (hr : RdJ w y M) (hn : L.length + M.length ≤ 1000) (hbase : base ≤ w.heap.size)
    (h : ∀ v' w', OwnsI w' base v' (L ++ M) → Over v.ownBlock.toList w w' → wpList Tryz.prog ops Q rest (a.put o.dst v') w') : wpList Tryz.prog ops Q (o :: rest) a w := by
  obtain ⟨v', w', he, h2, h3⟩ := runJ ho hs hx hown hr hn hbase
  refine wpList_plain hgd fun K hK => ?_
  unfold Oper.wp
  rw [he]
  simp only [Oper.upon]
  exact hK _ _ (h v' w' h2 h3)
/-- a number put in its place -/
def putV : List Int → Int → List Int
  | [], n => [n]
  | x :: l, n => if x < n then x :: putV l n else if x = n then x :: l else n :: x :: l
theorem putV_at : ∀ (L : List Int) (n : Int) (k : Nat), k ≤ L.length → (∀ i (h : i < L.length), i < k → L[i] < n) → (∀ h : k < L.length, ¬ L[k] < n) → putV L n = if L[k]? = some n then L else L.take k ++ n :: L.drop k
  | [], n, k, hk, _, _ => by
    obtain rfl : k = 0 := by simpa using hk
    rfl
  | x :: l, n, 0, _, _, h2 => by
    have hx := h2 (by simp)
    simp only [List.getElem_cons_zero] at hx
    unfold putV
    rw [if_neg hx]
    by_cases he : x = n
    · rw [if_pos he, if_pos (by simp [he])]
    · rw [if_neg he, if_neg (by simpa using he)]
      rfl
  | x :: l, n, k + 1, hk, h1, h2 => by
    have hx := h1 0 (by simp) (by omega)
    simp only [List.getElem_cons_zero] at hx
    unfold putV
    rw [if_pos hx, putV_at l n k (by simpa using hk) (fun i h hi => by have := h1 (i + 1) (by simpa using h) (by omega); simpa using this) (fun h => by have := h2 (by simpa using h); simpa using this)]
    simp only [List.getElem?_cons_succ, List.take_succ_cons, List.drop_succ_cons, List.cons_append]
    split <;> rfl
theorem putV_mem (L : List Int) (n x : Int) : x ∈ putV L n ↔ x ∈ L ∨ x = n := by
  induction L with
  | nil => simp [putV]
  | cons y l ih =>
    unfold putV
    split
    · simp only [List.mem_cons, ih]
      constructor
      · rintro (h | h | h)
        · exact .inl (.inl h)
        · exact .inl (.inr h)
        · exact .inr h
      · rintro ((h | h) | h)
        · exact .inl h
        · exact .inr (.inl h)
        · exact .inr (.inr h)
    · split
      · rename_i h
        subst h
        simp only [List.mem_cons]
        constructor
        · exact .inl
        · rintro (h | h)
          · exact h
          · exact .inl h
      · simp only [List.mem_cons]
        constructor
        · rintro (h | h | h)
          · exact .inr h
          · exact .inl (.inl h)
          · exact .inl (.inr h)
        · rintro ((h | h) | h)
          · exact .inr (.inl h)
          · exact .inr (.inr h)
          · exact .inl h
theorem putV_sorted {L : List Int} (h : L.Pairwise (· < ·)) (n : Int) : (putV L n).Pairwise (· < ·) := by
  induction L with
  | nil => simp [putV]
  | cons y l ih =>
    rw [List.pairwise_cons] at h
    unfold putV
    split
    · rename_i hy
      rw [List.pairwise_cons]
      refine ⟨fun a ha => ?_, ih h.2⟩
      rcases (putV_mem l n a).1 ha with ha | ha
      · exact h.1 a ha
      · omega
    · split
      · rw [List.pairwise_cons]; exact h
      · rename_i h1 h2
        rw [List.pairwise_cons, List.pairwise_cons]
        refine ⟨fun a ha => ?_, h⟩
        rcases List.mem_cons.1 ha with rfl | ha
        · omega
        · have := h.1 a ha; omega
theorem RdJ.pre {w : World} {g n cap : Nat} {L : List Int} (h : RdJ w (.slice (some ⟨g, 0, none⟩) n cap) L) {k c : Nat} (hk : k ≤ L.length) : RdJ w (.slice (some ⟨g, 0, none⟩) k c) (L.take k) := by
  rcases h with ⟨_, h0⟩ | ⟨g', off, c', h1, h2, h3⟩
  · cases h0
  · injection h1 with e1 e2 e3
    injection e1 with e1
    injection e1 with e1 e4
    subst e1 e4
    refine .inr ⟨g, 0, c, by rw [List.length_take, Nat.min_eq_left hk], fun hm => h2 (fun h => hm (by rw [h]; simp)), fun j u hu => h3 j u ?_⟩
    rw [List.map_take, List.getElem?_take] at hu
    split at hu
    · exact hu
    · cases hu
theorem RdJ.post {w : World} {g n cap : Nat} {L : List Int} (h : RdJ w (.slice (some ⟨g, 0, none⟩) n cap) L) {k o c m : Nat} (hm : m = L.length - k) (ho : m ≠ 0 → o = k) : RdJ w (.slice (some ⟨g, o, none⟩) m c) (L.drop k) := by
  rcases h with ⟨_, h0⟩ | ⟨g', off, c', h1, h2, h3⟩
  · cases h0
  · injection h1 with e1 e2 e3
    injection e1 with e1
    injection e1 with e1 e4
    subst e1 e4
    refine .inr ⟨g, o, c, by rw [List.length_drop, hm], fun hm => h2 (fun h => hm (by rw [h]; simp)), fun j u hu => ?_⟩
    rw [List.map_drop, List.getElem?_drop] at hu
    have hj : k + j < L.length := by simpa using (List.getElem?_eq_some_iff.1 hu).1
    rw [ho (by omega)]
    have := h3 (k + j) u hu
    rwa [Nat.zero_add] at this
theorem RdJ.postIf {w : World} {g n cap : Nat} {L : List Int} (h : RdJ w (.slice (some ⟨g, 0, none⟩) n cap) L) {k c : Nat} (hk : k ≤ L.length) (hc : L.length ≤ cap) : RdJ w (.slice (if cap = k then some ⟨g, 0, none⟩ else some ⟨g, k, none⟩) (L.length - k) c) (L.drop k) := by
  split
  · exact RdJ.post h rfl (fun h => by omega)
  · exact RdJ.post h rfl (fun _ => rfl)
set_option maxHeartbeats 2000000 in
set_option maxRecDepth 20000 in
theorem c_l1Put (b : Nat) (v : Value) (L : List Int) (n : Int) (hL : L.length ≤ 400) (w : World) (hb : b ≤ w.heap.size) (ho : OwnsI w b v L) :
    Calls Tryz.prog 64 #[v, .int .i64 n] w fun e w' => ∃ v', e = .returned v' ∧ OwnsI w' b v' (putV L n) ∧ Below w.heap.size w w' := by
  rcases ho.2 with ⟨rfl, hn⟩ | ⟨g, cap, cur, rfl, hg, hh, hnc, hcm, hcs, htk⟩
  · have hL0 := List.length_eq_zero_iff.1 hn
    subst hL0
    have HP : Hid (putV [] n = ([] : List Int).take 0 ++ n :: ([] : List Int).drop 0) := Lib.hid rfl
    have H1 := Lib.hid (fun (W : World) (_ : Below w.heap.size w W) => (show RdJ W (.slice none 0 0) (([] : List Int).take 0) from .inl ⟨rfl, rfl⟩))
    have H2 := Lib.hid (fun (W : World) (_ : Below w.heap.size w W) => (show RdJ W (.slice none 0 0) (([] : List Int).drop 0) from .inl ⟨rfl, rfl⟩))
    clear ho hn
    go_enter Tryz.func64, Tryz.ntmps64
    go_wp2
    go_loopw [5] (fun kv wr => kv = .int .i64 0 ∧ wr = w) (fun _ _ => 0)
    case atStart => exact ⟨rfl, rfl⟩
    case round =>
      obtain ⟨rfl, rfl⟩ := hrel
      rename World => w
      have hbe : Below w.heap.size w (w.alloc (.cells #[] 3)) := (Below.refl _ _).alloc (Nat.le_refl _) _
      have hown0 := OwnsI.empty w
      have hz0 := hbe.size
      go_upto_region 7 with (fail)
      generalize w.alloc _ = w1 at *
      generalize Value.slice (some ⟨w.heap.size, 0, none⟩) 0 0 = v1 at *
      go_upto_region 8 with (at_builtin; refine wpList_app_int (y := n) rfl _ _ rfl w.heap.size _ [] rfl hown0 rfl (by simp) hz0 ?_; intro v2 w2 ho2 hb2 hg2; have hB2 : Below w.heap.size w w2 := hbe.trans hb2)
      have hz2 := hB2.size
      go_wp2_with (at_builtin; refine wpList_appJ rfl _ _ rfl w.heap.size _ _ ([] ++ [n]) [] rfl rfl ho2 (.inl ⟨rfl, rfl⟩) (by simp) hz2 ?_; intro v3 w3 ho3 hO3; have hB3 : Below w.heap.size w w3 := hO3.belowGe hB2 hB2.size (by intro j hj; exact (own_lt ho2 j (mem_toList hj)).1))
      go_wp2
      go_ret
      exact ⟨v3, rfl, ho3.le hb, hB3⟩
  · obtain ⟨a', cap', hv', hf⟩ := ho.form
    have HC : Hid (∀ i (h : i < L.length), w.cell? ⟨g, i, none⟩ = some (.int .i64 L[i])) := Lib.hid fun i h => by
      obtain ⟨g', e1, e2, _⟩ := hf i h
      injection hv' with hv1
      rw [← hv1] at e1
      injection e1 with e1
      injection e1 with e1
      subst e1
      rw [e2, List.getElem?_eq_getElem h]
      rfl
    have hgl : g < w.heap.size := (Array.getElem?_eq_some_iff.1 hh).1
    have hJ := ho.rdj
    clear hf hv' hh hcs htk hcm
    go_enter Tryz.func64, Tryz.ntmps64
    go_wp2
    go_loopw [5] (fun kv wr => ∃ k : Nat, kv = .int .i64 k ∧ k ≤ L.length ∧ (∀ i (h : i < L.length), i < k → L[i] < n) ∧ wr = w) (fun kv _ => L.length - (intOf kv).toNat)
    case atStart => exact ⟨0, rfl, Nat.zero_le _, fun i _ h => by omega, rfl⟩
    case round =>
      obtain ⟨k, rfl, hkl, hlt, rfl⟩ := hrel
      rename World => w
      by_cases hk : k < L.length
      · have q0 := HC.out k hk
        by_cases hx : L[k] < n
        · have hnx : ∀ i (h : i < L.length), i < k + 1 → L[i] < n := fun i h hi => by
            rcases Nat.lt_or_ge i k with h9 | h9
            · exact hlt i h h9
            · obtain rfl : i = k := by omega
              exact hx
          have HNX := Lib.hid hnx
          clear hnx hlt
          generalize L[k] = x at *
          have hki : (k : Int) < (L.length : Int) := by omega
          go_wp2
          go_roundw
          case rel => exact ⟨k + 1, by go_num, by omega, HNX.out, trivial⟩
          case measure => simp [intOf]; omega
        · have hput := putV_at L n k hkl hlt (fun _ => hx)
          rw [List.getElem?_eq_getElem hk] at hput
          have hki : (k : Int) < (L.length : Int) := by omega
          by_cases he : L[k] = n
          · rw [he, if_pos rfl] at hput
            have HP := Lib.hid hput
            clear hput hlt
            rw [he] at q0
            generalize L[k] = x at *
            go_wp2
            go_ret
            exact ⟨_, rfl, by rw [HP.out]; exact ho, Below.refl _ _⟩
          · rw [if_neg (by simpa using he)] at hput
            have HP := Lib.hid hput
            clear hput hlt
            generalize L[k] = x at *
            have hxn : (x == n) = false := by rw [beq_eq_false_iff_ne]; exact he
            have H1 := Lib.hid (fun (W : World) (hW : Below w.heap.size w W) => hJ.below hW |>.pre (k := k) (c := cap) hkl)
            have H2 := Lib.hid (fun (W : World) (hW : Below w.heap.size w W) => hJ.below hW |>.post (k := k) (o := k) (c := cap - k) rfl (fun _ => rfl))
            have hkL : k ≤ 400 := by omega
            have hbe : Below w.heap.size w (w.alloc (.cells #[] 3)) := (Below.refl _ _).alloc (Nat.le_refl _) _
            have hown0 := OwnsI.empty w
            go_upto_region 6 with (fail)
            go_upto_region 7 with (at_builtin; refine wpList_appJ rfl _ _ rfl w.heap.size _ _ [] ((L).take (k)) rfl rfl hown0 ((H1.out _ hbe)) (by simp; omega) (by simp) ?_; intro v1 w1 ho1 hO1; have hB1 : Below w.heap.size w w1 := hO1.belowGe hbe hbe.size (by intro j hj; have := (own_lt hown0 j (mem_toList hj)).1; omega); rw [List.nil_append] at ho1)
            have hz1 := hB1.size
            have hl1 : ((L).take (k)).length < 1000000000000 := by rw [List.length_take]; omega
            go_upto_region 8 with (at_builtin; refine wpList_app_int (y := n) rfl _ _ rfl w.heap.size _ ((L).take (k)) rfl ho1 rfl hl1 hz1 ?_; intro v2 w2 ho2 hb2 hg2; have hB2 : Below w.heap.size w w2 := hB1.trans hb2)
            have hz2 := hB2.size
            go_wp2_with (at_builtin; refine wpList_appJ rfl _ _ rfl w.heap.size _ _ ((L).take (k) ++ [n]) ((L).drop (k)) rfl rfl ho2 ((H2.out _ hB2)) (by simp; omega) hz2 ?_; intro v3 w3 ho3 hO3; have hB3 : Below w.heap.size w w3 := hO3.belowGe hB2 hB2.size (by intro j hj; exact (own_lt ho2 j (mem_toList hj)).1))
            go_wp2
            go_ret
            refine ⟨v3, rfl, ?_, hB3⟩
            rw [HP.out]
            have := ho3.le hb
            rwa [List.append_assoc] at this
      · obtain rfl : k = L.length := by omega
        have hput := putV_at L n L.length hkl hlt (fun h => by omega)
        rw [List.getElem?_eq_none (Nat.le_refl _), if_neg (by simp)] at hput
        have HP := Lib.hid hput
        have H1 := Lib.hid (fun (W : World) (hW : Below w.heap.size w W) => hJ.below hW |>.pre (k := L.length) (c := cap) hkl)
        have hkL : L.length ≤ 400 := by omega
        clear hput hlt
        by_cases hcap : cap = L.length
        · have H2 := Lib.hid (fun (W : World) (hW : Below w.heap.size w W) => hJ.below hW |>.post (k := L.length) (o := 0) (m := 0) (c := 0) (by omega) (fun h => absurd rfl h))
          subst hcap
          have hbe : Below w.heap.size w (w.alloc (.cells #[] 3)) := (Below.refl _ _).alloc (Nat.le_refl _) _
          have hown0 := OwnsI.empty w
          go_upto_region 6 with (fail)
          go_upto_region 7 with (at_builtin; refine wpList_appJ rfl _ _ rfl w.heap.size _ _ [] ((L).take (L.length)) rfl rfl hown0 ((H1.out _ hbe)) (by simp; omega) (by simp) ?_; intro v1 w1 ho1 hO1; have hB1 : Below w.heap.size w w1 := hO1.belowGe hbe hbe.size (by intro j hj; have := (own_lt hown0 j (mem_toList hj)).1; omega); rw [List.nil_append] at ho1)
          have hz1 := hB1.size
          have hl1 : ((L).take (L.length)).length < 1000000000000 := by rw [List.length_take]; omega
          go_upto_region 8 with (at_builtin; refine wpList_app_int (y := n) rfl _ _ rfl w.heap.size _ ((L).take (L.length)) rfl ho1 rfl hl1 hz1 ?_; intro v2 w2 ho2 hb2 hg2; have hB2 : Below w.heap.size w w2 := hB1.trans hb2)
          have hz2 := hB2.size
          go_wp2_with (at_builtin; refine wpList_appJ rfl _ _ rfl w.heap.size _ _ ((L).take (L.length) ++ [n]) ((L).drop (L.length)) rfl rfl ho2 ((H2.out _ hB2)) (by simp; omega) hz2 ?_; intro v3 w3 ho3 hO3; have hB3 : Below w.heap.size w w3 := hO3.belowGe hB2 hB2.size (by intro j hj; exact (own_lt ho2 j (mem_toList hj)).1))
          go_wp2
          go_ret
          refine ⟨v3, rfl, ?_, hB3⟩
          rw [HP.out]
          have := ho3.le hb
          rwa [List.append_assoc] at this
        · have H2 := Lib.hid (fun (W : World) (hW : Below w.heap.size w W) => hJ.below hW |>.post (k := L.length) (o := L.length) (m := 0) (c := cap - L.length) (by omega) (fun h => absurd rfl h))
          have hbe : Below w.heap.size w (w.alloc (.cells #[] 3)) := (Below.refl _ _).alloc (Nat.le_refl _) _
          have hown0 := OwnsI.empty w
          go_upto_region 6 with (fail)
          go_upto_region 7 with (at_builtin; refine wpList_appJ rfl _ _ rfl w.heap.size _ _ [] ((L).take (L.length)) rfl rfl hown0 ((H1.out _ hbe)) (by simp; omega) (by simp) ?_; intro v1 w1 ho1 hO1; have hB1 : Below w.heap.size w w1 := hO1.belowGe hbe hbe.size (by intro j hj; have := (own_lt hown0 j (mem_toList hj)).1; omega); rw [List.nil_append] at ho1)
          have hz1 := hB1.size
          have hl1 : ((L).take (L.length)).length < 1000000000000 := by rw [List.length_take]; omega
          go_upto_region 8 with (at_builtin; refine wpList_app_int (y := n) rfl _ _ rfl w.heap.size _ ((L).take (L.length)) rfl ho1 rfl hl1 hz1 ?_; intro v2 w2 ho2 hb2 hg2; have hB2 : Below w.heap.size w w2 := hB1.trans hb2)
          have hz2 := hB2.size
          go_wp2_with (at_builtin; refine wpList_appJ rfl _ _ rfl w.heap.size _ _ ((L).take (L.length) ++ [n]) ((L).drop (L.length)) rfl rfl ho2 ((H2.out _ hB2)) (by simp; omega) hz2 ?_; intro v3 w3 ho3 hO3; have hB3 : Below w.heap.size w w3 := hO3.belowGe hB2 hB2.size (by intro j hj; exact (own_lt ho2 j (mem_toList hj)).1))
          go_wp2
          go_ret
          refine ⟨v3, rfl, ?_, hB3⟩
          rw [HP.out]
          have := ho3.le hb
          rwa [List.append_assoc] at this
/-- a number that is not there, put in its place: one number more -/
theorem putV_perm : ∀ (L : List Int) (n : Int), n ∉ L → (putV L n).Perm (n :: L)
  | [], n, _ => .refl _
  | x :: l, n, h => by
    unfold putV
    have hx : x ≠ n := fun e => h (by simp [e])
    split
    · exact ((putV_perm l n (fun hm => h (by simp [hm]))).cons x).trans (List.Perm.swap _ _ _)
    · exact .refl _
end Go.Proofs.YtbmcabphjfpkhaaGreat
