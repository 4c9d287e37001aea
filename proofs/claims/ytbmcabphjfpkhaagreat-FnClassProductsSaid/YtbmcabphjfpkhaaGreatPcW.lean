/- Walks: the squarefree divisors of a number by the reference (tcDivisors); lists that are read while another one grows. -/
import Derived.Test.YtbmcabphjfpkhaaGreatPcU
import Derived.Test.YtbmcabphjfpkhaaGreatPcV
import Derived.Test.YtbmcabphjfpkhaaGreatFac
import Derived.Maps.AppendAt
namespace Go.Proofs.YtbmcabphjfpkhaaGreat
set_option linter.all false
open Go.RowKit

theorem OwnsI.one (w : World) (x : Int) : OwnsI (w.alloc (.cells #[.int .i64 x] 3)) w.heap.size (.slice (some ⟨w.heap.size, 0, none⟩) 1 1) [x] :=
  ⟨rfl, .inr ⟨w.heap.size, 1, #[.int .i64 x], rfl, Nat.le_refl _, Blk.new w _ _, Nat.le_refl _, by unfold maxLen; omega, rfl, rfl⟩⟩
theorem OwnsI.two (w : World) (x y : Int) : OwnsI (w.alloc (.cells #[.int .i64 x, .int .i64 y] 3)) w.heap.size (.slice (some ⟨w.heap.size, 0, none⟩) 2 2) [x, y] :=
  ⟨rfl, .inr ⟨w.heap.size, 2, #[.int .i64 x, .int .i64 y], rfl, Nat.le_refl _, Blk.new w _ _, Nat.le_refl _, by unfold maxLen; omega, rfl, rfl⟩⟩
/-- a list vc that is read, apart from the row v that grows -/
def Apt (w : World) (vc : Value) (S : List Int) (v : Value) : Prop := RdI w vc S ∧ ∀ g, vc.ownBlock = some g → g < w.heap.size ∧ v.ownBlock ≠ some g
theorem Apt.below {w w1 : World} {vc v : Value} {S : List Int} (h : Apt w vc S v) (hb : Below w.heap.size w w1) : Apt w1 vc S v :=
  ⟨h.1.below hb, fun g hg => ⟨Nat.lt_of_lt_of_le (h.2 g hg).1 hb.size, (h.2 g hg).2⟩⟩
theorem Apt.app {w w1 : World} {vc v v' : Value} {S : List Int} {o : Obj} (h : Apt w vc S v) (hg : (w.alloc o).grownBy w1 v.ownBlock) (hv : v'.ownBlock = v.ownBlock ∨ v'.ownBlock = some (w.heap.size + 1)) : Apt w1 vc S v' := by
  have h1 : Apt (w.alloc o) vc S v := h.below ((Below.refl _ _).alloc (Nat.le_refl _) _)
  refine ⟨h1.1.grown hg fun g hc => fun e => (h1.2 g hc).2 e.symm, fun g hc => ⟨Nat.lt_of_lt_of_le (h1.2 g hc).1 hg.size, fun e => ?_⟩⟩
  have h2 := h.2 g hc
  rcases hv with hv | hv
  · rw [hv] at e; exact h2.2 e
  · rw [hv] at e
    have h3 : w.heap.size + 1 = g := by injection e
    omega
theorem Apt.own {w : World} {base : Nat} {vc v : Value} {S : List Int} {b : Nat} (h : OwnsI w base vc S) (ho : ∀ g, v.ownBlock = some g → b ≤ g ∧ g < base) : Apt w vc S v :=
  ⟨h.rd, fun g hg => ⟨(h.lt g hg).2, fun e => by have := (h.lt g hg).1; have := (ho g e).2; omega⟩⟩
theorem wpList_app_int2 {ops : Array Oper} {rest : List Oper} {o : Oper} {a : Act} {Q : Exit → Act → World → Prop} {wr : World} {y : Int} (hgd : o.guard = none) (s x : Operand)
    (ho : o.op = .call { callee := .builtin .append, args := #[s, x], argTypes := #[29, 29] })
    (base : Nat) (v : Value) (xs : List Int) (hs : a.eval s = v) (hown : OwnsI wr base v xs) (hx : a.eval x = .slice (some ⟨wr.heap.size, 0, none⟩) 1 1)
    (hlen : xs.length < 1000000000000) (hbase : base ≤ wr.heap.size)
    (h : ∀ v' w1, OwnsI w1 base v' (xs ++ [y]) → Below base wr w1 → (wr.alloc (.cells #[.int .i64 y] 3)).grownBy w1 v.ownBlock → (v'.ownBlock = v.ownBlock ∨ v'.ownBlock = some (wr.heap.size + 1)) → wpList Tryz.prog ops Q rest (a.put o.dst v') w1) :
    wpList Tryz.prog ops Q (o :: rest) a (wr.alloc (.cells #[.int .i64 y] 3)) := by
  obtain ⟨i0, hi, hz0, hz1, hz2⟩ := info_parts Tryz.infoI
  refine wpList_append_own_at _ hgd s x 29 ho base 3 i0 (.int .i64 0) 1 8 Tryz.underlying29 hi hz0 hz1 hz2 rfl (by decide) v xs.length (xs.map (Value.int .i64)) hs (hown.alloc _) ⟨wr.heap.size, 0, none⟩ 1 1 [.int .i64 y] hx rfl ?_ ?_ ?_ ?_ ?_ ?_
  · intro j u hj
    match j, hj with
    | 0, hj => simp at hj; subst hj; simp [Addr.add]
  · intro u hu; simp at hu; subst hu; rfl
  · unfold maxLen; omega
  · omega
  · simp; omega
  · intro v' w1 hown' hgrow _ hv
    refine h v' w1 ?_ ?_ hgrow (by simpa using hv)
    · show w1.ownsRow _ _ _ _ _ _
      rw [List.length_append, List.map_append]; exact hown'
    · refine ((Below.refl base wr).alloc hbase _).grown hgrow (by simp; omega) (fun k hk => ?_)
      exact (World.ownsRow.lt hown k hk).1
/-- a list S, and the values of f at its first j numbers, put in order -/
def PutI (S : List Int) (f : Int → Int) (j : Nat) (M : List Int) : Prop := M.Pairwise (· < ·) ∧ M.Perm (S ++ (S.take j).map f)
theorem PutI.start {S : List Int} {f : Int → Int} (h : S.Pairwise (· < ·)) : PutI S f 0 S := ⟨h, by simp⟩
theorem PutI.len {S M : List Int} {f : Int → Int} {j : Nat} (h : PutI S f j M) (hj : j ≤ S.length) : M.length = S.length + j := by
  rw [h.2.length_eq, List.length_append, List.length_map, List.length_take]
  omega
theorem take_next {S : List Int} {j : Nat} (hj : j < S.length) : S.take (j + 1) = S.take j ++ [S[j]?.getD 0] := by
  rw [List.take_add_one, List.getElem?_eq_getElem hj]; rfl
theorem PutI.step {S M : List Int} {f : Int → Int} {j : Nat} (hn : (S ++ S.map f).Nodup) (h : PutI S f j M) (hj : j < S.length) : PutI S f (j + 1) (putV M (f (S[j]?.getD 0))) := by
  have hnot : f (S[j]?.getD 0) ∉ M := fun hm => by
    have hm' := h.2.mem_iff.1 hm
    have h1 : (S ++ (S.take (j + 1)).map f).Nodup := by
      refine List.Pairwise.sublist ?_ hn
      exact (List.Sublist.refl S).append ((List.take_sublist _ _).map f)
    rw [take_next hj, List.map_append, ← List.append_assoc, List.nodup_append] at h1
    exact h1.2.2 _ hm' _ (by simp) rfl
  refine ⟨putV_sorted h.1 _, (putV_perm M _ hnot).trans ?_⟩
  rw [take_next hj, List.map_append, ← List.append_assoc]
  exact ((h.2.cons _).trans (List.perm_append_comm (l₁ := [_])))
theorem PutI.all {S M : List Int} {f : Int → Int} (h : PutI S f S.length M) : M.Pairwise (· < ·) ∧ M.Perm (S ++ S.map f) := by
  unfold PutI at h
  rwa [List.take_length] at h
def srt (L : List Int) : List Int := L.mergeSort fun x y => decide (x ≤ y)
theorem srt_perm (L : List Int) : (srt L).Perm L := List.mergeSort_perm _ _
theorem srt_le (L : List Int) : (srt L).Pairwise (· ≤ ·) := by
  have h := List.pairwise_mergeSort (le := fun x y : Int => decide (x ≤ y)) (fun a b c h1 h2 => by simp at *; omega) (fun a b => by simp; omega) L
  exact h.imp fun h => by simpa using h
theorem srt_eq {S L : List Int} (hS : S.Pairwise (· < ·)) (hp : S.Perm L) : S = srt L :=
  List.Perm.eq_of_pairwise (le := (· ≤ ·)) (fun a b _ _ h1 h2 => by omega) (hS.imp fun h => by omega) (srt_le L) (hp.trans (srt_perm L).symm)
theorem srt_lt {L : List Int} (h : L.Nodup) : (srt L).Pairwise (· < ·) := by
  have h1 : (srt L).Nodup := (srt_perm L).nodup_iff.2 h
  have h2 := srt_le L
  unfold List.Nodup at h1
  exact (h1.and h2).imp fun ⟨a, b⟩ => by omega
/-- the squarefree divisors of n -/
def sdv (n : Int) : List Int := srt (sdG [-1, 1] (primesL n.natAbs))
theorem sdG_snoc : ∀ (ps out : List Int) (p : Int), sdG out (ps ++ [p]) = sdG out ps ++ (sdG out ps).map (· * p)
  | [], out, p => by simp [sdG]
  | q :: ps, out, p => by
    rw [List.cons_append]
    unfold sdG
    exact sdG_snoc ps _ p
/-- the divisors made out of the first k primes of n -/
def sdK (n : Int) (k : Nat) : List Int := sdG [-1, 1] ((primesL n.natAbs).take k)
theorem sdK_keep {n : Int} (hn : n ≠ 0) (hb : -91200 ≤ n ∧ n ≤ 91200) (k : Nat) : DvI n (sdK n k) [] ∧ (sdK n k).length ≤ 256 := by
  obtain ⟨h1, h2, h3⟩ := primes_few (n := n.natAbs) (by omega) (by omega)
  have hd : ∀ q ∈ (primesL n.natAbs).take k, q ∣ n ∧ 2 ≤ q := fun q hq => by
    have := h2 q (List.mem_of_mem_take hq)
    exact ⟨Int.dvd_natAbs.1 this.1, this.2⟩
  refine ⟨sd_keep hn _ _ (DvI.start _ _) hd (h3.sublist (List.take_sublist _ _)), ?_⟩
  unfold sdK
  rw [sd_len]
  have h4 : 2 ^ ((primesL n.natAbs).take k).length ≤ 2 ^ 7 := Nat.pow_le_pow_right (by omega) (by rw [List.length_take]; omega)
  have h5 : 2 ^ 7 = 128 := by decide
  have h6 : ([-1, 1] : List Int).length = 2 := rfl
  rw [h6]
  omega
theorem sdK_next {n : Int} {k : Nat} (hk : k < (primesL n.natAbs).length) : sdK n (k + 1) = sdK n k ++ (sdK n k).map (· * (primesL n.natAbs)[k]?.getD 0) := by
  unfold sdK
  rw [take_next hk, sdG_snoc]
/-- the numbers at hand when the k-th prime comes -/
theorem sdK_facts {n : Int} (hn : n ≠ 0) (hb : -91200 ≤ n ∧ n ≤ 91200) {k : Nat} {S : List Int} (hk : k < (primesL n.natAbs).length) (hp : S.Perm (sdK n k)) :
    ∃ p : Int, (primesL n.natAbs)[k]?.getD 0 = p ∧ (2 ≤ p ∧ p ≤ 91200) ∧ (∀ d ∈ S, -91200 ≤ d ∧ d ≤ 91200) ∧ S.length ≤ 128 ∧ (S ++ S.map (· * p)).Nodup ∧ ∀ M : List Int, M.Perm (S ++ S.map (· * p)) → M.Perm (sdK n (k + 1)) := by
  obtain ⟨_, h2, _⟩ := primes_few (n := n.natAbs) (by omega) (by omega)
  have h3 := h2 _ (List.getElem_mem hk)
  have he : (primesL n.natAbs)[k]?.getD 0 = (primesL n.natAbs)[k] := by rw [List.getElem?_eq_getElem hk]; rfl
  have hnext := sdK_next hk
  have hk1 := sdK_keep hn hb (k + 1)
  have hk0 := sdK_keep hn hb k
  have hpp : (S ++ S.map (· * (primesL n.natAbs)[k]?.getD 0)).Perm (sdK n (k + 1)) := by
    rw [hnext]
    exact hp.append (hp.map _)
  refine ⟨_, rfl, ?_, fun d hd => ?_, ?_, hpp.nodup_iff.2 hk1.1.2, fun M hM => hM.trans hpp⟩
  · rw [he]
    have := Int.le_of_dvd (by omega) h3.1
    omega
  · have := DvI.bd hn hk0.1 (hp.mem_iff.1 hd)
    omega
  · have h1 := hpp.length_eq
    rw [List.length_append, List.length_map] at h1
    omega
theorem sdv_facts {n : Int} (hn : n ≠ 0) (hb : -91200 ≤ n ∧ n ≤ 91200) : (∀ d ∈ sdv n, d ≠ 0 ∧ d.natAbs ≤ n.natAbs) ∧ (sdv n).length ≤ 256 ∧ (sdv n).Pairwise (· < ·) := by
  have h := sdK_keep hn hb (primesL n.natAbs).length
  unfold sdK at h
  rw [List.take_length] at h
  refine ⟨fun d hd => DvI.bd hn h.1 ((srt_perm _).mem_iff.1 hd), ?_, srt_lt h.1.2⟩
  unfold sdv
  rw [(srt_perm _).length_eq]
  exact h.2
set_option maxHeartbeats 2000000 in
theorem c_tcDivisors (n : Int) (hn : n ≠ 0) (hb : -91200 ≤ n ∧ n ≤ 91200) (w : World) :
    Calls Tryz.prog 82 #[.int .i64 n] w fun e w' => ∃ v, e = .returned v ∧ OwnsI w' w.heap.size v (sdv n) ∧ Below w.heap.size w w' := by
  have hfp := fact_primes (2 * (n.natAbs : Int).toNat) n.natAbs 2
  have hfl : (factL n.natAbs).map Prod.fst = primesL n.natAbs := hfp
  have hll : (factL n.natAbs).length = (primesL n.natAbs).length := by rw [← hfl, List.length_map]
  have HF := Lib.hid (fun (k : Nat) (S : List Int) (hk : k < (primesL n.natAbs).length) (hp : S.Perm (sdK n k)) => sdK_facts hn hb hk hp)
  have HN := Lib.hid hfl
  have HL := Lib.hid hll
  have HE : Hid (∀ S : List Int, S.Pairwise (· < ·) → S.Perm (sdK n (primesL n.natAbs).length) → S = sdv n) := Lib.hid fun S h1 h2 => by
    unfold sdK at h2
    rw [List.take_length] at h2
    exact srt_eq h1 h2
  have h7 := (primes_few (n := n.natAbs) (by omega) (by omega)).1
  have hO := OwnsI.two w (-1) 1
  have hb0 : Below w.heap.size w (w.alloc (.cells #[.int .i64 (-1), .int .i64 1] 3)) := (Below.refl _ _).alloc (Nat.le_refl _) _
  have hz0 := hb0.size
  clear hfp hfl hll
  go_enter Tryz.func82, Tryz.ntmps82
  go_wp2_with ((go_at_call 56; refine (c_l1Abs _ (by omega) _).mono ?_; rintro e w' ⟨rfl, rfl⟩))
  refine (c_mdFactors _ (by omega) _).mono ?_
  rintro e w1 ⟨v, rfl, hown, hbl⟩
  obtain ⟨a, cap, rfl, hcell⟩ := hown.form
  have HC := Lib.hid hcell
  have hO1 := hO.below hbl
  have hB1 := below_step hbl hz0 hb0
  clear hcell hown hbl hO hb0
  generalize Value.slice (some ⟨w.heap.size, 0, none⟩) 2 2 = v0 at *
  have hl7 : (factL n.natAbs).length ≤ 7 := by rw [HL.out]; exact h7
  generalize hFL : factL n.natAbs = F at *
  generalize hPL : primesL n.natAbs = P at *
  clear hFL hz0
  go_wp2
  go_loopw [3, 14] (fun o i wr => ∃ (k : Nat) (S : List Int), k ≤ F.length ∧ i = .int .i64 k ∧ OwnsI wr w.heap.size o S ∧ Below w1.heap.size w1 wr ∧ Hid (S.Pairwise (· < ·) ∧ S.Perm (sdK n k))) (fun _ i _ => F.length - (intOf i).toNat)
  case atStart => exact ⟨0, [-1, 1], Nat.zero_le _, rfl, hO1, Below.refl _ _, Lib.hid ⟨by decide, .refl _⟩⟩
  case round =>
    clear hO1
    obtain ⟨k, S, hk, rfl, hO, hb1, HI⟩ := hrel
    by_cases hlt : k < F.length
    · obtain ⟨g, g', rfl, hcx, hc0, _, hgl, _, hgl', _⟩ := HC.out k hlt
      have hcx1 := (hb1.cell (p := ⟨g, k, none⟩) hgl).trans hcx
      have hc01 := (hb1.cell (p := ⟨g', 0, none⟩) hgl').trans hc0
      have hkP : k < P.length := by have := HL.out; omega
      have hPk : P[k]?.getD 0 = F[k].1 := by
        rw [← HN.out, List.getElem?_map, List.getElem?_eq_getElem hlt]; rfl
      obtain ⟨p, hp0, hp, hd, hSl, hnd, hnx⟩ := HF.out k S hkP HI.out.2
      rw [hPk] at hp0
      rw [hp0] at hc01
      have HD := Lib.hid hd
      have HND := Lib.hid hnd
      have HNX := Lib.hid hnx
      have HS1 := Lib.hid HI.out.1
      clear hcx hc0 hPk hd hnd hnx HI hp0 hkP
      have hg1 := Nat.lt_of_lt_of_le hgl hb1.size
      have hg2 := Nat.lt_of_lt_of_le hgl' hb1.size
      obtain ⟨a', cap', rfl, _⟩ := id hO.form
      have HS := Lib.hid (fun (W : World) (hW : Below wr.heap.size wr W) => hO.rd.below hW)
      go_wp2
      go_loopw [6, 21] (fun m j wq => ∃ (i : Nat) (M : List Int), i ≤ S.length ∧ j = .int .i64 i ∧ OwnsI wq w.heap.size m M ∧ Below wr.heap.size wr wq ∧ Hid (PutI S (· * p) i M)) (fun _ j _ => S.length - (intOf j).toNat)
      case atStart => exact ⟨0, S, Nat.zero_le _, rfl, hO, Below.refl _ _, Lib.hid (PutI.start HS1.out)⟩
      case round =>
        obtain ⟨i, M, hi, rfl, hOM, hbq, HP⟩ := hrel
        by_cases hl2 : i < S.length
        · obtain ⟨cap2, e2, q⟩ : ∃ cap2, _ ∧ _ := ⟨cap', rfl, (HS.out _ hbq)⟩
          obtain ⟨a2, cap3, e3, hq⟩ := q
          obtain ⟨g2, o2, rfl, q2, _⟩ := hq i hl2
          injection e3 with e4 e5 e6
          subst e4
          clear hq e2 e5 e6
          have c0 := (hbq.cell (p := ⟨g', 0, none⟩) hg2).trans hc01
          have hdm := HD.out _ (by rw [show S[i]?.getD 0 = S[i] by rw [List.getElem?_eq_getElem hl2]; rfl]; exact List.getElem_mem hl2 : S[i]?.getD 0 ∈ S)
          have HZ := Lib.hid (PutI.step HND.out HP.out hl2)
          have hM := HP.out.len hi
          generalize S[i]?.getD 0 = d at *
          have m1 := mulb (x := d) (y := p) 91200 91200 hdm (by omega)
          have hzq := Nat.le_trans hB1.size (Nat.le_trans hb1.size hbq.size)
          have i0 : (i : Int) < (S.length : Int) := by omega
          go_wp2_with fail
          refine (c_l1Put w.heap.size _ M (d * p) (by omega) _ hzq hOM).mono ?_
          rintro e wz ⟨vz, rfl, hOz, hbz⟩
          go_wp2
          go_roundw
          case rel => exact ⟨i + 1, _, by omega, by go_num, hOz, below_step hbz hbq.size hbq, HZ⟩
          case measure => simp [intOf]; omega
        · obtain rfl : i = S.length := by omega
          have hall := HP.out.all
          have HA := Lib.hid (And.intro hall.1 (HNX.out _ hall.2))
          go_wp2
          go_roundw
          case rel => exact ⟨k + 1, M, by omega, by go_num, hOM, below_step hbq hb1.size hb1, HA⟩
          case measure => simp [intOf]; omega
    · obtain rfl : k = F.length := by omega
      have hfin := HE.out S HI.out.1 (by rw [← HL.out]; exact HI.out.2)
      go_wp2
      go_ret
      exact ⟨_, rfl, by rw [← hfin]; exact hO, below_step hb1 hB1.size hB1⟩
end Go.Proofs.YtbmcabphjfpkhaaGreat
