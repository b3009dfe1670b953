/- The document's example: nine pairs, two pages. -/
import Derived.Test.YtookpmdgoednfaaPp
import Derived.Test.YtookpmdgoednfaaPy
namespace Go.Proofs.Ytookpmdgoednfaa.Pn
open Go.RowKit Go.Proofs.YtookpmdgoednfaaW.PrintWords Go.Proofs.YtookpmdgoednfaaW.PrintLast Go.Proofs.YtookpmdgoednfaaW.PrintMore Go.Proofs.Ytookpmdgoednfaa.Mx Go.Proofs.Ytookpmdgoednfaa.PPagePuts Go.Proofs.Ytookpmdgoednfaa.Pa Go.Proofs.Ytookpmdgoednfaa.Ps Go.Proofs.Ytookpmdgoednfaa.Pp
set_option linter.unusedVariables false
set_option linter.unusedSimpArgs false
def kA (i : Nat) : ByteArray := ⟨#[UInt8.ofNat (97 + i)]⟩
def dx : ByteArray := ⟨#[120]⟩
def ls (i : Nat) : List SP := (List.range i).map (fun j => ⟨kA j, dx⟩)
def pages (i : Nat) : List (List SP) := if i = 0 then [] else if i ≤ 8 then [ls i] else [(ls 9).take 4, (ls 9).drop 4]
theorem ls_len (i : Nat) : (ls i).length = i := by unfold ls; simp
theorem ls_succ (i : Nat) : (ls i).take i ++ [⟨kA i, dx⟩] ++ (ls i).drop i = ls (i + 1) := by
  rw [List.take_of_length_le (by rw [ls_len]; exact Nat.le_refl _), List.drop_eq_nil_of_le (by rw [ls_len]; exact Nat.le_refl _), List.append_nil]
  unfold ls
  rw [List.range_succ, List.map_append]
  rfl
theorem F1 : ∀ i, i < 9 → 1 ≤ i → Op.bytesLess (kA i).toList (fk (rd_L2 [ls i] ((0 : Nat) : Int))) = false := by decide +kernel
theorem F2 : ∀ i, i < 9 → ∀ t, t < i → Op.bytesLess (rd_T41 (ls i) (t : Int)).f0.toList (kA i).toList = true := by decide +kernel
theorem F3 : ∀ i, i < 9 → Py.right (pages i) = true := by decide +kernel
theorem right_at (i : Nat) (hi : i < 9) : ∃ k, page_Right.f k (pages i) = some true := by
  have h := Py.page_right (pages i) (by unfold pages; split; simp; split <;> simp)
  rw [F3 i hi] at h
  exact h.rounds
theorem put_step (i : Nat) (hi : i < 9) (A : Option Addr) (c : Nat) (w : World) (hC : Kd.C (Kd.slice 41 kP) w A (pages i).length (pages i)) (hc : (pages i).length ≤ c) :
    Calls Try.prog 25 #[.slice A (pages i).length c, .string (kA i), .string dx] w fun e w' => ∃ (v : Value) (hs : List Hd), e = .returned v ∧ PgM w w' v hs (pages (i + 1)) [] := by
  obtain ⟨k0, hR⟩ := right_at i hi
  by_cases h0 : i = 0
  · subst h0
    exact Put_none A c (kA 0) dx w hC k0 hR
  have hp : pages i = [ls i] := by unfold pages; rw [if_neg h0, if_pos (by omega)]
  rw [hp] at hC hc hR ⊢
  have h1 : ∀ t : Nat, t < 1 → Op.bytesLess (kA i).toList (fk (rd_L2 [ls i] (t : Int))) = false := fun t ht => by
    obtain rfl : t = 0 := by omega
    exact F1 i hi (by omega)
  have h2 : ∀ t : Nat, 1 ≤ t → t < [ls i].length → Op.bytesLess (kA i).toList (fk (rd_L2 [ls i] (t : Int))) = true := fun t ht h => by simp at h; omega
  have g2 : ∀ t : Nat, i ≤ t → t < (ls i).length → Op.bytesLess (rd_T41 (ls i) (t : Int)).f0.toList (kA i).toList = false := fun t ht h => by rw [ls_len] at h; omega
  have hb : (decide (i < (ls i).length) && ((rd_T41 (ls i) (i : Int)).f0.toList == (kA i).toList)) = false := by rw [ls_len, decide_eq_false (Nat.lt_irrefl i), Bool.false_and]
  have hpp : ∀ p ∈ [ls i], 0 < p.length ∧ p.length ≤ 8 := fun p h => by rw [List.mem_singleton.1 h, ls_len]; omega
  by_cases h8 : i = 8
  · have h := Put_parts A c [ls i] (kA i) dx w hC hc k0 hR (by simp) (by simp) hpp 1 (by simp) h1 h2 (ls i) rfl i (by rw [ls_len]; exact Nat.le_refl _) (F2 i hi) g2 hb (by rw [ls_len]; exact h8) (ls (i + 1)) (ls_succ i)
    refine h.mono fun e w' ⟨v, hs, he, hM⟩ => ⟨v, hs, he, ?_⟩
    subst h8
    exact hM
  · have h := Put_fits A c [ls i] (kA i) dx w hC hc k0 hR (by simp) (by simp) hpp 1 (by simp) h1 h2 (ls i) rfl i (by rw [ls_len]; exact Nat.le_refl _) (F2 i hi) g2 hb (by rw [ls_len]; omega) (ls (i + 1)) (ls_succ i)
    refine h.mono fun e w' ⟨v, hs, he, hM⟩ => ⟨v, hs, he, ?_⟩
    have e2 : pages (i + 1) = [ls (i + 1)] := by unfold pages; rw [if_neg (by omega), if_pos (by omega)]
    rw [e2]
    exact hM
set_option maxRecDepth 100000 in
set_option maxHeartbeats 4000000 in
theorem awake_calls (w : World) : Calls Try.prog 22 #[] w fun e w' => e = .returned (.bool true) ∧ Mem w w' [] := by
  have M0 := Aside0.mk (PgM.nil w)
  go_enter Try.func22, Try.ntmps22
  go_wp2_with fail
  go_loopg [1, 2] 10 (fun kq v1 v2 w' => ∃ (i : Nat) (hs : List Hd), v2 = .int .i64 i ∧ Aside0 (i ≤ 9 ∧ kq = 10 - i) ∧ Aside0 (PgM w w' v1 hs (pages i) []))
  case atStart => exact ⟨0, [], rfl, ⟨by omega, by omega⟩, M0⟩
  case round =>
    obtain ⟨i, hs, rfl, HK, M1⟩ := hrel
    clear M0
    by_cases hlt : i < 9
    · obtain ⟨A, c, hv, hc, _, hC⟩ := M1.out.read
      subst hv
      have hd1 : decide ((i : Int) < 9) = true := decide_eq_true (by omega)
      have HS := Aside0.mk (fun (W : World) (hb : Below wr.heap.size wr W) => put_step i hlt A c W (Kd.C_below hC hb) hc)
      clear hc hC
      have hsz : (wr.alloc (.cells #[.int .u8 (97 + (i : Int))] 5)).heap.size = wr.heap.size + 1 := by simp
      have hcv : (convert 102 9 (.slice (some ⟨wr.heap.size, 0, none⟩) 1 1)).run Try.prog (wr.alloc (.cells #[.int .u8 (97 + (i : Int))] 5)) = .ok (.string (kA i)) (wr.alloc (.cells #[.int .u8 (97 + (i : Int))] 5)) := by
        have h := run_convert_bytes_arg (P := Try.prog) (wr.alloc (.cells #[.int .u8 (97 + (i : Int))] 5)) 102 5 Try.underlying102 Try.underlying5 wr.heap.size 0 1 1 [97 + (i : Int)] rfl (fun j hj => by
          obtain rfl : j = 0 := by omega
          have := blk_cell (((Mem.nil wr).allocAt #[.int .u8 (97 + (i : Int))] 5 wr.heap.size rfl).blk_at 0 rfl) 0
          exact this) 9 Try.underlying9
        have e : strOfNums [97 + (i : Int)] = kA i := by
          unfold strOfNums kA
          rw [List.map_cons, List.map_nil, show (97 + (i : Int)).toNat = 97 + i by omega]
        rw [e] at h
        exact h
      clear hsz
      have M2 := Aside0.mk (M1.out.grow (below_alloc (Below.refl wr.heap.size wr) (.cells #[.int .u8 (97 + (i : Int))] 5)))
      go_wp2_with fail
      refine (HS.out _ (below_alloc (Below.refl _ _) _)).mono ?_
      rintro e w1 ⟨v, hs1, rfl, hM⟩
      have M3 := Aside0.mk (show PgM w w1 v hs1 (pages (i + 1)) [] from ⟨hM.len, (M2.out.mem.trans hM.mem).reindex id id (fun j r hj => by
        refine ⟨?_, rfl⟩
        rw [List.append_nil] at hj
        show (row kH _ v hs1 :: (inner hs1 (pages (i + 1)) ++ []) ++ _)[j]? = _
        rw [List.append_nil, List.getElem?_append_left (List.getElem?_eq_some_iff.1 hj).1]
        exact hj)⟩)
      clear hM M2 M1
      go_wp2_with fail
      go_roundg (9 - i)
      case measure => have := HK.out; omega
      case rel => exact ⟨i + 1, hs1, by go_num, ⟨by omega, by omega⟩, M3⟩
    · have h9 : i = 9 := by have := HK.out; omega
      have H9 := Aside0.mk h9
      obtain ⟨A, c, hv, hc, _, hC⟩ := M1.out.read
      subst hv
      rw [h9] at hC
      have hd1 : decide ((i : Int) < 9) = false := decide_eq_false (by omega)
      have hl : (pages i).length = 2 := by rw [h9]; rfl
      rw [hl]
      have HC := Aside0.mk hC
      obtain ⟨ad, A0, c0, e, hx0, hc0, hC0⟩ := at_L2 HC.out 0 (by decide) (by decide)
      cases e
      obtain ⟨ad', A1, c1, e, hx1, hc1, hC1⟩ := at_L2 HC.out 1 (by decide) (by decide)
      cases e
      have hC1' : Kd.C kP wr A1 5 (rd_L2 (pages 9) 1) := hC1
      obtain ⟨ad1, e, hx2, _⟩ := at_T41 hC1' 0 (by decide) (by decide)
      cases e
      have hk : (rd_T41 (rd_L2 (pages 9) 1) 0).f0 = kA 4 := rfl
      rw [hk] at hx2
      have hx00 : wr.cell? ad = some (.slice A0 (rd_L2 (pages 9) 0).length c0) := by simpa [Addr.add] using hx0
      have hx0' : wr.cell? ad = some (.slice A0 4 c0) := hx00
      have hx1' : wr.cell? (ad.add 1) = some (.slice (some ad1) 5 c1) := hx1
      have hx1'' : wr.cell? ⟨ad.block, ad.off + 1, none⟩ = some (.slice (some ad1) 5 c1) := by rw [← add_succ_ ad 0]; exact hx1'
      clear hx1'
      have hx2' : wr.cell? ad1 = some (.string (kA 4)) := by simpa [Addr.add] using hx2
      have hke : ((kA 4).toList == (⟨#[101]⟩ : ByteArray).toList) = true := by kernel_rfl
      have M4 := Aside0.mk M1.out.mem
      clear h9 hl hC hC0 hC1 hC1' hx0 hx00 hx1 hx2 hk hc hc0 hc1 M1
      go_wp2
      go_ret
      have hk2 : ((kA 4).toList == [101]) = true := by kernel_rfl
      exact ⟨by show Ending.returned (Value.bool ((kA 4).toList == [101])) = _; rw [hk2], M4.out.reindex id id (fun j r hj => by simp at hj)⟩
end Go.Proofs.Ytookpmdgoednfaa.Pn
