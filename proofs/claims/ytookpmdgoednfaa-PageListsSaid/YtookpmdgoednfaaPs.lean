/- Walks: sort.Search; which page a key is of, where in a page it is. -/
import Derived.Test.YtookpmdgoednfaaPa
import Derived.Test.YtookpmdgoednfaaLe
import Derived.RegionTactic
import Derived.Deep.QuietTactic
import Derived.BigQuiet
import Derived.Shelf.Abstract
import Derived.Deep.Draws
import Derived.Deep.LoopGhost
namespace Go.Proofs.Ytookpmdgoednfaa.Ps
open Go.RowKit Go.Proofs.YtookpmdgoednfaaW.PrintWords Go.Proofs.YtookpmdgoednfaaW.PrintLast Go.Proofs.YtookpmdgoednfaaW.PrintMore Go.Proofs.Ytookpmdgoednfaa.Mx Go.Proofs.Ytookpmdgoednfaa.PPagePuts Go.Proofs.Ytookpmdgoednfaa.Pa
attribute [local go_sem high] Go.Proofs.Ytookpmdgoednfaa.Le.str_leq Go.Proofs.Ytookpmdgoednfaa.Le.str_gtr Go.Proofs.Ytookpmdgoednfaa.Le.str_geq
set_option linter.unusedVariables false
set_option linter.unusedSimpArgs false
set_option maxRecDepth 100000 in
set_option maxHeartbeats 4000000 in
theorem search_calls (g : Nat) (cb : Array Value) (n : Nat) (p : Nat → Bool) (w : World) (eg : ∀ args w, (callFunc g args).run Try.prog w = .ok (.enter g args) w) (hsz : n < 1000000000)
    (hf : ∀ (m i : Nat), i < n → Calls Try.prog g (#[.int .i64 i] ++ cb) (w.drewN m) fun e w' => e = .returned (.bool (p i)) ∧ ∃ q, w' = (w.drewN m).drewN q)
    (k : Nat) (hk : k ≤ n) (h1 : ∀ t, t < k → p t = false) (h2 : ∀ t, k ≤ t → t < n → p t = true) :
    Calls Try.prog 106 #[.int .i64 n, .func (.func g) #[] cb] w fun e w' => e = .returned (.int .i64 k) ∧ ∃ q, w' = w.drewN q := by
  have HF := Aside0.mk hf
  have H1 := Aside0.mk h1
  have H2 := Aside0.mk h2
  clear hf h1 h2
  go_enter Try.func106, Try.ntmps106
  go_wp2
  go_loopg [5, 6] n (fun kx s5 s6 wr => ∃ (lo hi q : Nat), s5 = .int .i64 lo ∧ s6 = .int .i64 hi ∧ lo ≤ k ∧ k ≤ hi ∧ hi ≤ n ∧ hi - lo ≤ kx ∧ wr = w.drewN q)
  case atStart => exact ⟨0, n, 0, rfl, rfl, Nat.zero_le _, hk, Nat.le_refl _, by omega, rfl⟩
  case round =>
    obtain ⟨lo, hi, q, rfl, rfl, hlk, hkh, hin, hg, rfl⟩ := hrel
    by_cases hlt : lo < hi
    · have hc := HF.out q ((lo + hi) / 2) (by omega)
      rw [show (((lo + hi) / 2 : Nat) : Int) = ((lo : Int) + (hi : Int)) / 2 by omega] at hc
      have HM := Aside0.mk (show p ((lo + hi) / 2) = false → (lo + hi) / 2 < k from fun h => Nat.lt_of_not_le (fun g => by rw [H2.out _ g (by omega)] at h; cases h))
      have HM2 := Aside0.mk (show p ((lo + hi) / 2) = true → k ≤ (lo + hi) / 2 from fun h => Nat.le_of_not_lt (fun g => by rw [H1.out _ g] at h; cases h))
      cases hp : p ((lo + hi) / 2) <;> rw [hp] at hc
      · have h3 := HM.out hp
        clear hp
        go_wp2_with (go_at_fn g; refine hc.mono ?_; rintro e w' ⟨rfl, nq, rfl⟩)
        go_roundg (hi - ((lo + hi) / 2 + 1))
        case measure => omega
        case rel => exact ⟨(lo + hi) / 2 + 1, hi, q + nq, by rw [show ((lo : Int) + (hi : Int)) / 2 + 1 = (((lo + hi) / 2 + 1 : Nat) : Int) by omega], rfl, by omega, hkh, hin, Nat.le_refl _, rfl⟩
      · have h3 := HM2.out hp
        clear hp
        go_wp2_with (go_at_fn g; refine hc.mono ?_; rintro e w' ⟨rfl, nq, rfl⟩)
        go_roundg ((lo + hi) / 2 - lo)
        case measure => omega
        case rel => exact ⟨lo, (lo + hi) / 2, q + nq, rfl, by rw [show ((lo : Int) + (hi : Int)) / 2 = (((lo + hi) / 2 : Nat) : Int) by omega], hlk, h3, by omega, Nat.le_refl _, rfl⟩
    · obtain rfl : hi = lo := by omega
      obtain rfl : k = hi := by omega
      go_wp2
      go_ret
      exact ⟨rfl, q, rfl⟩
/-- The first key of a page. -/
def fk (p : List SP) : List UInt8 := (rd_T41 p 0).f0.toList
set_option maxHeartbeats 2000000 in
theorem of1_calls (b1 b2 : Nat) (A : Option Addr) (c : Nat) (ps : List (List SP)) (key : ByteArray) (i : Nat) (W : World) (hi : i < ps.length) (ha : W.cell? ⟨b1, 0, none⟩ = some (.slice A ps.length c)) (hx : W.cell? ⟨b2, 0, none⟩ = some (.string key)) (hC : Kd.C (Kd.slice 41 kP) W A ps.length ps) (hne : 0 < (rd_L2 ps i).length) :
    Calls Try.prog 107 (#[.int .i64 i] ++ #[.pointer (some ⟨b1, 0, none⟩), .pointer (some ⟨b2, 0, none⟩)]) W fun e w' => e = .returned (.bool (Op.bytesLess key.toList (fk (rd_L2 ps i)))) ∧ ∃ q, w' = W.drewN q := by
  obtain ⟨ad, A0, c0, e, hy, hc0, hC0⟩ := at_L2 hC (i : Int) (by omega) (by omega)
  cases e
  obtain ⟨ad0, e, hz, _⟩ := at_T41 hC0 0 (by omega) (by omega)
  cases e
  rw [Int.toNat_natCast] at hy
  have hi1 : ((i : Int) < (ps.length : Int)) = True := eq_true (by omega)
  have hi2 : ((0 : Int) < ((rd_L2 ps i).length : Int)) = True := eq_true (by omega)
  unfold fk
  generalize (rd_T41 (rd_L2 ps ↑i) 0).f0 = kk at *
  clear hC hC0 hc0
  have hz0 : W.cell? ad0 = some (.string kk) := by simpa [Addr.add] using hz
  go_enter Try.func107, Try.ntmps107
  go_wp2
  go_region
  all_goals go_wp2
  all_goals go_ret
  all_goals exact ⟨by first | rfl | simp, 1, rfl⟩
set_option maxHeartbeats 2000000 in
theorem at1_calls (b1 b2 : Nat) (A : Option Addr) (c : Nat) (p : List SP) (key : ByteArray) (i : Nat) (W : World) (hi : i < p.length) (ha : W.cell? ⟨b1, 0, none⟩ = some (.slice A p.length c)) (hx : W.cell? ⟨b2, 0, none⟩ = some (.string key)) (hC : Kd.C kP W A p.length p) :
    Calls Try.prog 108 (#[.int .i64 i] ++ #[.pointer (some ⟨b1, 0, none⟩), .pointer (some ⟨b2, 0, none⟩)]) W fun e w' => e = .returned (.bool (!Op.bytesLess (rd_T41 p i).f0.toList key.toList)) ∧ ∃ q, w' = W.drewN q := by
  obtain ⟨ad, e, hz, _⟩ := at_T41 hC (i : Int) (by omega) (by omega)
  cases e
  rw [Int.toNat_natCast] at hz
  have hi1 : ((i : Int) < (p.length : Int)) = True := eq_true (by omega)
  generalize (rd_T41 p ↑i).f0 = kk at *
  clear hC
  go_enter Try.func108, Try.ntmps108
  go_wp2
  go_region
  all_goals go_wp2
  all_goals go_ret
  all_goals exact ⟨by first | rfl | simp, 1, rfl⟩
theorem enters_of1 : ∀ args w, (callFunc 107 args).run Try.prog w = .ok (.enter 107 args) w := enters_of Try.func107 (by kernel_rfl) rfl
theorem enters_at1 : ∀ args w, (callFunc 108 args).run Try.prog w = .ok (.enter 108 args) w := enters_of Try.func108 (by kernel_rfl) rfl
set_option maxRecDepth 100000 in
set_option maxHeartbeats 4000000 in
theorem of_calls (A : Option Addr) (c : Nat) (ps : List (List SP)) (key : ByteArray) (w : World) (hC : Kd.C (Kd.slice 41 kP) w A ps.length ps) (hn : ps.length ≤ 1000000) (hne : ∀ i : Nat, i < ps.length → 0 < (rd_L2 ps i).length)
    (k : Nat) (hk : k ≤ ps.length) (h1 : ∀ t : Nat, t < k → Op.bytesLess key.toList (fk (rd_L2 ps t)) = false) (h2 : ∀ t : Nat, k ≤ t → t < ps.length → Op.bytesLess key.toList (fk (rd_L2 ps t)) = true) :
    Calls Try.prog 70 #[.slice A ps.length c, .string key] w fun e w' => e = .returned (.int .i64 ((k - 1 : Nat) : Int)) ∧ Mem w w' [] := by
  have M0 := Aside0.mk (((Mem.nil w).alloc #[.slice A ps.length c] 22).allocAt #[.string key] 9 (w.heap.size + 1) (by simp))
  have HS := Aside0.mk (search_calls 107 #[.pointer (some ⟨w.heap.size, 0, none⟩), .pointer (some ⟨w.heap.size + 1, 0, none⟩)] ps.length (fun i => Op.bytesLess key.toList (fk (rd_L2 ps i))) _ enters_of1 (by omega)
    (fun m i hi => of1_calls w.heap.size (w.heap.size + 1) A c ps key i _ hi (blk_cell ((M0.out.drewN m).blk_at 1 rfl) 0) (blk_cell ((M0.out.drewN m).blk_at 0 rfl) 0) (Kd.C_below hC (M0.out.drewN m).below) (hne i hi)) k hk h1 h2)
  clear hC hne h1 h2
  rcases k with _ | k
  all_goals
    go_enter Try.func70, Try.ntmps70
    go_wp2_with (go_at_call 106; refine HS.out.mono ?_; rintro e w' ⟨rfl, q, rfl⟩)
    go_ret
    exact ⟨by first | rfl | (congr 2; simp; omega), Mem.sel (ps := [_, _]) (F := []) [] 2 (M0.out.drewN q) rfl rfl⟩
set_option maxRecDepth 100000 in
set_option maxHeartbeats 4000000 in
theorem at_calls (A : Option Addr) (c : Nat) (p : List SP) (key : ByteArray) (w : World) (hC : Kd.C kP w A p.length p) (hn : p.length ≤ 1000000)
    (k : Nat) (hk : k ≤ p.length) (h1 : ∀ t : Nat, t < k → Op.bytesLess (rd_T41 p t).f0.toList key.toList = true) (h2 : ∀ t : Nat, k ≤ t → t < p.length → Op.bytesLess (rd_T41 p t).f0.toList key.toList = false)
    (b : Bool) (hb : b = (decide (k < p.length) && ((rd_T41 p k).f0.toList == key.toList))) :
    Calls Try.prog 71 #[.slice A p.length c, .string key] w fun e w' => e = .returned (.tuple #[.int .i64 k, .bool b]) ∧ Mem w w' [] := by
  have M0 := Aside0.mk (((Mem.nil w).alloc #[.slice A p.length c] 32).allocAt #[.string key] 9 (w.heap.size + 1) (by simp))
  have HS := Aside0.mk (search_calls 108 #[.pointer (some ⟨w.heap.size, 0, none⟩), .pointer (some ⟨w.heap.size + 1, 0, none⟩)] p.length (fun i => !Op.bytesLess (rd_T41 p i).f0.toList key.toList) _ enters_at1 (by omega)
    (fun m i hi => at1_calls w.heap.size (w.heap.size + 1) A c p key i _ hi (blk_cell ((M0.out.drewN m).blk_at 1 rfl) 0) (blk_cell ((M0.out.drewN m).blk_at 0 rfl) 0) (Kd.C_below hC (M0.out.drewN m).below)) k hk (fun t ht => by rw [h1 t ht]; rfl) (fun t h3 h4 => by rw [h2 t h3 h4]; rfl))
  have HC := Aside0.mk hC
  clear hC h1 h2
  by_cases hlt : k < p.length
  · have hd1 : decide ((k : Int) < (p.length : Int)) = true := decide_eq_true (by omega)
    rw [decide_eq_true hlt, Bool.true_and] at hb
    obtain ⟨ad, e, hz, _⟩ := at_T41 HC.out (k : Int) (by omega) (by omega)
    cases e
    rw [Int.toNat_natCast] at hz
    have hzl := World.block_lt_of_cell? w _ hz
    have hi1 : ((k : Int) < (p.length : Int)) = True := eq_true (by omega)
    have hkb : k < 1000000 := by omega
    clear hk hlt
    subst hb
    go_enter Try.func71, Try.ntmps71
    go_wp2_with (go_at_call 106; refine HS.out.mono ?_; rintro e w' ⟨rfl, q, rfl⟩; have M1 := Aside0.mk (M0.out.drewN q); have hz3 := (M0.out.below.cell hzl).trans hz; have c1 := blk_cell (M0.out.blk_at 1 rfl); have c0 := blk_cell (M0.out.blk_at 0 rfl))
    go_quiet (fail)
    go_wp2
    go_ret2
    exact ⟨rfl, Mem.sel (ps := [_, _]) (F := []) [] 2 (M1.out.drewN _) rfl rfl⟩
  · have hd1 : decide ((k : Int) < (p.length : Int)) = false := decide_eq_false (by omega)
    have hd2 : decide (k < p.length) = false := decide_eq_false hlt
    rw [decide_eq_false hlt, Bool.false_and] at hb
    have hkb : k ≤ 1000000 := by omega
    clear hk hlt
    subst hb
    go_enter Try.func71, Try.ntmps71
    go_wp2_with (go_at_call 106; refine HS.out.mono ?_; rintro e w' ⟨rfl, q, rfl⟩; have M1 := Aside0.mk (M0.out.drewN q); have c1 := blk_cell (M0.out.blk_at 1 rfl); have c0 := blk_cell (M0.out.blk_at 0 rfl))
    go_quiet (fail)
    go_wp2
    go_ret2
    exact ⟨rfl, Mem.sel (ps := [_, _]) (F := []) [] 2 (M1.out.drewN _) rfl rfl⟩
end Go.Proofs.Ytookpmdgoednfaa.Ps
