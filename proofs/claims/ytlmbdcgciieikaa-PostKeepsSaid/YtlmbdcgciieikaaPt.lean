/- Walks: post.Take. -/
import Derived.Test.YtlmbdcgciieikaaPd
namespace Go.Proofs.Ytlmbdcgciieikaa.Pt
open Go.Proofs.Ytlmbdcgciieikaa.Pu Go.Proofs.Ytlmbdcgciieikaa.Pd Go.RowKit Go.Proofs.YtlmbdcgciieikaaW.PrintWords Go.Proofs.YtlmbdcgciieikaaW.PrintLast Go.Proofs.YtlmbdcgciieikaaW.PrintMore Go.Proofs.Ytlmbdcgciieikaa.Mx Go.Proofs.Ytlmbdcgciieikaa.PPostAdds
set_option linter.unusedVariables false
set_option linter.unusedSimpArgs false
set_option maxRecDepth 100000 in
set_option maxHeartbeats 4000000 in
theorem take_ok (A : Option Addr) (c : Nat) (l : List S29) (k : Nat) (m : S29) (w : World) (hl : Kd.C k29 w A l.length l) (hc : l.length ≤ c) (hk : k < l.length) (hm : rd_T29 l (k : Int) = m) (hn : l.length ≤ 1900) (hs : ∀ m ∈ l, m.f7.length ≤ 1000000) :
    Calls Try.prog 12 #[.slice A l.length c, .int .i64 k] w fun e w' => ∃ v7 v, e = .returned (.tuple #[.agg #[.int .i64 m.f0, .int .i64 m.f1, .int .i64 m.f2, .int .i64 m.f3, .int .i64 m.f4, .int .i64 m.f5, .int .i64 m.f6, v7], v, .int .i64 0]) ∧ Mem w w' [row k29 29 v (l.eraseIdx k), row k48 48 v7 m.f7] := by
  obtain ⟨ad, A7, c7, e, hx0, hx1, hx2, hx3, hx4, hx5, hx6, hx7, lx7, ix7⟩ := at_T29 hl (k : Int) (by omega) (by omega)
  cases e
  have hm7 : m.f7.length ≤ 1000000 := by rw [← hm]; exact hs _ (rd_mem hk)
  rw [hm] at hx0 hx1 hx2 hx3 hx4 hx5 hx6 hx7 lx7 ix7
  have HL := Aside0.mk hl
  have HS := Aside0.mk hs
  have IX := Aside0.mk ix7
  have LX := Aside0.mk lx7
  have HC := Aside0.mk hc
  simp only [Int.toNat_natCast] at hx0 hx1 hx2 hx3 hx4 hx5 hx6 hx7
  have M0 := Aside0.mk ((Mem.nil w).alloc #[.int .i64 0, .int .i64 0, .int .i64 0, .int .i64 0, .int .i64 0, .int .i64 0, .int .i64 0, .slice none 0 0] 29)
  have bA : (ad.add (k * 8)).block < w.heap.size := World.block_lt_of_cell? w _ hx0
  have nA3 : ¬ (ad.add (k * 8)).block = w.heap.size := by omega
  have q1 : ((k : Int) < (l.length : Int)) = True := eq_true (by omega)
  have q2 : decide ((l.length : Int) ≤ (k : Int)) = false := decide_eq_false (by omega)
  have q3 : decide ((k : Int) < 0) = false := decide_eq_false (by omega)
  clear hl hs ix7 lx7 hc
  go_enter Try.func12, Try.ntmps12
  go_wp2_with fail
  refine (post_own.calls m.f0 m.f1 m.f2 m.f3 m.f4 m.f5 m.f6 A7 c7 m.f7 m.f0 m.f1 m.f2 m.f3 m.f4 m.f5 m.f6 m.f7 _ (Kd.C_below IX.out M0.out.below) LX.out (by unfold post_own.f; simp only [Option.bind_some, List.nil_append, List.length_nil, Nat.zero_add]; rw [if_pos (by omega)])).mono ?_
  rintro e w2 ⟨v7, rfl, hr7, hb⟩
  have M1 := Aside0.mk (M0.out.fresh hb hr7)
  obtain ⟨A8, c8, he, _, _⟩ := M1.out.row_at 0 rfl
  subst he
  clear hr7 hb
  go_wp2_with fail
  refine (post_copied.calls 2000 _ _ l l _ (Kd.C_below HL.out M1.out.below) HC.out (copied_f l (by omega) HS.out 2000 (by omega))).mono ?_
  rintro e w3 ⟨v, rfl, hr, hb⟩
  have M2 := Aside0.mk (M1.out.fresh hb (Kd.S_R hr))
  clear hr hb
  go_wp2_with fail
  refine (delete_calls w _ _ v l k M2.out hk (by omega)).mono ?_
  rintro e w4 ⟨v', rfl, hM3⟩
  have M3 := Aside0.mk hM3
  clear hM3
  have cB := blk_cell (M3.out.blk_at 2 rfl)
  have fB := blk_frozen (M3.out.blk_at 2 rfl)
  go_wp2_with fail
  have M4 := M3.out.setRow 2 rfl [.int .i64 m.f0, .int .i64 m.f1, .int .i64 m.f2, .int .i64 m.f3, .int .i64 m.f4, .int .i64 m.f5, .int .i64 m.f6, .slice A8 m.f7.length c8] rfl
  refine bodyPost_ret (results_list (rs := [.cell 4 29, .tmp 5, .tmp 6]) rfl (by simp) (.cell w.heap.size 29 #[.int .i64 m.f0, .int .i64 m.f1, .int .i64 m.f2, .int .i64 m.f3, .int .i64 m.f4, .int .i64 m.f5, .int .i64 m.f6, .slice A8 m.f7.length c8] (0, 0) _ rfl (M4.blk_at 2 rfl) Try.underlying29 rfl (by kernel_rfl) (.tmp (.tmp .nil)))) rfl ?_
  exact ⟨_, _, rfl, Mem.sel (ps := [_, _, _]) (F := []) [0, 1] 3 M4 rfl rfl⟩
end Go.Proofs.Ytlmbdcgciieikaa.Pt
